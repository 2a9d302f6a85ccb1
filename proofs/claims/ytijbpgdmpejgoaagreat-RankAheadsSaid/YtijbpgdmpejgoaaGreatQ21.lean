import Derived.Test.YtijbpgdmpejgoaaGreatQ20
set_option linter.all false
set_option linter.unusedVariables false
set_option linter.unusedSimpArgs false
namespace Go.Gl
open Go.Proofs
attribute [local irreducible] Bj Bf Ba Al Aa BS Ao Aq Ac BO Ah Ap Bz CA Sat A7 B8 Be W
theorem RZ {σ:AH} {X:List At} {L:Nat} {pre post:List DM} {e:DM} {s:List DM} (h:Sat σ (X++CW L (pre++e::(post++s)))):Sat σ (.own e.vs 1 (iL e.k.AN)::(X++Hx L pre post e s)):=by
 have h2:=HG h;refine h2.perm ((Mn _ _ _ _).symm.trans (.cons _ ?_));exact(List.perm_middle.trans (.cons _ List.perm_middle)).symm
theorem kS {σ:AH} {X:List At} {L:Nat} {pre post:List DM} {e:DM} {s:List DM} (h:Sat σ (.own e.vs 1 (iL e.k.AN)::(X++Hx L pre post e s))):Sat σ (X++CW L (pre++e::(post++s))):=by
 refine EZ (X:=X) (e:=e) (e':=e) rfl rfl rfl ?_;refine h.perm ?_;refine List.Perm.trans (.cons _ (List.perm_middle.trans (.cons _ List.perm_middle))) ?_;exact Mn _ _ _ _
theorem fh (s:Nat) (c:Int) (hs0:s<18446744073709551616) (h0:0≤c) (hc:c<64):Pure Tryz.prog 152 [eU s,eI c] (.b (s.testBit c.toNat)):=by
 have:=Rg s c.toNat hs0 (by omega);rw[Int.toNat_of_nonneg h0]at this;exact this
theorem dJ {m:Nat} (hm:m<18446744073709551616):N7 m 1=HC m:=by
 refine Nat.eq_of_testBit_eq fun i=>?_
 rw[UB];rcases Nat.lt_or_ge i 64 with hlt|hge
 ·rw[Oo hlt,show(1:Nat)=2 ^ 0 from rfl,Nat.testBit_two_pow]
  congr 2;rw[Bool.eq_iff_iff,D8,FQ];omega
 ·have h64:18446744073709551616≤2 ^ i:=by simpa using Nat.pow_le_pow_right (n:=2) (by decide) hge
  rw[Nat.testBit_lt_two_pow (Nat.lt_of_lt_of_le (SQ _ _) h64),Nat.testBit_lt_two_pow (Nat.lt_of_lt_of_le hm h64)];rfl
set_option maxHeartbeats 4000000 in
theorem QO (w:AP) (hw:FZ w) {kf:Int→List Int→Kn} (hr:Iw w kf) {a:Int} {p:List Int} (hp:p.length≤2) (can:Int→Bool)
 (hcan: ∀s∈(kf a p).AN,∀L es,EC kf es→CL Tryz.prog 260 [Sm w (Eu w.parents) L,Eg a (p++[s])] (CW L es) fun r post=>r= .ret (.b (can s))∧OB kf L es post) {L:Nat} {es:List DM} (h:EC kf es) :
 CL Tryz.prog 280 [Sm w (Eu w.parents) L,Eg a p] (CW L es) fun r post=>r= .ret (.t [eU (NL w (kf a p) (fun s=>(kf a (p++[s])).A8) can).1,.b (NL w (kf a p) (fun s=>(kf a (p++[s])).A8) can).2])∧OB kf L es post:=by
 intro σ hs;have hM:=Mx;generalize hus:Eu w.parents=us at *;refine ui nb ?_
 conv=>whnf
 repeat'((first|refine st ?_|(refine sq ?_;intro K U)|(refine si ?_;intro A B Y Z)|(refine Y _ _ ?_;clear Z B Y A)|(refine U _ _ ?_;clear U K)|refine⟨nb,?_⟩|fail)<;>conv=>whnf)
 refine(Ku w us h (a:=a) (p:=p) hp).use (rest:=[]) (by simpa using hs) ?_;clear hs;rintro r post σ ⟨es4,e4,got,rfl,rfl⟩ hs;have hek:=got.k;obtain⟨pre,post,rfl⟩:=List.append_of_mem got.mem;rw[List.append_nil]at hs;have hsc:=hs;replace hs:=HG (X:=[]) hs;have hok:=hr.ok a p;have hsl:=(hr.ok a p).2.2.2;have hsh:=hr.short a p;have hsw:=hr.AN a p;rw[←hek]at hok hsl hsh hsw hcan;have hO:NL w (kf a p) (fun s=>(kf a (p++[s])).A8) can=NL w e4.k (fun s=>(kf a (p++[s])).A8) can:=by rw[hek]
 have hOn:(e4.k.whole=true∨e4.k.CO.testBit 1=true∨e4.k.CO.testBit 2=true∨e4.k.GX.testBit 0=true)→NL w (kf a p) (fun s=>(kf a (p++[s])).A8) can=(0,false):=fun h=>by
  rw[hO,NL,if_pos];rcases h with h|h|h|h<;>rw[h]<;>simp
 have hOy:e4.k.whole=false→e4.k.CO.testBit 1=false→e4.k.CO.testBit 2=false→e4.k.GX.testBit 0=false→NL w (kf a p) (fun s=>(kf a (p++[s])).A8) can=match IL w (fun s=>(kf a (p++[s])).A8) can e4.k.AN (e4.k.CO,e4.k.GX)with
  | none=>(0,false)
  | some u=>(HC (Ds (Eu w.parents) w.parents.length u.1),HC (Ds (Eu w.parents) w.parents.length u.1)&&&u.2==0):=fun h1 h2 h3 h4=>by
  rw[hO,NL,h1,h2,h3,h4];rfl
 clear hO;cases hb0:e4.k.whole<;>rw[hb0]at hs
 rotate_left
 ·conv=>whnf
  repeat'((first|refine st ?_|(refine sq ?_;intro K U)|(refine si ?_;intro A B Y Z)|(refine Y _ _ ?_;clear Z B Y A)|(refine U _ _ ?_;clear U K)|refine dr ?_|refine ld ?_|clear U K)<;>conv=>whnf)
  exact AS ⟨_,⟨by rw[hOn (.inl hb0)];rfl,_,got.ext,got.inv,rfl⟩,hsc⟩
 ·conv => whnf
  repeat'((first|refine st ?_|(refine sq ?_;intro K U)|(refine si ?_;intro A B Y Z)|(refine Y _ _ ?_;clear Z B Y A)|(refine U _ _ ?_;clear U K)|refine dr ?_|refine lo ?_|refine ld ?_|refine Pure.use (Rg e4.k.CO 1 hok.1 (by decide)) ?_|refine Pure.use (Rg e4.k.CO 2 hok.1 (by decide)) ?_|refine Pure.use (Rg e4.k.GX 0 hok.2.1 (by decide)) ?_|(constructor<;>intro hc<;>(try rw[hc])<;>(replace hc:=bp hc))|clear U K)<;>conv=>whnf)
  all_goals first
   | exact AS ⟨_,⟨by rw[hOn (by first|exact .inl (by assumption)|exact .inr (.inl (by assumption))|exact .inr (.inr (.inl (by assumption)))|exact .inr (.inr (.inr (by assumption))))];rfl,_,got.ext,got.inv,rfl⟩,hsc⟩
   | skip
  replace hOy:=hOy hb0 (by assumption) (by assumption) (by assumption);clear hOn;generalize hnf:(fun s=>(kf a (p++[s])).A8)=A8 at *
  have hs1:Sat σ (.own e4.vs 1 (iL e4.k.AN)::Hx L pre post e4 []):=by
   have h2:=RZ (X:=[]) (L:=L) (pre:=pre) (post:=post) (e:=e4) (s:=[]) (by simpa using hsc);simpa using h2
  refine C5 e4.k.AN.length (fun k (x:(Nat×Nat)×List DM)=>[(47,eI (Bw k)),(7,eU x.1.1),(8,eU x.1.2)]) (fun k x=> .own e4.vs 1 (iL e4.k.AN)::Hx L pre post e4 x.2) (fun k x=>(x.1.1<18446744073709551616∧x.1.2<18446744073709551616)∧(EC kf (pre++e4::(post++x.2))∧ ∀y∈x.2,y.k=k0)∧IL w A8 can e4.k.AN (e4.k.CO,e4.k.GX)=IL w A8 can (e4.k.AN.drop k) x.1) ((e4.k.CO,e4.k.GX),[]) rfl ⟨⟨hok.1,hok.2.1⟩,⟨by simpa using got.inv,by simp⟩,rfl⟩ hs1 ?_;clear hs hs1 hsc;rintro k ⟨⟨m,no⟩,new⟩ σ hk ⟨⟨hm,hno⟩,⟨hinv,hnew⟩,hF⟩ hs;simp only at hm hno hinv hnew hF hs;have hck:Bw k=k:=AU (by have:=hok.2.2.2;omega);rcases B0 e4.k.AN hk with⟨s,hsk,hlt⟩|hke
  ·have hsm:=DL hsk
   have hp2:p.length<2:=by
    rcases Nat.lt_or_ge p.length 2 with h'|h'
    ·exact h'
    ·rw[hsh h']at hsm;cases hsm
   obtain⟨hs0,hs1⟩:=hsw s hsm;rw[drop_cons hsk,IL]at hF
   conv=>whnf
   repeat'((first|refine st ?_|(refine sq ?_;intro K U)|(refine si ?_;intro A B Y Z)|(refine Y _ _ ?_;clear Z B Y A)|(refine U _ _ ?_;clear U K)|refine dr ?_|refine⟨rfl,?_⟩|refine⟨nb,?_⟩|refine ld ?_|refine Hi fun σ hs=>?_|refine oi ?_|refine ol fun x hx=>?_|(refine Et (fun hc=>?_)<;>(try rw[hc])<;>clear hc)|refine Pure.use (Nj a p _ hp2) ?_|(intro nn hnn;generalize hg:BI _ nn _=σ;refine Fy hg fun hs=>?_;clear hg)|fail)<;>conv=>whnf)
   obtain rfl:x=s:=by rw[hck,Int.toNat_natCast,hsk]at hx;exact(Option.some.inj hx).symm
   generalize nn=n7 at *;have hs2:Sat σ ([.box n7 (Kg a (p++[x]))]++CW L (pre++e4::(post++new))):=kS (X:=[.box n7 (Kg a (p++[x]))]) (hs.perm (.swap _ _ _));clear hs;obtain⟨o,ho⟩: ∃o,w.owner[x.toNat]? =some o:=⟨_,E4 (by omega)⟩
   have hoI:D9 w x=o:=by simp only[D9,E9,ho];rfl
   obtain⟨ho1,ho2⟩:=hw.2.2 o (DL ho);have hwp:=hw.1.1;have hcx:=hcan x hsm L;cases hnx:A8 x<;>cases hcy:can x
   all_goals
    rw[hcy]at hcx;rw[Wb,hnx,hcy,hoI]at hF;refine(Ku w us hinv (a:=a) (p:=p++[x]) (by simp;omega)).use (rest:=[.box n7 (Kg a (p++[x]))]) (hs2.perm List.perm_append_comm) ?_;clear hs2;rintro r post' σ ⟨es5,e5,got5,rfl,rfl⟩ hs;have hek5:e5.k.A8=A8 x:=by rw[got5.k,←hnf]
    rw[hnx]at hek5;obtain⟨newA,heA,hnA⟩:=got5.ext;obtain⟨pre5,post5,he5⟩:=List.append_of_mem got5.mem;rw[he5]at hs;replace hs:=HG (X:=[.box n7 (Kg a (p++[x]))]) (hs.perm List.perm_append_comm);rw[hek5]at hs
    conv=>whnf
    repeat'((first|refine dr ?_|refine rk ?_ ?_|exact fun s e=>by cases e;rfl|refine⟨nb,?_⟩|refine ld ?_|fail)<;>conv=>whnf)
    have hs2:Sat σ ([.box n7 (Kg a (p++[x]))]++CW L (pre5++e5::post5)):=EZ (X:=[.box n7 (Kg a (p++[x]))]) (e:=e5) (e':=e5) rfl rfl rfl (by rw[←hek5]at hs;exact hs);clear hs;refine(hcx es5 got5.inv).use (rest:=[.box n7 (Kg a (p++[x]))]) (by rw[he5];exact hs2.perm List.perm_append_comm) ?_;clear hs2;rintro r post' σ ⟨rfl,es6,⟨new6,he6,hn6⟩,hi6,rfl⟩ hs;have he7:es6=pre5++e5::(post5++new6):=by rw[he6,he5];simp
    rw[he7]at hs;replace hs:=HG (X:=[.box n7 (Kg a (p++[x]))]) (hs.perm List.perm_append_comm);rw[hek5]at hs
    conv=>whnf
    repeat'((first|refine st ?_|(refine sq ?_;intro K U)|(refine si ?_;intro A B Y Z)|(refine Y _ _ ?_;clear Z B Y A)|(refine U _ _ ?_;clear U K)|refine dr ?_|refine rk ?_ ?_|exact fun s e=>by cases e;rfl|refine⟨rfl,?_⟩|refine Sp ?_|refine ld ?_|refine Ls ?_|refine IV ?_|refine Pure.use (HL m o hm (by omega) (by omega)) ?_|refine Pure.use (HL no o hno (by omega) (by omega)) ?_|clear U K)<;>conv=>whnf)
    simp only[Bool.not_false,Bool.not_true,Bool.and_true,Bool.and_false,Mk,if_false,if_true,Option.bind_some,Option.bind_none]at hF;have e7:es6=pre++e4::(post++(new++newA++new6)):=by rw[he6,heA];simp
    have hs2:Sat σ ([.box n7 (Kg a (p++[x]))]++CW L (pre5++e5::(post5++new6))):=EZ (X:=[.box n7 (Kg a (p++[x]))]) (e:=e5) (e':=e5) rfl rfl rfl (by rw[←hek5]at hs;exact hs)
    have hs3:Sat σ (CW L (pre++e4::(post++(new++newA++new6)))):=by
     rw[←he7,e7]at hs2;exact hs2.less (List.sublist_append_right _ _)
    have hi7:EC kf (pre++e4::(post++(new++newA++new6))):=by rw[←e7];exact hi6
    have hn7: ∀y∈new++newA++new6,y.k=k0:=fun y hy=>by
     rcases Fo.1 hy with hy|hy
     ·rcases Fo.1 hy with hy|hy
      ·exact hnew y hy
      ·exact hnA y hy
     ·exact hn6 y hy
    have hob:2 ^ o.toNat<18446744073709551616:=J7 (by omega)
   ·exact⟨hlt,((m,no|||2 ^ o.toNat),new++newA++new6),rfl,⟨⟨hm,Ko hno hob⟩,⟨hi7,hn7⟩,hF⟩,RZ (X:=[]) hs3⟩
   ·exact⟨hlt,((m,no),new++newA++new6),rfl,⟨⟨hm,hno⟩,⟨hi7,hn7⟩,hF⟩,RZ (X:=[]) hs3⟩
   ·rw[hF]at hOy
    exact AS ⟨_,⟨by rw[hOy];rfl,_,got.ext.trans ⟨_,by simp,hn7⟩,hi7,rfl⟩,hs3⟩
   ·exact⟨hlt,((m|||2 ^ o.toNat,no),new++newA++new6),rfl,⟨⟨Ko hm hob,hno⟩,⟨hi7,hn7⟩,hF⟩,RZ (X:=[]) hs3⟩
  ·rw [Ax hke,IL]at hF
   rw[hF]at hOy;simp only at hOy
   conv=>whnf
   repeat'((first|refine st ?_|(refine sq ?_;intro K U)|(refine si ?_;intro A B Y Z)|(refine Y _ _ ?_;clear Z B Y A)|(refine U _ _ ?_;clear U K)|refine⟨rfl,?_⟩|(refine F4 (fun hc=>?_)<;>(try rw[hc])<;>clear hc)|clear U K)<;>conv=>whnf)
   have hu:x3 us:=by rw[←hus];exact LH _ _ (by have:=hw.1.1;omega)
   have hul:us.length=3+w.parents.length:=by rw[←hus];exact Fz _ _
   have hwp:=hw.1.1;have hwl:IntKind.i64.wrap (3+((El w.parents).length:Nat))=3+(w.parents.length:Int):=by rw[B2,wrap64 (by omega) (by omega)]
   refine C5 w.parents.length (fun k (x:Nat)=>[(14,eI (Kl 3 k)),(7,eU x)]) (fun _ _=> .own e4.vs 1 (iL e4.k.AN)::Hx L pre post e4 new) (fun k x=>x<18446744073709551616∧x=Ds us k m) m rfl ⟨hm,rfl⟩ hs ?_;clear hs;clear hke hck hk k;rintro k x σ hk ⟨hx64,hxe⟩ hs;have hc3:Kl 3 k=3+k:=Nr (by omega) (by omega);by_cases hlt:k<w.parents.length
   ·have hbt:Ds us (k+1) m=if x.testBit (Kl 3 k).toNat then x|||us.getD (3+k) 0 else x:=by
     rw[Ds,←hxe,hc3,show(3+(k:Int)).toNat=3+k by omega]
    have hup:(List.drop ((Kl 3 k).toNat*1) (List.drop 2 (wC w us)))[0]? =some (eU (us.getD (3+k) 0)):=by
     rw[xl,xl,←lJ w us (i:=3+k) (by omega)];congr 1;omega
    conv=>whnf
    repeat'((first|refine st ?_|(refine sq ?_;intro K U)|(refine si ?_;intro A B Y Z)|(refine Y _ _ ?_;clear Z B Y A)|(refine U _ _ ?_;clear U K)|refine⟨rfl,?_⟩|refine iar ?_|(rw[hup])|refine Pure.use (fh x (Kl 3 k) hx64 (by omega) (by omega)) ?_|(constructor<;>intro hc<;>(try rw[hc])<;>(replace hc:=bp hc)<;>(try simp(disch:=omega) only[B2,wrap64,AU]at hc)<;>try(exfalso;omega))|clear U K)<;>conv=>whnf)
    ·refine⟨hlt,x|||us.getD (3+k) 0,?_,⟨Ko hx64 (Ra hu _),by rw[hbt,if_pos (by assumption)]⟩,hs⟩
     rw[LD hx64 (Ra hu _)];rfl
    ·exact⟨hlt,x,rfl,⟨hx64,by rw[hbt,if_neg (by rw[‹x.testBit _=false›];decide)]⟩,hs⟩
   ·have hke:k=w.parents.length:=by omega
    rw[hus,←hke,←hxe]at hOy
    have Y:bits .andNot .u64 (x:Int) 1=((HC x:Nat):Int):=by
     have:=Qp (a:=x) (b:=1);rw[dJ hx64]at this;exact this
    have hcl:HC x<18446744073709551616:=by unfold HC;omega
    have Z:bits .and .u64 ((HC x:Nat):Int) (no:Int)=((HC x&&&no:Nat):Int):=LW hcl hno
    conv=>whnf
    repeat'((first|refine st ?_|(refine sq ?_;intro K U)|(refine si ?_;intro A B Y Z)|(refine Y _ _ ?_;clear Z B Y A)|(refine U _ _ ?_;clear U K)|refine⟨rfl,?_⟩|(constructor<;>intro hc<;>(try rw[hc])<;>(replace hc:=bp hc)<;>(try simp(disch:=omega) only[B2,wrap64,AU]at hc)<;>try(exfalso;omega))|clear U K)<;>conv=>whnf)
    rw[Y,Z];refine AS ⟨_,⟨?_,_,got.ext.trans ⟨new,by simp,hnew⟩,hinv,rfl⟩,r5 hs⟩;rw[hOy]
    have hz:(((HC x&&&no:Nat):Int)==0)=(HC x&&&no==0):=by
     rw[Bool.eq_iff_iff,FQ,FQ];omega
    rw[←hz]
theorem xZ (w:AP) (hw:FZ w) {kf:Int→List Int→Kn} (hr:Iw w kf) (a:Int): ∀(d:Nat) (p:List Int),p.length+d=2→ ∀(L:Nat) (es:List DM),EC kf es→
 CL Tryz.prog 260 [Sm w (Eu w.parents) L,Eg a p] (CW L es) fun r post=>r= .ret (.b (NP w kf a d p))∧OB kf L es post:=by
 intro d
 induction d with
 | zero=>
   intro p hp L es h σ hs;have hint:=PI w (Eu w.parents) hr h (L:=L) (a:=a) (p:=p) (by omega);have hnone:=fun es h=>XD w (Eu w.parents) hr (es:=es) h (L:=L) (a:=a) (p:=p) (by omega)
   have hobj:=fun es h=>QO w hw hr (a:=a) (p:=p) (by omega) (fun _=>false) (by rw[hr.short a p (by omega)];intro s hs;cases hs) (L:=L) (es:=es) h
   rw[NP];cases hI:RJ kf a p<;>cases hN:Kp kf a p<;>rw[hI]at hint<;>rw[hN]at hnone
   all_goals
    refine an nb ?_
    conv=>whnf
    repeat'((first|refine st ?_|(refine sq ?_;intro K U)|(refine si ?_;intro A B Y Z)|(refine Y _ _ ?_;clear Z B Y A)|(refine U _ _ ?_;clear U K)|refine⟨nb,?_⟩|fail)<;>conv=>whnf)
    refine hint.use (rest:=[]) (by simpa using hs) ?_;clear hs;rintro r post σ ⟨rfl,es2,hx2,hi2,rfl⟩ hs;rw[List.append_nil]at hs
    conv=>whnf
    repeat'((first|refine st ?_|(refine sq ?_;intro K U)|(refine si ?_;intro A B Y Z)|(refine Y _ _ ?_;clear Z B Y A)|(refine U _ _ ?_;clear U K)|refine⟨nb,?_⟩|clear U K)<;>conv=>whnf)
   rotate_left 2
   ·exact AS ⟨_,⟨rfl,es2,hx2,hi2,rfl⟩,hs⟩
   ·exact AS ⟨_,⟨rfl,es2,hx2,hi2,rfl⟩,hs⟩
   all_goals
    refine(hnone es2 hi2).use (rest:=[]) (by simpa using hs) ?_;clear hs;rintro r post σ ⟨rfl,es3,hx3,hi3,rfl⟩ hs;rw[List.append_nil]at hs
    conv=>whnf
    repeat'((first|refine st ?_|(refine sq ?_;intro K U)|(refine si ?_;intro A B Y Z)|(refine Y _ _ ?_;clear Z B Y A)|(refine U _ _ ?_;clear U K)|refine⟨nb,?_⟩|refine Ls ?_|refine IV ?_|clear U K)<;>conv=>whnf)
   rotate_left 1
   ·exact AS ⟨_,⟨rfl,es3,hx2.trans hx3,hi3,rfl⟩,hs⟩
   ·refine(hobj es3 hi3).use (rest:=[]) (by simpa using hs) ?_
    clear hs;rintro r post σ ⟨rfl,es4,hx4,hi4,rfl⟩ hs;rw[List.append_nil]at hs
    conv=>whnf
    repeat'((first|refine st ?_|(refine sq ?_;intro K U)|(refine si ?_;intro A B Y Z)|(refine Y _ _ ?_;clear Z B Y A)|(refine U _ _ ?_;clear U K)|fail)<;>conv=>whnf)
    exact AS ⟨_,⟨rfl,es4,(hx2.trans hx3).trans hx4,hi4,rfl⟩,hs⟩
 | succ d ih=>
   intro p hp L es h σ hs;have hint:=PI w (Eu w.parents) hr h (L:=L) (a:=a) (p:=p) (by omega);have hnone:=fun es h=>XD w (Eu w.parents) hr (es:=es) h (L:=L) (a:=a) (p:=p) (by omega)
   have hobj:=fun es h=>QO w hw hr (a:=a) (p:=p) (by omega) (fun s=>NP w kf a d (p++[s])) (fun s hs L es h=>ih (p++[s]) (by simp;omega) L es h) (L:=L) (es:=es) h
   rw[NP];cases hI:RJ kf a p<;>cases hN:Kp kf a p<;>rw[hI]at hint<;>rw[hN]at hnone
   all_goals
    refine an nb ?_
    conv=>whnf
    repeat'((first|refine st ?_|(refine sq ?_;intro K U)|(refine si ?_;intro A B Y Z)|(refine Y _ _ ?_;clear Z B Y A)|(refine U _ _ ?_;clear U K)|refine⟨nb,?_⟩|fail)<;>conv=>whnf)
    refine hint.use (rest:=[]) (by simpa using hs) ?_;clear hs;rintro r post σ ⟨rfl,es2,hx2,hi2,rfl⟩ hs;rw[List.append_nil]at hs
    conv=>whnf
    repeat'((first|refine st ?_|(refine sq ?_;intro K U)|(refine si ?_;intro A B Y Z)|(refine Y _ _ ?_;clear Z B Y A)|(refine U _ _ ?_;clear U K)|refine⟨nb,?_⟩|clear U K)<;>conv=>whnf)
   rotate_left 2
   ·exact AS ⟨_,⟨rfl,es2,hx2,hi2,rfl⟩,hs⟩
   ·exact AS ⟨_,⟨rfl,es2,hx2,hi2,rfl⟩,hs⟩
   all_goals
    refine(hnone es2 hi2).use (rest:=[]) (by simpa using hs) ?_;clear hs;rintro r post σ ⟨rfl,es3,hx3,hi3,rfl⟩ hs;rw[List.append_nil]at hs
    conv=>whnf
    repeat'((first|refine st ?_|(refine sq ?_;intro K U)|(refine si ?_;intro A B Y Z)|(refine Y _ _ ?_;clear Z B Y A)|(refine U _ _ ?_;clear U K)|refine⟨nb,?_⟩|refine Ls ?_|refine IV ?_|clear U K)<;>conv=>whnf)
   rotate_left 1
   ·exact AS ⟨_,⟨rfl,es3,hx2.trans hx3,hi3,rfl⟩,hs⟩
   ·refine(hobj es3 hi3).use (rest:=[]) (by simpa using hs) ?_
    clear hs;rintro r post σ ⟨rfl,es4,hx4,hi4,rfl⟩ hs;rw[List.append_nil]at hs
    conv=>whnf
    repeat'((first|refine st ?_|(refine sq ?_;intro K U)|(refine si ?_;intro A B Y Z)|(refine Y _ _ ?_;clear Z B Y A)|(refine U _ _ ?_;clear U K)|fail)<;>conv=>whnf)
    exact AS ⟨_,⟨rfl,es4,(hx2.trans hx3).trans hx4,hi4,rfl⟩,hs⟩
abbrev pV:V:= .E2 257 (.a [])
theorem bW (w:AP) (hw:FZ w) {kf:Int→List Int→Kn} (hr:Iw w kf) {L:Nat} {es:List DM} (h:EC kf es) :
 CL Tryz.prog 231 [Sm w (Eu w.parents) L] (CW L es) fun r post=>r=(if Zb w kf then .ret (.t [])else .By pV)∧post= []:=by
 intro σ hs;refine vR nb ?_
 conv=>whnf
 repeat'((first|refine st ?_|(refine sq ?_;intro K U)|(refine si ?_;intro A B Y Z)|(refine Y _ _ ?_;clear Z B Y A)|(refine U _ _ ?_;clear U K)|fail)<;>conv=>whnf)
 refine C5 3 (fun k (x:List DM)=>[(3,eI (Bw k))]) (fun k x=>CW L x) (fun k x=>EC kf x∧Zb w kf=((C9 3).drop k).all fun a=>NP w kf a 2 []) es rfl ⟨h,rfl⟩ hs ?_;clear hs h;rintro k es σ hk ⟨h,hn⟩ hs;have hck:Bw k=k:=AU (by simp only[Ak];omega);have hl3:(C9 3).length=3:=rfl;rcases B0 (C9 3) hk with⟨a,ha,hlt⟩|hke
 ·rw[drop_cons ha,List.all_cons]at hn
  have hak:a=Bw k:=by
   rw[hck];simp only[C9,Pu,List.getElem?_range (show k<3 from hlt),ZW]at ha;exact(Option.some.inj ha).symm
  subst hak;have hcan:=xZ w hw hr (Bw k) 2 [] rfl L es h;cases hC:NP w kf (Bw k) 2 []<;>rw[hC]at hcan hn
  all_goals
   conv=>whnf
   repeat'((first|refine st ?_|(refine sq ?_;intro K U)|(refine si ?_;intro A B Y Z)|(refine Y _ _ ?_;clear Z B Y A)|(refine U _ _ ?_;clear U K)|refine⟨rfl,?_⟩|(constructor<;>intro hc<;>(try rw[hc])<;>(replace hc:=bp hc)<;>(try simp(disch:=omega) only[B2,wrap64,AU]at hc)<;>try(exfalso;omega))|fail)<;>conv=>whnf)
   refine hcan.use (rest:=[]) (by simpa using hs) ?_;clear hs;rintro r post σ ⟨rfl,es2,hx2,hi2,rfl⟩ hs;rw[List.append_nil]at hs
   conv=>whnf
   repeat'((first|refine st ?_|(refine si ?_;intro A B Y Z)|(refine Y _ _ ?_;clear Z B Y A)|(refine Z _ _ _ ?_;clear Z B Y A)|(refine U _ _ ?_;clear U K)|refine⟨rfl,?_⟩|refine Ls ?_|refine IV ?_|clear U K)<;>conv=>whnf)
  ·exact DY ⟨_,⟨by rw[hn];rfl,rfl⟩,hs.less (List.nil_sublist _)⟩
  ·exact⟨by omega,es2,rfl,⟨hi2,by simpa using hn⟩,hs⟩
 ·rw[Ax hke]at hn
  conv=>whnf
  repeat'((first|refine st ?_|(refine sq ?_;intro K U)|(refine si ?_;intro A B Y Z)|(refine Y _ _ ?_;clear Z B Y A)|(refine U _ _ ?_;clear U K)|refine⟨rfl,?_⟩|(constructor<;>intro hc<;>(try rw[hc])<;>(replace hc:=bp hc)<;>(try simp(disch:=omega) only[B2,wrap64,AU]at hc)<;>try(exfalso;omega))|clear U K)<;>conv=>whnf)
  exact AS ⟨_,⟨by rw[hn];rfl,rfl⟩,hs.less (List.nil_sublist _)⟩
theorem Xl {w:AP} {ls:List Fact} (hw:w.parents.length≤60) (h: ∀x∈ls,Ii w x):VW ls:=by
 intro l hl;obtain⟨-,hc,hsm,hsh⟩:=LP h;obtain⟨-,hn,hlf⟩:=I1 (h l hl);exact⟨Gj hlf,hsh l hl,fun ho=>by have:=hc l hl ho;omega,hsm l hl⟩
theorem tQ {ls:List Fact} (h:J5 ls) (a:Int) (p:List Int): -1000000000≤(kn ls a p).low∧(kn ls a p).low≤1000000000:=by
 have key: ∀(ls:List Fact) (k:Kn),J5 ls→(-1000000000≤k.low∧k.low≤1000000000)→ -1000000000≤(ls.foldl (DR a p) k).low∧(ls.foldl (DR a p) k).low≤1000000000:=by
  intro ls
  induction ls with
  | nil=>intro k _ h;exact h
  | cons l r ih=>
    intro k hs hk;refine ih _ (fun x hx=>hs x (.tail _ hx)) ?_;have hn:=hs l (.head _);unfold DR C6 Dw dM
    repeat' split
    all_goals first
     | exact hk
     | exact hn
     | (simp only;exact hk)
     | (simp only;exact hn)
 exact key ls k0 h ⟨by decide,by decide⟩
theorem W5 {w:AP} {ls:List Fact} (h: ∀x∈ls,Ii w x):Hp w.owner.length ls:=by
 intro l hl s hs;obtain⟨-,hn,-⟩:=I1 (h l hl);rw[Df,Bn]at hn;have:=hn.1;simp only[Da,FU,Bn,IU,Iq,D8]at this;exact this.2.2.2.2.1.1 s hs
theorem eg {w:AP} (hw:FZ w) {ls:List Fact} (h: ∀x∈ls,Ii w x) (hlen:ls.length<900):Iw w (kn ls):=by
 have hadd:=Xl (by have:=hw.1.1;omega) h;obtain⟨-,-,hsm,hsh⟩:=LP h;have hp:=W5 h;refine⟨fun a p=>?_,tQ hsm,fun a p hpl=>?_,fun a p s hs=>?_⟩
 ·obtain⟨h1,h2,h3,h4⟩:=aW hadd a p
  exact⟨h1,h2,by omega,by omega⟩
 ·rw[LQ hp]
  exact QC hsh hpl
 ·rw[LQ hp]at hs
  exact ML hs
theorem sK {w:AP} (hw:FZ w) {ls:List Fact} (h: ∀x∈ls,Ii w x):Zb w (kn ls)=Hk w ls:=by
 obtain⟨-,hc,-,-⟩:=LP h;refine sL ?_ (fun s h0 h1=>?_) (by have:=hw.1.1;omega) (fun l hl ho=>by have:=hc l hl ho;omega) (W5 h)
 ·exact JS hw.1
 ·obtain⟨o,ho⟩: ∃o,w.owner[s.toNat]? =some o:=⟨_,E4 (by omega)⟩
  have hoI:D9 w s=o:=by simp only[D9,E9,ho];rfl
  rw[hoI];exact hw.2.2 o (DL ho)
theorem kL {σ:AH} {n:Nat} {x:V} {rest:List At} (hs:Sat σ (.box n [x]::rest)) {Q:AH→Prop} (hq: ∀σ',Sat σ' (.box n [.b false]::rest)→Q σ'):HD Tryz.prog 229 [.p n 0] (some pV) σ Q:=by
 refine Xb nb ?_
 conv=>whnf
 repeat'((first|refine st ?_|(refine sq ?_;intro K U)|(refine si ?_;intro A B Y Z)|(refine Y _ _ ?_;clear Z B Y A)|(refine U _ _ ?_;clear U K)|refine Lq fun σ hs=>?_|refine Hi fun σ hs=>?_|refine rm rfl ?_|(intro nn hnn;generalize hg:BI _ nn _=σ;refine Fy hg fun hs=>?_;clear hg)|fail)<;>conv=>whnf)
 exact hq _ (hs.less (List.sublist_cons_self _ _))
theorem kN {σ:AH} {n:Nat} {x:V} {rest:List At} (hs:Sat σ (.box n [x]::rest)) {Q:AH→Prop} (hq: ∀σ',Sat σ' (.box n [x]::rest)→Q σ'):HD Tryz.prog 229 [.p n 0] none σ Q:=by
 refine Xb nb ?_
 conv=>whnf
 repeat'((first|refine st ?_|(refine sq ?_;intro K U)|(refine si ?_;intro A B Y Z)|(refine Y _ _ ?_;clear Z B Y A)|(refine U _ _ ?_;clear U K)|refine⟨rfl,?_⟩|refine Hi fun σ hs=>?_|(intro nn hnn;generalize hg:BI _ nn _=σ;refine Fy hg fun hs=>?_;clear hg)|fail)<;>conv=>whnf)
 exact hq _ (hs.less (List.sublist_cons_self _ _))
attribute [local irreducible] HD
theorem UO (w:AP) (hw:FZ w) (ls:List Fact) (b:Bool) (hl: ∀x∈ls,Ii w x) (hlen:ls.length<900):Pure Tryz.prog 183 [.rp (wC w (Eu w.parents)),.l (E5 ls) b] (.b (Hk w ls)):=by
 refine Pure.of ?_;refine wI nb ?_;have hs:=Sn
 conv=>whnf
 repeat'((first|(refine sq ?_;intro K U)|(refine si ?_;intro A B Y Z)|(refine Y _ _ ?_;clear Z B Y A)|(refine U _ _ ?_;clear U K)|(intro nn hnn;generalize hg:BI _ nn _=σ;refine Fy hg fun hs=>?_;clear hg)|fail)<;>conv=>whnf)
 refine(bf w (Eu w.parents) ls b (Xl (by have:=hw.1.1;omega) hl) hlen).use (rest:=[.box nn [.b false]]) (by simpa using hs) ?_;clear hs;rintro r post σ ⟨L,es,rfl,hinv,rfl⟩ hs;have hwh:=bW w hw (eg hw hl hlen) hinv (L:=L);rw[sK hw hl]at hwh;cases ht:Hk w ls<;>rw[ht]at hwh
 all_goals
  conv=>whnf
  refine hwh.use (rest:=[.box nn [.b false]]) hs ?_;clear hs;rintro r post σ ⟨rfl,rfl⟩ hs
  conv=>whnf
  repeat'((first|refine st ?_|(refine sq ?_;intro K U)|(refine si ?_;intro A B Y Z)|(refine Y _ _ ?_;clear Z B Y A)|(refine Z _ _ _ ?_;clear Z B Y A)|(refine U _ _ ?_;clear U K)|refine Lq fun σ hs=>?_|clear U K)<;>conv=>whnf)
 ·refine kL (rest:=[]) hs fun σ hs=>?_
  conv=>whnf
  repeat'((first|refine ld ?_|fail)<;>conv=>whnf)
  exact AS (by rw[ht];rfl)
 ·refine kN (rest:=[]) (x:= .b true) hs fun σ hs=>?_
  conv=>whnf
  repeat'((first|refine ld ?_|fail)<;>conv=>whnf)
  exact AS (by rw[ht];rfl)
end Go.Gl
namespace Go.Gl
open Go.Proofs
attribute [local irreducible] Bj Bf Ba Al Aa BS Ao Aq Ac BO Ah Ap Bz CA Sat A7 B8 Be W
def Si {α S:Type} (stp:α→S→Bool×S) (D:α→S→Prop):List α→S→Prop
 | [],_=>True
 | y::r,s=>D y s∧((stp y s).1=true→Si stp D r (stp y s).2)
section
variable {α β S:Type} {stp:α→S→Bool×S} {D:α→S→Prop}
theorem Oq: ∀(A B:List α) (s:S),Cx stp (A++B) s=if(Cx stp A s).1 then Cx stp B (Cx stp A s).2 else(false,(Cx stp A s).2)
 | [],B,s=>by simp[Cx]
 | y::r,B,s=>by
   rw[List.cons_append,Cx,Cx];cases(stp y s).1
   ·rfl
   ·simpa using Oq r B (stp y s).2
theorem UG (l:α) (s:S):Cx stp [l] s=stp l s:=by
 rw[Cx,Cx];rcases stp l s with⟨b,s'⟩;cases b<;>rfl
theorem R4: ∀ {A B:List α} {s:S},Si stp D (A++B) s→Si stp D A s∧((Cx stp A s).1=true→Si stp D B (Cx stp A s).2)
 | [],B,s,h=>⟨trivial,fun _=>h⟩
 | y ::r,B,s,h=>by
   obtain⟨h1,h2⟩:=h;rw[Si,Cx];cases hy:(stp y s).1
   ·exact⟨⟨h1,fun h=>(by cases h)⟩,fun h=>(by simp at h)⟩
   ·obtain⟨h3,h4⟩:=R4 (h2 hy)
    exact⟨⟨h1,fun _=>h3⟩,by simpa using h4⟩
theorem Ni {A:List α}: ∀ {B:List α} {s:S},(∀y∈B,y∈A)→Si stp D B s→Si stp (fun y s=>y∈A∧D y s) B s
 | [],_,_,_=>trivial
 | y::r,_,hm,h=>⟨⟨hm y (.head _),h.1⟩,fun hy=>Ni (fun z hz=>hm z (.tail _ hz)) (h.2 hy)⟩
theorem W8 {g:β→α}: ∀ {B:List β} {s:S},Si stp D (B.map g) s→Si (fun b s=>stp (g b) s) (fun b s=>D (g b) s) B s
 | [],_,_=>trivial
 | y::r,_,h=>⟨h.1,fun hy=>W8 (h.2 hy)⟩
end
section
variable {S:Type} {stp:List Fact→S→Bool×S} {D:List Fact→S→Prop}
theorem Qt (B:List (List Fact)): ∀(A:List (List Fact)) (s:S),Cx stp (EN A B) s=Cx (fun x s=>Cx (fun y s=>stp (Cy x y) s) B s) A s
 | [],s=>rfl
 | x::r,s=>by
   have ih:=Qt B r;rw[EN,List.flatMap_cons,Oq,LZ,Cx];simp only[EN]at ih;rw[ih]
theorem To (B:List (List Fact)): ∀ {A:List (List Fact)} {s:S},Si stp D (EN A B) s→Si (fun x s=>Cx (fun y s=>stp (Cy x y) s) B s) (fun x s=>Si (fun y s=>stp (Cy x y) s) (fun y s=>D (Cy x y) s) B s) A s
 | [],_,_=>trivial
 | x::r,s,h=>by
   rw[EN,List.flatMap_cons]at h;obtain⟨h1,h2⟩:=R4 h;refine⟨W8 h1,fun hy=>?_⟩;rw[LZ]at h2;exact To B (h2 hy)
end
abbrev VB (l:List Fact) (b:Bool):V:= .l (E5 l) b
def P4 {S:Type} (x:V) (H:S→List At) (stp:List Fact→S→Bool×S) (D:List Fact→S→Prop):Prop:= ∀b,Dc Tryz.prog x (fun l=>VB l b) H stp D
abbrev S7 (n:Nat):V:= .f (.func 225) [] [.p n 0]
theorem Yb {f:Fact} (hl:CS f=true) (c:Bool):J1 (if c then Gv f else f)=xF f++[.b c]:=by
 have:=Gj hl;cases c with
 | true=>rfl
 | false=>
   have h5: ¬f.op=5:=by omega
   simp only[J1,Mk,if_false,BV,if_neg h5]
def WalkC (f:Fact):Prop:= ∀(c:Bool) (S:Type) (fn:Fn) (fi ca:List V) (H:S→List At) (stp:List Fact→S→Bool×S) (D:List Fact→S→Prop) (nW:Nat) (s:S),
 P4 (.f fn fi ca) (fun s=> .box nW [S7 nW]::H s) stp D→Si stp D (Bc f c) s→ ∀σ,Sat σ (.box nW [S7 nW]::H s)→
  Bz Tryz.prog (S7 nW) [.a (xF f),.b c,.f fn fi ca] σ fun r σ'=>r= .ret (.b (Cx stp (Bc f c) s).1)∧Sat σ' (.box nW [S7 nW]::H (Cx stp (Bc f c) s).2)
theorem c7 {w:AP} {S:Type} {fn:Fn} {fi ca:List V} {H:S→List At} {stp:List Fact→S→Bool×S} {D:List Fact→S→Prop} (hT:P4 (.f fn fi ca) H stp D) {k0 k1:Fact} {c:Bool} (hn0:CZ w k0=true) (hn1:CZ w k1=true) (hv0:lv k0≤100) (hv1:lv k1≤100) {a:List Fact} (ha:a∈Bc k0 c) (fa:Bool) :
 P4 (.f (.func 227) [] [.rp [.f fn fi ca],.rp [VB a fa]]) H (fun y s=>stp (Cy a y) s) (fun y s=>y∈Bc k1 c∧D (Cy a y) s):=by
 rintro b y s ⟨hy,hd⟩ σ hs;refine C1 ?_;show Bj Tryz.prog 227 ([]++[VB y b]++[.rp [.f fn fi ca],.rp [VB a fa]]) σ _;have hla:=(Ef k0 (DS _ hn0) c).2 a ha;have hly:=(Ef k1 (DS _ hn1) c).2 y hy;have hM:=Mx;refine vU nb ?_
 conv=>whnf
 repeat'((first|refine st ?_|(refine sq ?_;intro K U)|(refine si ?_;intro A B Y Z)|(refine Y _ _ ?_;clear Z B Y A)|(refine U _ _ ?_;clear U K)|refine dr ?_|refine rk ?_ ?_|exact fun s e=>by cases e;rfl|refine Pure.use (Yi (w:=w) a y fa b (Gr k0 hn0 c a ha) (Gr k1 hn1 c y hy) (by omega)) ?_|fail)<;>conv=>whnf)
 refine(hT false).use hd hs ?_;clear hs;intro σ hs
 conv=>whnf
 repeat'((first|refine st ?_|(refine Y _ _ ?_;clear Z B Y A)|(refine U _ _ ?_;clear U K)|refine dr ?_|fail)<;>conv=>whnf)
 exact AS ⟨rfl,hs⟩
theorem c8 {w:AP} {S:Type} {fn:Fn} {fi ca:List V} {H:S→List At} {stp:List Fact→S→Bool×S} {D:List Fact→S→Prop} {nW:Nat} (hT:P4 (.f fn fi ca) (fun s=> .box nW [S7 nW]::H s) stp D) {f k0 k1:Fact} (hk:f.kids= [k0,k1]) {c:Bool} (hn0:CZ w k0=true) (hn1:CZ w k1=true) (hv0:lv k0≤100) (hv1:lv k1≤100) (hw1:WalkC k1) :
 P4 (.f (.func 226) [] [.p nW 0,.rp (xF f),.rp [.b c],.rp [.f fn fi ca]]) (fun s=> .box nW [S7 nW]::H s) (fun a s=>Cx (fun y s=>stp (Cy a y) s) (Bc k1 c) s) (fun a s=>a∈Bc k0 c∧Si (fun y s=>stp (Cy a y) s) (fun y s=>D (Cy a y) s) (Bc k1 c) s):=by
 rintro fa a s ⟨ha,hd⟩ σ hs;refine C1 ?_;show Bj Tryz.prog 226 ([]++[VB a fa]++[.p nW 0,.rp (xF f),.rp [.b c],.rp [.f fn fi ca]]) σ _;have h1:f.kids[(1:Int).toNat]? =some k1:=by rw[hk];rfl
 refine vV nb ?_
 conv=>whnf
 repeat'((first|refine st ?_|(refine sq ?_;intro K U)|(refine si ?_;intro A B Y Z)|(refine Y _ _ ?_;clear Z B Y A)|(refine U _ _ ?_;clear U K)|refine dr ?_|refine⟨nb,?_⟩|refine RI ?_|refine ld ?_|fail)<;>conv=>whnf)
 refine(hw1 c S _ _ _ H _ _ nW s (c7 hT hn0 hn1 hv0 hv1 ha fa) (Ni (fun y hy=>hy) hd) σ hs).mono ?_;clear hs;rintro r σ ⟨rfl,hs⟩
 conv=>whnf
 repeat'((first|refine st ?_|(refine Y _ _ ?_;clear Z B Y A)|(refine U _ _ ?_;clear U K)|refine dr ?_|fail)<;>conv=>whnf)
 exact AS ⟨rfl,hs⟩
set_option maxHeartbeats 2000000 in
theorem eH {w:AP} (f:Fact):CZ w f=true→lv f≤100→WalkC f:=by
 induction f using Fact.ind with
 | h f ih=>
   intro hn hv c S fn fi ca H stp D nW s hT hd σ hs;have har:=DS _ hn
   have hnk: ∀k∈f.kids,CZ w k=true:=by
    rw[Df,Bn,IU]at hn;exact hn.2
   have hop:f.op=1∨f.op=5∨CS f=true∨f.op=6∨f.op=7:=by
    rw[Df,Bn]at hn;have h1:=hn.1;simp only[Da,U3,Bn]at h1;rw[Ob];simp only[Bn,D8];have h2:=h1.1;split at h2
    ·omega
    ·split at h2
     ·omega
     ·simp only[Bool.or_eq_true,FQ]at h2
      omega
   refine C1 ?_;show Bj Tryz.prog 225 ([]++[.a (xF f),.b c,.f fn fi ca]++[.p nW 0]) σ _;refine vW nb ?_;rw[Hg,Fm]at hd;have hcs:=Hg f c;rw[Fm]at hcs;rcases hop with h1|h5|hl|h67
   ·rw[if_pos h1]at hd hcs
    rw[hcs];cases c
    ·rw[if_neg (by decide)]at hd ⊢
     rw[UG]
     conv=>whnf
     repeat'((first|refine st ?_|(refine sq ?_;intro K U)|(refine si ?_;intro A B Y Z)|(refine Y _ _ ?_;clear Z B Y A)|(refine U _ _ ?_;clear U K)|refine⟨rfl,?_⟩|(constructor<;>intro hc<;>(try rw[hc])<;>(replace hc:=bp hc)<;>try(exfalso;omega))|fail)<;>conv=>whnf)
     refine(hT true).use (y:=[]) hd.1 hs ?_;clear hs;intro σ hs
     conv=>whnf
     repeat'((first|refine st ?_|(refine Y _ _ ?_;clear Z B Y A)|(refine U _ _ ?_;clear U K)|clear U K)<;>conv=>whnf)
     exact AS ⟨rfl,hs⟩
    ·rw[if_pos rfl]at hd ⊢
     conv=>whnf
     repeat'((first|refine st ?_|(refine sq ?_;intro K U)|(refine si ?_;intro A B Y Z)|(refine Y _ _ ?_;clear Z B Y A)|(refine U _ _ ?_;clear U K)|refine⟨rfl,?_⟩|(constructor<;>intro hc<;>(try rw[hc])<;>(replace hc:=bp hc)<;>try(exfalso;omega))|clear U K)<;>conv=>whnf)
     exact AS ⟨rfl,hs⟩
   ·obtain⟨k,hk,-⟩:=JK har h5
    have hkm:k∈f.kids:=by rw[hk];exact .head _
    have hvk:lv k≤100:=by
     rw[Mo,ZQ,if_pos h5,hk]at hv;exact hv
    rw[if_neg (by omega),if_pos h5,hk]at hd hcs;have hcs2:Bc f c=Bc k (!c):=hcs;have h0:f.kids[(0:Int).toNat]? =some k:=by rw[hk];rfl
    rw[hcs2]
    conv=>whnf
    repeat'((first|refine st ?_|(refine sq ?_;intro K U)|(refine si ?_;intro A B Y Z)|(refine Y _ _ ?_;clear Z B Y A)|(refine U _ _ ?_;clear U K)|refine dr ?_|refine⟨rfl,?_⟩|refine⟨nb,?_⟩|refine RI ?_|refine ld ?_|(constructor<;>intro hc<;>(try rw[hc])<;>(replace hc:=bp hc)<;>try(exfalso;omega))|fail)<;>conv=>whnf)
    refine(ih k hkm (hnk k hkm) hvk (!c) S _ _ _ H stp D nW s hT hd σ hs).mono ?_;clear hs;rintro r σ ⟨rfl,hs⟩
    conv=>whnf
    repeat'((first|refine st ?_|(refine Y _ _ ?_;clear Z B Y A)|(refine U _ _ ?_;clear U K)|refine dr ?_|clear U K)<;>conv=>whnf)
    exact AS ⟨rfl,hs⟩
   ·have hlo:=Gj hl
    have hlB:=R9 f;rw[hl]at hlB;rw[if_neg (by omega),if_neg (by omega),if_neg (by omega)]at hd hcs;have hcs2:Bc f c= [[if c then Gv f else f]]:=by rw[hcs];cases c<;>rfl
    rw[←hcs,hcs2]at hd;rw[hcs2,UG]
    have e:VB [if c then Gv f else f] true= .l [xF f++[.b c]] true:=by
     show V.l [J1 (if c then Gv f else f)] true=_;rw[Yb hl]
    have hst:=(hT true) [if c then Gv f else f] s hd.1;simp only[e]at hst
    conv=>whnf
    repeat'((first|refine st ?_|(refine sq ?_;intro K U)|(refine si ?_;intro A B Y Z)|(refine Y _ _ ?_;clear Z B Y A)|(refine U _ _ ?_;clear U K)|refine⟨rfl,?_⟩|refine⟨nb,?_⟩|refine Pure.use hlB ?_|(constructor<;>intro hc<;>(try rw[hc])<;>(replace hc:=bp hc)<;>try(exfalso;omega))|fail)<;>conv=>whnf)
    refine(hst σ hs).mono ?_;clear hs;rintro r σ ⟨rfl,hs⟩
    conv=>whnf
    repeat'((first|refine st ?_|(refine Y _ _ ?_;clear Z B Y A)|(refine U _ _ ?_;clear U K)|clear U K)<;>conv=>whnf)
    exact AS ⟨rfl,hs⟩
   ·obtain⟨k0,k1,hk,-,-⟩:=JJ har h67
    have hkm0:k0∈f.kids:=by rw[hk];exact .head _
    have hkm1:k1∈f.kids:=by rw[hk];exact .tail _ (.head _)
    have hlf:CS f=false:=by rw[Ob,decide_eq_false (show¬f.op≤4 by omega),Bool.and_false]
    have hlB:=R9 f;rw[hlf]at hlB
    have hvk:lv k0+lv k1≤100:=by
     rw[Mo,ZQ,if_neg (by omega),if_pos h67,hk]at hv;exact hv
    rw[if_neg (by omega),if_neg (by omega),if_pos h67,hk]at hd hcs;have h0:f.kids[(0:Int).toNat]? =some k0:=by rw[hk];rfl
    have h1:f.kids[(1:Int).toNat]? =some k1:=by rw[hk];rfl
    have i0:=ih k0 hkm0 (hnk k0 hkm0) (by omega);have i1:=ih k1 hkm1 (hnk k1 hkm1) (by omega);by_cases hap:(c != (f.op==7))=true
    ·rw [if_pos hap]at hd hcs
     have hcs2:Bc f c=Bc k0 c++Bc k1 c:=hcs;have hd2:Si stp D (Bc k0 c++Bc k1 c) s:=hd;obtain⟨hd3,hd4⟩:=R4 hd2;rw[hcs2,Oq];clear hcs hcs2 hd hd2;rcases h67 with h6|h7
     ·have h6b:(f.op==6)=true:=by rw[h6];rfl
      have hct:c=true:=by rw[h6]at hap;cases c<;>simp_all
      subst hct
      conv=>whnf
      repeat'((first|refine st ?_|(refine sq ?_;intro K U)|(refine si ?_;intro A B Y Z)|(refine Y _ _ ?_;clear Z B Y A)|(refine U _ _ ?_;clear U K)|refine dr ?_|refine⟨rfl,?_⟩|refine⟨nb,?_⟩|refine RI ?_|refine ld ?_|refine Ls ?_|refine Pure.use hlB ?_|(rw[h6b])|(constructor<;>intro hc<;>(try rw[hc])<;>(replace hc:=bp hc)<;>try(exfalso;omega))|fail)<;>conv=>whnf)
      refine(i0 true S _ _ _ H stp D nW s hT hd3 σ hs).mono ?_;clear hs;rintro r σ ⟨rfl,hs⟩;generalize Cx stp (Bc k0 true) s=x at *;obtain⟨b1,s1⟩:=x;cases b1
      ·conv=>whnf
       repeat'((first|refine st ?_|(refine Y _ _ ?_;clear Z B Y A)|(refine U _ _ ?_;clear U K)|refine dr ?_|clear U K)<;>conv=>whnf)
       exact AS ⟨rfl,hs⟩
      ·conv=>whnf
       repeat'((first|refine st ?_|refine dr ?_|refine⟨nb,?_⟩|refine RI ?_|refine ld ?_|fail)<;>conv=>whnf)
       refine(i1 true S _ _ _ H stp D nW s1 hT (hd4 rfl) σ hs).mono ?_;clear hs;rintro r σ ⟨rfl,hs⟩
       conv=>whnf
       repeat'((first|refine st ?_|(refine Y _ _ ?_;clear Z B Y A)|(refine U _ _ ?_;clear U K)|refine dr ?_|clear U K)<;>conv=>whnf)
       exact AS ⟨rfl,hs⟩
     ·have h6b:(f.op==6)=false:=by rw[h7];rfl
      have hct:c=false:=by rw[h7]at hap;cases c<;>simp_all
      subst hct
      conv=>whnf
      repeat'((first|refine st ?_|(refine sq ?_;intro K U)|(refine si ?_;intro A B Y Z)|(refine Y _ _ ?_;clear Z B Y A)|(refine U _ _ ?_;clear U K)|refine dr ?_|refine⟨rfl,?_⟩|refine⟨nb,?_⟩|refine RI ?_|refine ld ?_|refine Ls ?_|refine Pure.use hlB ?_|(rw[h6b])|(constructor<;>intro hc<;>(try rw[hc])<;>(replace hc:=bp hc)<;>try(exfalso;omega))|fail)<;>conv=>whnf)
      refine(i0 false S _ _ _ H stp D nW s hT hd3 σ hs).mono ?_;clear hs;rintro r σ ⟨rfl,hs⟩;generalize Cx stp (Bc k0 false) s=x at *;obtain⟨b1,s1⟩:=x;cases b1
      ·conv=>whnf
       repeat'((first|refine st ?_|(refine Y _ _ ?_;clear Z B Y A)|(refine U _ _ ?_;clear U K)|refine dr ?_|clear U K)<;>conv=>whnf)
       exact AS ⟨rfl,hs⟩
      ·conv=>whnf
       repeat'((first|refine st ?_|refine dr ?_|refine⟨nb,?_⟩|refine RI ?_|refine ld ?_|fail)<;>conv=>whnf)
       refine(i1 false S _ _ _ H stp D nW s1 hT (hd4 rfl) σ hs).mono ?_;clear hs;rintro r σ ⟨rfl,hs⟩
       conv=>whnf
       repeat'((first|refine st ?_|(refine Y _ _ ?_;clear Z B Y A)|(refine U _ _ ?_;clear U K)|refine dr ?_|clear U K)<;>conv=>whnf)
       exact AS ⟨rfl,hs⟩
    ·rw[if_neg hap]at hd hcs
     have hcs2:Bc f c=EN (Bc k0 c) (Bc k1 c):=hcs;have hd2:Si stp D (EN (Bc k0 c) (Bc k1 c)) s:=hd;have hd3:=To _ hd2;have hT2:=c8 hT hk (c:=c) (hnk k0 hkm0) (hnk k1 hkm1) (by omega) (by omega) i1;rw[hcs2,Qt];clear hcs hcs2 hd hd2;rcases h67 with h6|h7
     ·have h6b:(f.op==6)=true:=by rw[h6];rfl
      have hct:c=false:=by rw[h6]at hap;cases c<;>simp_all
      subst hct
      conv=>whnf
      repeat'((first|refine st ?_|(refine sq ?_;intro K U)|(refine si ?_;intro A B Y Z)|(refine Y _ _ ?_;clear Z B Y A)|(refine U _ _ ?_;clear U K)|refine dr ?_|refine⟨rfl,?_⟩|refine⟨nb,?_⟩|refine RI ?_|refine ld ?_|refine IV ?_|refine Pure.use hlB ?_|(rw[h6b])|(constructor<;>intro hc<;>(try rw[hc])<;>(replace hc:=bp hc)<;>try(exfalso;omega))|fail)<;>conv=>whnf)
      refine(i0 false S _ _ _ H _ _ nW s hT2 (Ni (fun y hy=>hy) hd3) σ hs).mono ?_;clear hs;rintro r σ ⟨rfl,hs⟩
      conv=>whnf
      repeat'((first|refine st ?_|(refine Y _ _ ?_;clear Z B Y A)|(refine U _ _ ?_;clear U K)|refine dr ?_|fail)<;>conv=>whnf)
      exact AS ⟨rfl,hs⟩
     ·have h6b:(f.op==6)=false:=by rw[h7];rfl
      have hct:c=true:=by rw[h7]at hap;cases c<;>simp_all
      subst hct
      conv=>whnf
      repeat'((first|refine st ?_|(refine sq ?_;intro K U)|(refine si ?_;intro A B Y Z)|(refine Y _ _ ?_;clear Z B Y A)|(refine U _ _ ?_;clear U K)|refine dr ?_|refine⟨rfl,?_⟩|refine⟨nb,?_⟩|refine RI ?_|refine ld ?_|refine IV ?_|refine Pure.use hlB ?_|(rw[h6b])|(constructor<;>intro hc<;>(try rw[hc])<;>(replace hc:=bp hc)<;>try(exfalso;omega))|fail)<;>conv=>whnf)
      refine(i0 true S _ _ _ H _ _ nW s hT2 (Ni (fun y hy=>hy) hd3) σ hs).mono ?_;clear hs;rintro r σ ⟨rfl,hs⟩
      conv=>whnf
      repeat'((first|refine st ?_|(refine Y _ _ ?_;clear Z B Y A)|(refine U _ _ ?_;clear U K)|refine dr ?_|fail)<;>conv=>whnf)
      exact AS ⟨rfl,hs⟩
theorem tZ {w:AP} (f:Fact) (hn:CZ w f=true) (hv:lv f≤100) (c:Bool) {S:Type} {fn:Fn} {fi ca:List V} {H:S→List At} {stp:List Fact→S→Bool×S} {D:List Fact→S→Prop} {s:S} (hT: ∀nW,P4 (.f fn fi ca) (fun s=> .box nW [S7 nW]::H s) stp D) (hd:Si stp D (Bc f c) s) (σ:AH) (hs:Sat σ (H s)) :
 Bj Tryz.prog 224 [.f fn fi ca,.rp (xF f),.rp [.b c]] σ fun r σ'=>r= .ret (.t [])∧Sat σ' (H (Cx stp (Bc f c) s).2):=by
 refine vX nb ?_
 conv=>whnf
 repeat'((first|refine st ?_|(refine sq ?_;intro K U)|(refine si ?_;intro A B Y Z)|(refine Y _ _ ?_;clear Z B Y A)|(refine U _ _ ?_;clear U K)|refine⟨nb,?_⟩|refine ld ?_|refine Lq fun σ hs=>?_|(intro nn hnn;generalize hg:BI _ nn _=σ;refine Fy hg fun hs=>?_;clear hg)|fail)<;>conv=>whnf)
 refine(eH f hn hv c S fn fi ca H stp D nn s (hT nn) hd σ hs).mono ?_;clear hs;rintro r σ ⟨rfl,hs⟩
 conv=>whnf
 repeat'((first|(refine Y _ _ ?_;clear Z B Y A)|fail)<;>conv=>whnf)
 exact AS ⟨rfl,hs.less (List.sublist_cons_self _ _)⟩
theorem c9 (f:Fact) (c:Bool):Pure Tryz.prog 182 [.a (xF f),.b c] (.f (.func 224) [] [.rp (xF f),.rp [.b c]]):=by
 refine wJ nb ?_;have hs:=Sn
 conv=>whnf
 repeat'((first|refine st ?_|(refine sq ?_;intro K U)|(refine si ?_;intro A B Y Z)|(refine Y _ _ ?_;clear Z B Y A)|(refine U _ _ ?_;clear U K)|fail)<;>conv=>whnf)
 all_goals exact AM rfl
abbrev Ny (w:AP) (l:List Fact) (s:Bool):Bool×Bool:=if Hk w l then(false,true)else(true,s)
theorem UH {w:AP}: ∀(cs:List (List Fact)),Cx (Ny w) cs false=(!cs.any (Hk w),cs.any (Hk w))
 | []=>rfl
 | l::r=>by
   rw[Cx,List.any_cons];simp only[Ny];cases h:Hk w l
   ·simpa using UH r
   ·rfl
theorem W9 {w:AP} {AD:List Fact→Prop}: ∀ {cs:List (List Fact)},(∀l∈cs,AD l)→Si (Ny w) (fun l s=>s=false∧AD l) cs false
 | [],_=>trivial
 | l ::r,h=>⟨⟨rfl,h l (.head _)⟩,fun hy=>by
     cases ht:Hk w l
     ·have e:(Ny w l false).2=false:=by simp[Ny,ht]
      rw[e];exact W9 fun x hx=>h x (.tail _ hx)
     ·simp[Ny,ht]at hy⟩
abbrev xk (w:AP) (L:Nat) (E:Env) (ok:FuncId→Array Tmp→Code→Code→Nat→Prop) (nF:Nat):Prop:=
 MF Tryz.prog L E ok (fun(x:List Fact×Bool)=>[VB x.1 x.2]) (fun s:Bool=>[.box nF [.b s]]) (fun _=>True) (fun x s=>if Hk w x.1 then .stop (.exit 0) true else .go s) (fun x s=>s=false∧(∀y∈x.1,Ii w y)∧x.1.length<900)
theorem fo {w:AP} (f:Fact) (hn:CZ w f=true) (hv:lv f≤100) {L:Nat} {E:Env} {ok:FuncId→Array Tmp→Code→Code→Nat→Prop} {nF:Nat} (hY:xk w L E ok nF) (σ:AH) (hs:Sat σ [.obj L (.loop .ready E ok),.box nF [.b false]]) :
 Bj Tryz.prog 224 [.f (.yield L) [] [],.rp (xF f),.rp [.b false]] σ fun r σ'=>r= .ret (.t [])∧Sat σ' [.obj L (.loop (if Ss w f then .exit 0 else .ready) E ok),.box nF [.b (Ss w f)]]:=by
 have hg:=tZ f hn hv false (fn:= .yield L) (fi:=[]) (ca:=[]) (H:=fun s:Bool=>[.obj L (.loop (if s then .exit 0 else .ready) E ok),.box nF [.b s]]) (stp:=Ny w) (D:=fun l s=>s=false∧(∀y∈l,Ii w y)∧l.length<900) (s:=false) (by
  rintro nW b l s ⟨rfl,hl,hlen⟩ σ hs;refine hY.use (y:=(l,b)) (s:=false) ⟨rfl,hl,hlen⟩ (rest:=[.box nW [S7 nW]]) (hs.perm (Mn _ _ _ _)) ?_;intro r σ' hq;cases ht:Hk w l
  ·simp only[ht,Mk,if_false]at hq
   obtain⟨rfl,hs'⟩:=hq;have e:Ny w l false=(true,false):=by simp[Ny,ht]
   rw[e];exact⟨rfl,hs'.perm (Mn _ _ _ _).symm⟩
  ·simp only[ht,if_true]at hq
   obtain⟨rfl,hs'⟩:=hq;have e:Ny w l false=(false,true):=by simp[Ny,ht]
   rw[e]
   exact⟨rfl,hs'.perm (Mn _ _ _ _).symm⟩) (W9 fun l hl=>⟨Gr f hn false l hl,by have:=(Ef f (DS _ hn) false).2 l hl;omega⟩) σ hs
 rw[UH]at hg;exact hg
theorem xb (w:AP) (hw:FZ w) (f:Fact) (hn:CZ w f=true) (hv:lv f≤100):Pure Tryz.prog 141 [.rp (wC w (Eu w.parents)),.a (xF f)] (.b (Ss w f)):=by
 refine Pure.of ?_;refine w8 nb ?_;have hs:=Sn
 conv=>whnf
 repeat'((first|refine st ?_|(refine sq ?_;intro K U)|(refine si ?_;intro A B Y Z)|(refine Y _ _ ?_;clear Z B Y A)|(refine U _ _ ?_;clear U K)|refine⟨nb,?_⟩|refine Lq fun σ hs=>?_|refine Pure.use (c9 _ _) ?_|(intro nn hnn;generalize hg:BI _ nn _=σ;refine Fy hg fun hs=>?_;clear hg)|fail)<;>conv=>whnf)
 rename_i _ nF hnF _ _ _ _;refine Bj.mono (fo (w:=w) f hn hv (L:=nn) (nF:=nF) ?_ σ hs) ?_
 ·refine Mz (fun y=>rfl) ?_
  clear hs hnn hnF;rintro⟨l,b⟩ s ⟨rfl,hl,hlen⟩ rest σ hs;dsimp only at hl hlen;have htg:=UO w hw l b hl hlen;dsimp only;cases ht:Hk w l<;>rw[ht]at htg
  ·conv=>whnf
   repeat'((first|refine st ?_|(refine sq ?_;intro K U)|(refine si ?_;intro A B Y Z)|(refine Y _ _ ?_;clear Z B Y A)|(refine U _ _ ?_;clear U K)|refine Pure.use htg ?_|clear U K)<;>conv=>whnf)
   intro hn;exact Ti (H:=fun s:Bool=>[.box nF [.b s]]) (J:=fun _=>True) (s:=false) rfl hs hn
  ·conv=>whnf
   repeat'((first|refine st ?_|(refine sq ?_;intro K U)|(refine si ?_;intro A B Y Z)|(refine Y _ _ ?_;clear Z B Y A)|(refine U _ _ ?_;clear U K)|refine Lq fun σ hs=>?_|refine Pure.use htg ?_|clear U K)<;>conv=>whnf)
   intro hn;exact Vf (H:=fun s:Bool=>[.box nF [.b s]]) (J:=fun _=>True) (s:=true) (st:= .exit 0) rfl hs hn
 ·clear hs hnn hnF
  cases hp:Ss w f
  ·rintro r σ ⟨rfl,hs⟩
   refine Tj hs fun σ hs=>?_
   conv=>whnf
   repeat'((first|refine st ?_|(refine sq ?_;intro K U)|(refine si ?_;intro A B Y Z)|(refine Y _ _ ?_;clear Z B Y A)|(refine U _ _ ?_;clear U K)|refine ld ?_|fail)<;>conv=>whnf)
   exact AS (by rw[hp])
  ·rintro r σ ⟨rfl,hs⟩
   refine Vj hs fun σ hs=>?_
   conv=>whnf
   repeat'((first|refine st ?_|(refine sq ?_;intro K U)|(refine si ?_;intro A B Y Z)|(refine Y _ _ ?_;clear Z B Y A)|(refine U _ _ ?_;clear U K)|refine ld ?_|fail)<;>conv=>whnf)
   exact AS (by rw[hp])
theorem se (f:Fact):Pure Tryz.prog 143 [.a (xF f)] (.a (xF (Gv f))):=by
 refine wz nb ?_;have hs:=Sn
 conv=>whnf
 repeat'((first|refine st ?_|(refine sq ?_;intro K U)|(refine si ?_;intro A B Y Z)|(refine Y _ _ ?_;clear Z B Y A)|(refine U _ _ ?_;clear U K)|refine⟨nb,?_⟩|refine ld ?_|refine sn fun σ hs=>?_|(intro nn hnn;generalize hg:BI _ nn _=σ;refine al hg fun hs=>?_;clear hg)|fail)<;>conv=>whnf)
 refine CD (.a (.cons (.refl _) (.cons (.refl _) (.cons Hw (.cons (.refl _) (.cons (.refl _) (.cons ?_ .nil)))))));refine .l (fun h=>by cases h) ?_;simp only[Gv,Fact.kids,List.map,Bp];exact Ek _
theorem xf (f g:Fact):Pure Tryz.prog 142 [.a (xF f),.a (xF g)] (.a (xF (Pj f g))):=by
 refine w7 nb ?_;have hs:=Sn
 conv=>whnf
 repeat'((first|refine st ?_|(refine sq ?_;intro K U)|(refine si ?_;intro A B Y Z)|(refine Y _ _ ?_;clear Z B Y A)|(refine U _ _ ?_;clear U K)|refine⟨nb,?_⟩|refine ld ?_|refine sn fun σ hs=>?_|(intro nn hnn;generalize hg:BI _ nn _=σ;refine al hg fun hs=>?_;clear hg)|fail)<;>conv=>whnf)
 refine CD (.a (.cons (.refl _) (.cons (.refl _) (.cons Hw (.cons (.refl _) (.cons (.refl _) (.cons ?_ .nil)))))));refine .l (fun h=>by cases h) ?_;simp only[Pj,Fact.kids,List.map,Bp];exact Ek _
theorem Vw (w:AP) (hw:FZ w) (a b:Fact) (ha:CZ w a=true) (hb:CZ w b=true) (hl:lv a+lv b≤100):Pure Tryz.prog 110 [.rp (wC w (Eu w.parents)),.a (xF a),.a (xF b)] (.b (di w a b)):=by
 have hcan:=xb w hw (Pj a (Gv b)) (Tp ha hb) (by rw[aS];exact hl);refine xT nb ?_;have hs:=Sn
 conv=>whnf
 repeat'((first|refine st ?_|(refine sq ?_;intro K U)|(refine si ?_;intro A B Y Z)|(refine Y _ _ ?_;clear Z B Y A)|(refine U _ _ ?_;clear U K)|refine dr ?_|refine rk ?_ ?_|exact fun s e=>by cases e;rfl|refine⟨nb,?_⟩|refine Pure.use (se _) ?_|refine Pure.use (xf _ _) ?_|refine Pure.use hcan ?_|fail)<;>conv=>whnf)
 all_goals exact AM rfl
theorem ZL (w:AP) (hw:FZ w) (a b:Fact) (ha:Ev w a=true) (hb:Ev w b=true) (hna:CZ w a=true) (hnb:CZ w b=true) (hl:lv a+lv b≤100):Pure Tryz.prog 76 [.a (BQ w),.a (xF a),.a (xF b)] (.t [.b (di w a b),eI 0]):=by
 have hrd: ∀f,Pure Tryz.prog 109 [.a (BQ w),.l [xF a,xF b] f] (.t [.rp (wC w (Eu w.parents)),.b true]):=fun f=>by
  have:=Ww w hw [a,b] f (by simp);rw[show([a,b].all (Kr w))=true by simp[XQ,ha,hb]]at this;simpa[Bp]using this
 have hip:=Vw w hw a b hna hnb hl;refine zv nb ?_;have hs:=Sn
 conv=>whnf
 repeat'((first|refine st ?_|(refine sq ?_;intro K U)|(refine si ?_;intro A B Y Z)|(refine Y _ _ ?_;clear Z B Y A)|(refine U _ _ ?_;clear U K)|refine⟨nb,?_⟩|refine IV ?_|refine Pure.use (hrd _) ?_|refine Pure.use hip ?_|fail)<;>conv=>whnf)
 all_goals exact AM rfl
attribute [local irreducible] HD
def szP (p:Prog) (nO:Nat) (r:R) (post:List At):Prop:=
 match Bx p with
 | some s=>r= .ret (.t [])∧ ∃v,post= [.box nO [v],.own v 1 (iL s)]
 | none=>r= .By D2∧ ∃v s,post= [.box nO [v],.own v 1 (iL s)]
theorem YI (p:Prog) (nO:Nat):CL Tryz.prog 162 [.rp (Br p),.p nO 0] [.box nO [.l [] true]] (szP p nO):=fun σ hs=>
 Bj.mono (bo p nO σ hs) fun r σ' hq=>by
  unfold xm at hq;unfold szP;cases h:Bx p with
  | some s=>
    rw[h]at hq;obtain⟨h1,v,h2⟩:=hq;exact⟨_,⟨h1,v,rfl⟩,h2⟩
  | none=>
    rw[h]at hq;obtain⟨h1,v,s,h2⟩:=hq;exact⟨_,⟨h1,v,s,rfl⟩,h2⟩
theorem kO {σ:AH} {n:Nat} {x:V} {rest:List At} (hs:Sat σ (.box n [x]::rest)) {Q:AH→Prop} (hq: ∀σ',Sat σ' (.box n [.b false]::rest)→Q σ'):HD Tryz.prog 207 [.p n 0] (some D2) σ Q:=by
 refine Xc nb ?_
 conv=>whnf
 repeat'((first|refine st ?_|(refine sq ?_;intro K U)|(refine si ?_;intro A B Y Z)|(refine Y _ _ ?_;clear Z B Y A)|(refine U _ _ ?_;clear U K)|refine Lq fun σ hs=>?_|refine Hi fun σ hs=>?_|refine IV ?_|refine rm rfl ?_|(intro nn hnn;generalize hg:BI _ nn _=σ;refine Fy hg fun hs=>?_;clear hg)|fail)<;>conv=>whnf)
 exact hq _ (hs.less (List.sublist_cons_self _ _))
theorem kP {σ:AH} {n:Nat} {x:V} {rest:List At} (hs:Sat σ (.box n [x]::rest)) {Q:AH→Prop} (hq: ∀σ',Sat σ' (.box n [x]::rest)→Q σ'):HD Tryz.prog 207 [.p n 0] none σ Q:=by
 refine Xc nb ?_
 conv=>whnf
 repeat'((first|refine st ?_|(refine sq ?_;intro K U)|(refine si ?_;intro A B Y Z)|(refine Y _ _ ?_;clear Z B Y A)|(refine U _ _ ?_;clear U K)|refine IV ?_|fail)<;>conv=>whnf)
 exact hq _ hs
theorem Yu (p:Prog) (nO:Nat):CL Tryz.prog 161 [.f (.func 162) [] [.rp (Br p),.p nO 0]] [.box nO [.l [] true]] fun r post=>r= .ret (.b (Bx p).isSome)∧ ∃v s,post= [.box nO [v],.own v 1 (iL s)]∧(Bx p=none∨Bx p=some s):=by
 intro σ hs;refine wb nb ?_
 conv=>whnf
 repeat'((first|(refine sq ?_;intro K U)|(refine si ?_;intro A B Y Z)|(refine Y _ _ ?_;clear Z B Y A)|(refine U _ _ ?_;clear U K)|(intro nn hnn;generalize hg:BI _ nn _=σ;refine Fy hg fun hs=>?_;clear hg)|fail)<;>conv=>whnf)
 refine C1 ?_;refine(YI p nO).use (rest:=[.box nn [.b false]]) (hs.perm (.swap _ _ _)) ?_;clear hs hnn;rintro r post σ hq hs;unfold szP at hq;cases h:Bx p with
 | none=>
   rw[h]at hq;obtain⟨rfl,v,s,rfl⟩:=hq
   conv=>whnf
   repeat'((first|(refine Z _ _ _ ?_;clear Z B Y A)|clear U K)<;>conv=>whnf)
   refine kO (rest:=[.box nO [v],.own v 1 (iL s)]) (hs.perm List.perm_append_comm) fun σ hs=>?_
   conv=>whnf
   repeat'((first|refine ld ?_|fail)<;>conv=>whnf)
   exact AS ⟨_,⟨by rw[h];rfl,v,s,rfl,.inl h⟩,hs.less (List.sublist_cons_self _ _)⟩
 | some s=>
   rw[h]at hq;obtain⟨rfl,v,rfl⟩:=hq
   conv=>whnf
   repeat'((first|refine st ?_|(refine sq ?_;intro K U)|(refine si ?_;intro A B Y Z)|(refine Y _ _ ?_;clear Z B Y A)|(refine U _ _ ?_;clear U K)|refine Lq fun σ hs=>?_|fail)<;>conv=>whnf)
   replace hs:Sat σ ([.box nO [v],.own v 1 (iL s)]++[.box nn [.b true]]):=hs;refine kP (x:= .b true) (rest:=[.box nO [v],.own v 1 (iL s)]) (hs.perm List.perm_append_comm) fun σ hs=>?_
   conv=>whnf
   repeat'((first|refine ld ?_|fail)<;>conv=>whnf)
   exact AS ⟨_,⟨by rw[h];rfl,v,s,rfl,.inr h⟩,hs.less (List.sublist_cons_self _ _)⟩
theorem bq (p:Prog):CL Tryz.prog 137 [.a (Br p)] [] fun r post=> ∃v s,r= .ret (.t [v,.b (Bx p).isSome])∧post= [.own v 1 (iL s)]∧(Bx p=none∨Bx p=some s):=by
 intro σ hs;refine xC nb ?_
 conv=>whnf
 repeat'((first|(refine sq ?_;intro K U)|(refine si ?_;intro A B Y Z)|(refine Y _ _ ?_;clear Z B Y A)|(refine U _ _ ?_;clear U K)|(intro nn hnn;generalize hg:BI _ nn _=σ;refine Fy hg fun hs=>?_;clear hg)|fail)<;>conv=>whnf)
 refine(Yu p nn).use (rest:=[]) (by simpa using hs) ?_;clear hs;rintro r post σ ⟨rfl,v,s,rfl,hl⟩ hs
 conv=>whnf
 repeat'((first|refine st ?_|(refine sq ?_;intro K U)|(refine si ?_;intro A B Y Z)|(refine Y _ _ ?_;clear Z B Y A)|(refine U _ _ ?_;clear U K)|refine ld ?_|fail)<;>conv=>whnf)
 exact AS ⟨_,⟨v,s,rfl,rfl,hl⟩,hs.less (.cons _ (.cons₂ _ (List.nil_sublist _)))⟩
theorem dL (p:Prog):Pure Tryz.prog 107 [.a (Br p)] (eI (if(Bx p).isSome then 0 else 2)):=by
 refine Pure.of ?_;have hz:=bq p;cases h:(Bx p).isSome<;>rw[h]at hz
 all_goals
  refine xW nb ?_;have hs:=Sn
  conv=>whnf
  repeat'((first|refine st ?_|(refine sq ?_;intro K U)|(refine si ?_;intro A B Y Z)|(refine Y _ _ ?_;clear Z B Y A)|(refine U _ _ ?_;clear U K)|refine⟨nb,?_⟩|fail)<;>conv=>whnf)
  refine hz.use (rest:=[]) (by simpa using hs) ?_;clear hs;rintro r post σ ⟨v,s,rfl,rfl,-⟩ hs
  conv=>whnf
  repeat'((first|refine st ?_|(refine sq ?_;intro K U)|(refine si ?_;intro A B Y Z)|(refine Y _ _ ?_;clear Z B Y A)|(refine U _ _ ?_;clear U K)|refine Ls ?_|refine IV ?_|clear U K)<;>conv=>whnf)
  exact AS rfl
theorem za {p:Prog} (h:(Bx p).isSome=true):B3 p.AO≤40:=by
 obtain⟨hh,-⟩:=HZ h;simp only[DN,Bn,D8]at hh;exact(LU hh.1).2.1
theorem xd {p:Prog} (h:(Bx p).isSome=true):p.AO.length≤10:=by
 obtain⟨hh,-⟩:=HZ h;simp only[DN,Bn,D8]at hh;exact(LU hh.1).2.2
theorem zk {p:Prog} (h:(Bx p).isSome=true):FZ (Ae p):=by
 obtain⟨hh,-⟩:=HZ h;simp only[DN,Bn,D8]at hh;exact(LU hh.1).1
theorem lA (p:Prog):Pure Tryz.prog 71 [.a (Br p)] (if(Bx p).isSome then .t [.a (BQ (Ae p)),eI 0]else .t [.a [.l [] true,.l [] true],eI 2]):=by
 have hz:=dL p;have hM:=Mx;cases h:(Bx p).isSome<;>rw[h]at hz
 ·simp only[Mk,if_false]at hz ⊢
  refine pR nb ?_;have hs:=Sn
  conv=>whnf
  repeat'((first|refine st ?_|(refine sq ?_;intro K U)|(refine si ?_;intro A B Y Z)|(refine Y _ _ ?_;clear Z B Y A)|(refine U _ _ ?_;clear U K)|refine⟨rfl,?_⟩|refine⟨nb,?_⟩|refine ld ?_|refine Hi fun σ hs=>?_|refine Pure.use hz ?_|(constructor<;>intro hc<;>(try rw[hc])<;>(replace hc:=bp hc)<;>try(exfalso;omega))|(intro nn hnn;generalize hg:BI _ nn _=σ;refine Fy hg fun hs=>?_;clear hg)|clear U K)<;>conv=>whnf)
  all_goals exact AM rfl
 ·simp only[if_true]at hz ⊢
  have hm:=za h;have hc10:=xd h;refine pR nb ?_;have hs:=Sn
  conv=>whnf
  repeat'((first|refine st ?_|(refine sq ?_;intro K U)|(refine si ?_;intro A B Y Z)|(refine Y _ _ ?_;clear Z B Y A)|(refine U _ _ ?_;clear U K)|refine⟨rfl,?_⟩|refine⟨nb,?_⟩|refine ld ?_|refine Hi fun σ hs=>?_|refine Pure.use hz ?_|refine Pure.use (TS p (by omega) (by omega)) ?_|(constructor<;>intro hc<;>(try rw[hc])<;>(replace hc:=bp hc)<;>(try simp(disch:=omega) only[B2,wrap64,AU]at hc)<;>try(exfalso;omega))|(intro nn hnn;generalize hg:BI _ nn _=σ;refine Fy hg fun hs=>?_;clear hg)|fail)<;>conv=>whnf)
  all_goals exact AM rfl
end Go.Gl
