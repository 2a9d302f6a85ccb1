import Derived.Test.YtnidfcmdimehdaaGreatW11
import Derived.Test.YtnidfcmdimehdaaGreatW14
import Derived.Test.YtnidfcmdimehdaaGreatW32
set_option linter.all false
set_option linter.defProp false
set_option maxHeartbeats 8000000
noncomputable section
namespace Go.Gl
open Go.Proofs
def Si (M:List Int):List (V×V):=M.map fun k=>(.i .u64 k,.b true)
def mS (M:List Int) (k:Int):Cp (.i .u64 k) (.b true) (Si M)=Si (Gu M k):=by
 induction M with
 | nil=>rfl
 | cons x r ih=>
   simp only[Si,Eg,Cp]at *;have he:C8 (.i .u64 k) (.i .u64 x)=(k==x):=rfl;rw[he];cases hx:k==x
   .rw[cond_false,ih]
    unfold Gu;have:(x::r).contains k=r.contains k:=by rw[List.contains_cons,hx,Bool.false_or]
    rw[this];split<;>simp
   .rw[cond_true]
    have hk:k=x:=by simpa using hx
    subst hk;unfold Gu;simp
def Vl (M:List Int) (k:Int):found (.b false) false (CA (.i .u64 k) (Si M))= .b (M.contains k):=by
 induction M with
 | nil=>rfl
 | cons x r ih=>
   simp only[Si,Eg,CA]at *;have he:C8 (.i .u64 k) (.i .u64 x)=(k==x):=rfl;rw[he,List.contains_cons];cases k==x
   .simpa using ih
   .rfl
def Pd (M:List Int): ∀kv∈Si M,BD (.i .u64) kv.1=true:=by
 intro kv h;obtain⟨e,_,rfl⟩:=H8.1 h;rfl
abbrev XC (q:Nat->Bool) (y:Nat) (M:List Int):Bool×List Int:=(true,if q y then Gu M y else M)
def Qs (q:Nat->Bool):List Nat->List Int->List Int
 | [],M=>M
 | y::r,M=>Qs q r (if q y then Gu M y else M)
def gM (q:Nat->Bool): ∀(l:List Nat) (M:List Int),Bp (XC q) l M=(true,Qs q l M)
 | [],_=>rfl
 | y::r,M=>by rw[Bp];exact gM q r _
def iT (M:List Int) (k:Int):(Gu M k).length<=M.length+1:=by
 unfold Gu;split
 .omega
 .simp
def PT (q:Nat->Bool): ∀(l:List Nat) (M:List Int),(Qs q l M).length<=M.length+l.length
 | [],_=>IN _
 | y ::r,M=>by
   rw[Qs,Kt];have h1:=iT M y;cases q y
   .have:=PT q r M
    simp only[Jf,if_false];omega
   .have:=PT q r (Gu M y)
    simp only[if_true];omega
def LU (q:Nat->Bool) (b:Int): ∀(l:List Nat) (M:List Int),(Qs q l M).contains b=(M.contains b||l.any fun y=>q y&&b==(y:Int))
 | [],_=>by simp[Qs]
 | y::r,M=>by
   rw[Qs,LU q b r,Qj];cases q y
   .simp
   .rw[if_pos rfl,Pa,Ed,Bool.or_assoc]
def og (q:Nat->Bool) {Q:Nat->Prop}: ∀(l:List Nat) (M:List Int),(∀y∈l,Q y)->Ns (XC q) (fun y _=>Q y) l M
 | [],_,_=>trivial
 | y::r,_,h=>⟨h y (.head _),fun _=>og q r _ fun z hz=>h z (.tail _ hz)⟩
def gl {q:Nat->Bool} {l:List Nat}:((Qs q l []).length=0)↔l.any q=false:=by
 rw[W7];constructor
 .intro h
  rw[List.any_eq_false];intro y hy hq;have:=LU q (y:Int) l [];rw[h]at this;have h2:(l.any fun z=>q z&&(y:Int)==(z:Int))=true:=GF.2 ⟨y,hy,by rw[hq];simp⟩;rw[h2]at this;simp at this
 .intro h
  cases hw:Qs q l []with
  | nil=>rfl
  | cons x r=>
    have:=LU q x l [];rw[hw,List.contains_cons,beq_self_eq_true,Bool.true_or]at this;have h3:(l.any fun y=>q y&&x==(y:Int))=true:=by simpa using this.symm
    rw[GF]at h3;obtain⟨y,hy,h4⟩:=h3;rw[List.any_eq_false]at h;rw[A4]at h4;exact absurd h4.1 (h y hy)
attribute [local irreducible] Ao Ai AY AO AJ AX AN AP AI AW AK AL Ak Au Sat AT Ar Aa W
def jd (v:List V) (sv:Int):Pure zP 50 [.a v,.rp [eI sv]] (.b (Yi sv)):=by
 rw[Yi];refine xQ kZ ?_;have hs:=Sn
 conv=>whnf
 repeat'((first|clear U K|apply st|(apply zk;intro K U)|refine zY ?_|refine za (fun hc=>?_) fun hc=>?_|fail)<;>conv=>whnf)
 .exact AS (by rw[decide_eq_true hc];rfl)
 .exact AS (by rw[decide_eq_false (by omega)];rfl)
def wH {p:Prog} {gen:Int} {ms:List Int} (h:(BZ p).isSome=true) (n len cap:Nat):Pure zP 35 [.a (UM p gen ms),.sl n len cap] (da 95 [] [.rp [.rp (gW (AM p) (B1 (AM p).parents))],.rp [.sl n len cap]] p gen ms):=by
 have c1:=VH (gen:=gen) (ms:=ms) h;refine pB kZ ?_;have hs:=Sn
 conv=>whnf
 repeat'((first|clear U K|apply st|(apply zk;intro K U)|refine zY ?_|refine zs fun Z hs=>?_|refine c1.use ?_|refine Y8.use ?_|refine zo fun nn hnn Z hs=>?_|fail)<;>conv=>whnf)
 exact Br (.f .nil (.cons (.rp (.cons (.f .nil (.cons (hs.ky 0 rfl (.refl _ _ _)) (.cons (.refl _) .nil))) .nil)) (.cons (.refl _) .nil)))
end Go.Gl
namespace Go.Gl
open Go.Proofs
def Pn {so so':Nat->Nat->Bool} (h: ∀s n,so s n=true->so' s n=true): ∀(d many s y:Nat),y∈FO so d many s->y∈FO so' d many s
 | 0,many,s,y,hy=>by
   rw[FO]at hy ⊢;split at hy
   .rename_i hs
    rw[if_pos (h _ _ hs)];exact hy
   .cases hy
 | d + 1,many,s,y,hy=>by
   rw[FO]at hy ⊢;split at hy
   .rename_i hs
    rw[if_pos (h _ _ hs)];rcases Dm.1 hy with hy|hy
    .exact NL _ (Pn h d _ _ y hy)
    .exact MH _ (Pn h d _ _ y hy)
   .cases hy
abbrev Oj (p:Prog) (gen sv:Int) (y:Nat):Bool:=kI p (FD (Dv p gen) y)==sv
def Lm {p:Prog} {gen sv:Int} {cs:List Int} (hfn:N0 p (Dv p gen)) (hcs:DL (3+(p.AQ.length:Int)) cs):Fq p gen sv cs=(Gw p (IV (AM p) cs) (Dv p gen)).any (Oj p gen sv):=by
 have hw:=hfn.ok.vB;have hcs2: ∀c∈cs,1<=c/\c<3+((AM p).parents.length:Int):=by rw[x8];exact hcs
 rw[Fq,Ue,<-wJ (fun l hl=>Ir hw fun x hx=>Fc (hl x hx)) (U0 hw hcs2) (JV hfn),List.any_map];rfl
def Tu {p:Prog} {gen:Int} {cs:List Int} (hfn:N0 p (Dv p gen)): ∀y∈Gw p (IV (AM p) cs) (Dv p gen),y∈Gw p (IV (AM p) []) (Dv p gen):=fun y hy=>by
 have hw:=hfn.ok.vB;have hnf: ∀f∈EM p (Dv p gen),BM (AM p) f=true:=JV hfn;refine Pn (fun s n h=>?_) _ _ _ y hy;obtain⟨M,h1,h2⟩:=(Ja (fun l hl=>Ir hw fun x hx=>Fc (hl x hx)) hnf _).1 h;exact(Ja (fun l hl=>Ir hw fun x hx=>Fc (hl x hx)) hnf _).2 ⟨M,ib h1,h2⟩
abbrev Qx (p:Prog) (gen sv:Int):List Int:=Qs (Oj p gen sv) (Gw p (IV (AM p) []) (Dv p gen)) []
def Vj {p:Prog} {gen sv:Int} {y:Nat} (hy:y∈Gw p (IV (AM p) []) (Dv p gen)):(Qx p gen sv).contains (y:Int)=Oj p gen sv y:=by
 rw[LU,List.contains_nil,Bool.false_or];cases hq:Oj p gen sv y
 .rw[List.any_eq_false]
  intro z _ hz;rw[A4]at hz;have hz2:(y:Int)=(z:Int):=by simpa using hz.2
  obtain rfl:y=z:=by omega
  rw[hz.1]at hq;cases hq
 .exact GF.2 ⟨y,hy,x7.2 ⟨hq,beq_self_eq_true _⟩⟩
def jz {p:Prog} {gen sv:Int} {cs:List Int} (hfn:N0 p (Dv p gen)) (hcs:DL (3+(p.AQ.length:Int)) cs):((Gw p (IV (AM p) cs) (Dv p gen)).all fun y=> !(Qx p gen sv).contains (y:Int))= !Fq p gen sv cs:=by
 rw[Lm hfn hcs,List.not_any_eq_all_not];refine Gr.2 ?_;rw[DR,DR];constructor
 .intro h y hy
  have:=h y hy;rw[Vj (Tu hfn y hy)]at this;exact this
 .intro h y hy
  rw[Vj (Tu hfn y hy)];exact h y hy
attribute [local irreducible] Ao Ai AY AO AJ AX AN AP AI AW AK AL Ak Au Sat AT Ar Aa W
def oK (p : Prog) (gen sv:Int) {R:List Int} (hR:fQ p gen sv R):Pure zP 15 [.a (Ba p),eI gen,eI sv] (aV p gen sv R):=by
 have c1:=gK p gen 50 [.rp [eI sv]] (Yi sv) (fun _=>jd _ sv);have hM:=Mx;rw[aV];cases h1:Dw p gen
 .rw[(Ik h1 _).1,(Ik h1 _).2]at c1
  rw[(Ik h1 _).2,if_neg (by decide)];refine Yy kZ ?_;have hs:=Sn;exact zW
 cases h2:Yi sv
 .rw[h2,Ij.1,Ij.2]at c1
  rw[Ij.2,if_neg (by decide)];refine Yy kZ ?_;have hs:=Sn;exact zW
 rw[h2,(IG h1).1,(IG h1).2]at c1;rw[(IG h1).2];by_cases h8:(Dv p gen).length<=8
 .rw [if_pos h8]at c1 ⊢
  rw[if_pos rfl];have hl:=h1;rw[Dw,A4]at hl;have h0:Gz p gen (Yi sv)=0:=by rw[h2,(IG h1).2,if_pos h8]
  have hfn:=OU h1 h8;obtain⟨hg,g1,g3,g0⟩:=Xq h1;have hw10:=Xn hl.1;have c2:=fD (gen:=gen) (ms:=Dv p gen) hl.1 [] true;obtain⟨hgl,hgm⟩:=Vy (p:=p) (tog:=IV (AM p) []) h8;refine Yy kZ ?_;have hs:=Sn
  conv=>whnf
  repeat'((first|clear U K|apply st|(apply zk;intro K U)|refine zY ?_|refine zs fun Z hs=>?_|refine zC ?_|(refine zb (fun hc=>?_) (fun hc=>?_)<;>try exact⟨⟩)|refine zo fun nn hnn Z hs=>?_|fail)<;>conv=>whnf)
  rename_i n8 _ _ _ _ _ nm _ _ _ nB _ _ _ _ _;have hs2:Sat Z [_,.box nB [.m nm],.map nm (Si []),.box n8 (UQ p gen)]:=hs;refine Ao.mono (fY hfn (TY _ (U3 hl.1) [] true (by decide)) (hs:=hs2) (stp:=XC (Oj p gen sv)) (D:=fun y _=>y∈Gw p (IV (AM p) []) (Dv p gen)) (fun nS nW=>KW (HB:=fun(M:List Int) l=>l= [.box nB [.m nm],.map nm (Si M),.box n8 (UQ p gen)]) (fun _=> .ready) rfl (fun _ _ _=>rfl) ?_) [] (og _ _ _ (fun _ h=>h)) ⟨_,rfl,rfl⟩) ?_
  .clear hs hs2
   rintro y M hy _ rfl Z hs;have hy64:y<18446744073709551616:=Nat.lt_of_lt_of_le (hgm y hy) (Nat.le_trans (Nat.pow_le_pow_right (by omega) h8) (by decide));have d1:=ZV (p:=p) (gen:=gen) h8 hy64;have d2:=fC p gen (FD (Dv p gen) y) false h1 (Y9 (QK _ _));cases he:Oj p gen sv y
   .have hne:kI p (FD (Dv p gen) y)≠sv:=by simpa[Oj]using he
    rw[show XC (Oj p gen sv) y M=(true,M) by simp only[XC,he,Jf,if_false]]
    conv=>whnf
    repeat'((first|clear U K|apply st|(apply zk;intro K U)|refine zY ?_|refine rk ?_ ?_|exact fun s e=>by cases e;rfl|refine d1.use ?_|refine d2.use ?_|(refine zb (fun hc=>?_) (fun hc=>?_)<;>try exact⟨⟩)|fail)<;>conv=>whnf)
    intro hn;exact⟨rfl,_,rfl,hs.Uo hn⟩
   .have hne:kI p (FD (Dv p gen) y)=sv:=by simpa[Oj]using he
    rw[show XC (Oj p gen sv) y M=(true,Gu M y) by simp only[XC,he,if_true]]
    conv=>whnf
    repeat'((first|clear U K|apply st|(apply zk;intro K U)|refine zY ?_|refine rk ?_ ?_|exact fun s e=>by cases e;rfl|refine d1.use ?_|refine d2.use ?_|refine GN hs 1 rfl rfl (Pd _) fun Z hs=>?_|(refine zb (fun hc=>?_) (fun hc=>?_)<;>try exact⟨⟩)|fail)<;>conv=>whnf)
    simp only[mS]at hs;intro hn;exact⟨rfl,_,rfl,hs.Uo hn⟩
  .clear hs hs2
   rw[gM];rintro r Z ⟨rfl,_,⟨_,rfl,rfl⟩,hs⟩;dsimp only at hs;refine HD hs fun Z hs=>?_
   refine zz ?_;(repeat clear U K);repeat intro K U
   have hlm:(Si (Qx p gen sv)).length=(Qx p gen sv).length:=by simp[Si]
   have hl256:(Qx p gen sv).length<=256:=by
    have:=PT (Oj p gen sv) (Gw p (IV (AM p) []) (Dv p gen)) [];rw[List.length_nil,F9]at this;exact Nat.le_trans this hgl
   have hz:(Qx p gen sv).length=0↔Fq p gen sv []=false:=by rw[gl,Lm hfn (fun _ h=>by cases h)]
   have hall:=fun cs hcs=>jz (sv:=sv) (cs:=cs) hfn hcs
   have hs:Sat Z [.box nB [.m nm],.map nm (Si (Qx p gen sv)),.box n8 (UQ p gen)]:=hs;have hgm2:Z nm=some (.map (Si (Qx p gen sv))):=hs.get (i:=1) rfl;rw[hgm2];clear hgm2;have hkl:(Si (Qx p gen sv)).length<=As:=by rw[hlm,hM];omega
   refine⟨hkl,?_⟩;generalize Qx p gen sv=M at *;cases hC:Fq p gen sv []
   .have hz0:=hz.2 hC
    conv=>whnf
    repeat'((first|clear U K|apply st|(apply zk;intro K U)|refine zY ?_|(refine zb (fun hc=>?_) (fun hc=>?_)<;>try exact⟨⟩)|fail)<;>conv=>whnf)
    all_goals first
     | exact AS (by rw[hC,if_neg (by decide)])
     | (exfalso;omega)
   .have hz1:M.length≠0:=fun e=>by rw[hz.1 e]at hC;cases hC
    have hF:=hR h0 hC;obtain⟨n,hn⟩: ∃n:Nat,kS p gen=n:=⟨_,(Int.toNat_of_nonneg (by omega)).symm⟩
    rw[hn]at hg g1 g3 hF;rw[Hc]at hF
    conv=>whnf
    repeat'((first|clear U K|apply st|(apply zk;intro K U)|refine zY ?_|(refine zb (fun hc=>?_) (fun hc=>?_)<;>try exact⟨⟩)|fail)<;>conv=>whnf)
    all_goals try(exfalso;omega)
    refine(ZE 1 n (by omega) (by omega)).use (rest:=[.box nB [.m nm],.map nm (Si M),.box n8 (UQ p gen)]) hs ?_;clear hs;rintro r post Z ⟨v,rfl,rfl,hsl⟩ hs;have el:(iL (List.replicate n (1:Int))).length=n:=by simp
    obtain⟨id,cp,rfl⟩:=qv hs (i:=0) rfl hsl;rw[el]at hs hsl ⊢;have c3:=wH (gen:=gen) (ms:=Dv p gen) hl.1 id n cp;refine zz ?_;(repeat clear U K);repeat intro K U
    rw[el];have hs:Sat Z [.own (.sl id n cp) 1 (iL (List.replicate n 1)),.box nB [.m nm],.map nm (Si M),.box n8 (UQ p gen)]:=hs;refine Ft (fun x:List Int×Int=>N5 (3+(p.AQ.length:Int)) x.1) (fun x=>[(13,eI x.2)]) (fun x=>[.own (.sl id n cp) 1 (iL x.1),.box nB [.m nm],.map nm (Si M),.box n8 (UQ p gen)]) (fun x=>DL (3+(p.AQ.length:Int)) x.1/\x.1.length=n/\Cj (3+(p.AQ.length:Int)) (Fq p gen sv) x.1 R/\0<=x.2) (List.replicate n 1,(n:Int)) rfl ⟨F0 (by omega) _,by simp,hF,by omega⟩ hs ?_;clear hs hF;rintro⟨cs,at_⟩ Z ⟨hk,hl3,hF,hat⟩ hs;dsimp only at hk hl3 hF hat hs
    conv=>whnf
    repeat'((first|clear U K|apply st|(apply zk;intro K U)|refine zY ?_|refine zC ?_|(refine zb (fun hc=>?_) (fun hc=>?_)<;>try exact⟨⟩)|refine zo fun nn hnn Z hs=>?_|fail)<;>conv=>whnf)
    all_goals try(exfalso;omega)
    have hca:=TY _ (U3 hl.1) cs false (by omega);have hx:=hall cs hk;refine Ao.mono (ye h8 (tog:=IV (AM p) cs) (fun nS nW=>iH hfn hca ?_) (stp:=Qt fun y=> !M.contains (y:Int)) (D:=fun y (s:Bool)=>y∈Gw p (IV (AM p) cs) (Dv p gen)/\s=false) (fun nS nW=>KW (HB:=fun(_:Bool) l=>l= [.own (.sl id n cp) 1 (iL cs),.box nB [.m nm],.map nm (Si M),.box n8 (UQ p gen)]) (fun s=>if s then .exit 2 else .ready) rfl (fun _ s h=>by rw[h.2];rfl) ?_) false (oh _ _ (fun _ h=>h)) ⟨_,rfl,rfl⟩ hs) ?_
    .rintro z _ Z ⟨_,rfl,rfl⟩ hs
     exact .cons (.refl _) (.cons (.rp (.cons (hs.He 3 rfl) .nil)) .nil)
    .clear hs
     rintro y s ⟨hy,rfl⟩ _ rfl Z hs;cases hc0:M.contains (y:Int)
     .rw[show Qt (fun y=> !M.contains (y:Int)) y false=(true,false) by simp only[Qt,hc0];rfl]
      conv=>whnf
      repeat'((first|clear U K|apply st|(apply zk;intro K U)|refine zY ?_|(refine GO hs 2 rfl rfl (Pd _) ?_;rw[Vl,hc0])|fail)<;>conv=>whnf)
      intro hno;exact⟨rfl,_,rfl,hs.Uo hno⟩
     .rw[show Qt (fun y=> !M.contains (y:Int)) y false=(false,true) by simp only[Qt,hc0];rfl]
      conv=>whnf
      repeat'((first|clear U K|apply st|(apply zk;intro K U)|refine zY ?_|(refine GO hs 2 rfl rfl (Pd _) ?_;rw[Vl,hc0])|fail)<;>conv=>whnf)
      intro hno;exact⟨rfl,_,rfl,hs.Uo hno⟩
    .clear hs
     rw[gN,hx];cases hE:Fq p gen sv cs
     .rintro r Z ⟨rfl,_,⟨_,rfl,rfl⟩,hs⟩
      refine HD hs fun Z hs=>?_
      refine zz ?_;(repeat clear U K);repeat intro K U
      obtain⟨cs',hnx,hF2⟩:=hF.later hE;subst hl3;have hw:IntKind.i64.wrap (3+(p.AQ.length:Int))=3+(p.AQ.length:Int):=wrap64 (by omega) (by omega);have ecl:((p.AQ.map Qz).length:Int)=p.AQ.length:=by simp
      have ecs:((iL cs).length:Int)=cs.length:=by simp
      rw[ecs];refine Du cs.length (fun k (_:Unit)=>[(13,eI (UR cs.length k))]) (fun k _=>[.own (.sl id cs.length cp) 1 (iL (UL cs k)),.box nB [.m nm],.map nm (Si M),.box n8 (UQ p gen)]) (fun k _=>El (3+(p.AQ.length:Int)) (cs.drop (cs.length - k))=none) () rfl (by simp[El]) (by rw[wP];exact hs) ?_;clear hs;rintro k - Z hkn hno hs;have hdw:=fj (n:=cs.length) (by omega) k hkn;have hzl:=lu hkn;by_cases hlt:k<cs.length
      .obtain⟨c,hc⟩: ∃c,cs[cs.length - 1 - k]? =some c:=⟨_,Di (by omega)⟩
       have hcB:=hk c (Dn hc);have hj:(UR cs.length k).toNat=cs.length - 1 - k:=by rw[hdw];omega
       have hat3:(UL cs k)[(UR cs.length k).toNat]? =some c:=by rw[hj];exact qu hlt hc
       have hge:0<=UR cs.length k:=by rw[hdw];omega
       have hlt2:UR cs.length k<(cs.length:Int):=by rw[hdw];omega
       have hlt4:(UR cs.length k).toNat<(UL cs k).length:=by rw[hj,hzl];omega
       have hw1:IntKind.i64.wrap (c+1)=c+1:=wrap64 (by omega) (by omega);have hset:((UL cs k).set (UR cs.length k).toNat (IntKind.i64.wrap (c+1)))[(UR cs.length k).toNat]? =some (IntKind.i64.wrap (c+1)):=List.getElem?_set_self hlt4;have hlt5:(UR cs.length k).toNat<((UL cs k).set (UR cs.length k).toNat (IntKind.i64.wrap (c+1))).length:=by rw[List.length_set];exact hlt4
       by_cases hB:c+1<3+(p.AQ.length:Int)
       .have hfd:=iX hlt hc hno hB
        rw[hfd]at hnx;simp only[GU]at hnx;subst hnx
        conv=>whnf
        repeat'((first|clear U K|apply st|(apply zk;intro K U)|refine zY ?_|refine zs fun Z hs=>?_|(refine zb (fun hc=>?_) (fun hc=>?_)<;>try exact⟨⟩)|fail)<;>conv=>whnf)
        all_goals try(exfalso;omega)
        rw[hj,hw1]at hs;exact⟨(_,UR cs.length k),Tf hk hfd,rfl,⟨(Hr hk hfd).1,(Hr hk hfd).2,hF2,hge⟩,hs⟩
       .have hmx:=qt hlt hc hno hB
        conv=>whnf
        repeat'((first|clear U K|apply st|(apply zk;intro K U)|refine zY ?_|refine zs fun Z hs=>?_|(refine zb (fun hc=>?_) (fun hc=>?_)<;>try exact⟨⟩)|fail)<;>conv=>whnf)
        all_goals try(exfalso;omega)
        have hs:Sat Z [.own (.sl id cs.length cp) 1 (iL (((UL cs k).set (UR cs.length k).toNat (IntKind.i64.wrap (c+1))).set (UR cs.length k).toNat 1)),.box nB [.m nm],.map nm (Si M),.box n8 (UQ p gen)]:=hs;rw[List.set_set,hj,iY hlt]at hs;exact⟨hlt,(),rfl,hmx,hs⟩
      .obtain rfl:k=cs.length:=by omega
       rw[Nat.sub_self,List.drop_zero,hnx]at hno;cases hno
     .rintro r Z ⟨rfl,_,⟨_,rfl,rfl⟩,hs⟩
      refine QA hs fun Z hs=>?_
      refine zz ?_;(repeat clear U K);repeat intro K U
      rw[hC,if_pos rfl,hF.now hE];exact Br (.t (.cons (hs.He 0 rfl) (.cons (.refl _) .nil)))
 .rw[if_neg h8]at c1 ⊢
  rw[if_neg (by decide)];refine Yy kZ ?_;have hs:=Sn;exact zW
end Go.Gl
namespace Go.Gl
open Go.Proofs
attribute [local irreducible] Ao Ai AY AO AJ AX AN AP AI AW AK AL Ak Au Sat AT Ar Aa W
def wi (g:pg) (x:List Int×Int):Pure zP 21 [.a (dH x),.rp (Qy g)] (.b (x.2==g.st)):=by
 refine xW kZ ?_;have hs:=Sn;exact zW
def mg (g:pg) (xs:List (List Int×Int)) (hxl:xs.length<=256) (f:Bool):Pure zP 68 [.l (xs.map dH) f,.f (.func 21) [] [.rp (Qy g)]] (eI (S0 (fun x=>x.2==g.st) xs 0)):=by
 have hM:=Mx;refine Pure.of ?_;refine xL kZ ?_;have hs:=Sn;refine zz ?_;(repeat clear U K);repeat intro K U
 refine Du xs.length (fun k (_:Unit)=>[(8,eI (Bj k))]) (fun _ _=>[]) (fun k _=>S0 (fun x=>x.2==g.st) xs 0=S0 (fun x=>x.2==g.st) (xs.drop k) k) () rfl rfl hs ?_;clear hs;rintro k - Z hk hR hs;have hck:Bj k=k:=Av (by omega);rcases BJ xs hk with⟨x,hx,hlt⟩|hke
 .rw[drop_cons hx,S0]at hR
  have c1:=wi g x;cases hq:(x.2==g.st)<;>rw[hq]at c1
  .simp only[hq,Jf,if_false]at hR
   conv=>whnf
   repeat'((first|clear U K|apply st|(apply zk;intro K U)|refine zY ?_|refine Ay (c1.use ?_)|fail)<;>conv=>whnf)
   exact⟨hlt,(),rfl,hR,hs⟩
  .simp only[hq,if_true]at hR
   conv=>whnf
   repeat'((first|clear U K|apply st|(apply zk;intro K U)|refine zY ?_|refine Ay (c1.use ?_)|fail)<;>conv=>whnf)
   exact AH (by rw[hR,<-hck])
 .rw[BS hke]at hR
  refine zz ?_;(repeat clear U K);repeat intro K U
  all_goals exact AH (by rw[hR];rfl)
def gF (g:pg) (xs:List (List Int×Int)) (hxl:xs.length<=256) (f:Bool):Pure zP 22 [.l (xs.map dH) f,.f (.func 21) [] [.rp (Qy g)]] (.b (Ue xs g.st)):=by
 have c1:=mg g xs hxl f;have e:Ue xs g.st=decide (S0 (fun x=>x.2==g.st) xs 0≥0):=by rw[Vp];rfl
 rw[e];generalize S0 (fun x=>x.2==g.st) xs 0=i at *;refine xV kZ ?_;have hs:=Sn;exact zW
end Go.Gl
namespace Go.Gl
open Go.Proofs
def S2:List Int->List Int->Int
 | x::xs,y::ys=>if x<y then -1 else if y<x then 1 else S2 xs ys
 | _,_=>0
def Zv: ∀ {xs ys:List Int},xs.length=ys.length->dT xs ys->0<=S2 xs ys
 | [],_,_,_=>by simp[S2]
 | _::_,[],h,_=>by cases h
 | x ::xs,y::ys,h,hg=>by
   have hg:y<x\/(x=y/\dT xs ys):=hg;have h2:xs.length=ys.length:=by simpa using h
   rw[S2];rcases hg with hg|⟨e,hg⟩
   .rw[if_neg (by omega),if_pos hg];decide
   .rw[if_neg (by omega),if_neg (by omega)]
    exact Zv h2 hg
def ub {p:Prog} {gen:Int} {b:Bool} (h:Gz p gen b=0):Dw p gen=true/\b=true/\(Dv p gen).length<=8:=by
 cases h1:Dw p gen
 .rw[(Ik h1 _).2]at h;cases h
 cases b
 .rw[Ij.2]at h;cases h
 exact⟨rfl,rfl,(pF h).2⟩
def jK {p:Prog} {gen sv:Int} {cs:List Int} (hfn:N0 p (Dv p gen)) (hcs:DL (3+(p.AQ.length:Int)) cs) (h:Fq p gen sv cs=true):Fq p gen sv []=true:=by
 rw[Lm hfn hcs,GF]at h;obtain⟨y,hy,hq⟩:=h;rw[Lm hfn (fun _ h=>by cases h),GF];exact⟨y,Tu hfn y hy,hq⟩
attribute [local irreducible] Ao Ai AY AO AJ AX AN AP AI AW AK AL Ak Au Sat AT Ar Aa W
def fN (a:Int):Pure zP 115 [eI a] (.b false):=by
 refine uQ kZ ?_;have hs:=Sn;refine zz ?_;(repeat clear U K);repeat intro K U
 all_goals exact AS (by simp)
def uV (a b:Int):Pure zP 69 [eI a,eI b] (eI (if a<b then -1 else if b<a then 1 else 0)):=by
 have c1:=fN a;have c2:=fN b;refine xK kZ ?_;have hs:=Sn
 conv=>whnf
 repeat'((first|clear U K|apply st|(apply zk;intro K U)|refine zY ?_|refine zC ?_|refine za (fun hc=>?_) fun hc=>?_|fail)<;>conv=>whnf)
 all_goals first
  | exact AS (by rw[if_pos (by omega)])
  | exact AS (by rw[if_neg (by omega),if_pos (by omega)])
  | exact AS (by rw[if_neg (by omega),if_neg (by omega)])
def dC (xs ys:List Int) (hl:xs.length=ys.length) (hx:xs.length<=1000) (f g:Bool):Pure zP 23 [.l (iL xs) f,.l (iL ys) g] (eI (S2 xs ys)):=by
 have hM:=Mx;have ex:((iL xs).length:Int)=xs.length:=by simp
 have ey:((iL ys).length:Int)=ys.length:=by simp
 refine xU kZ ?_;have hs:=Sn;refine zz ?_;(repeat clear U K);repeat intro K U
 refine Du xs.length (fun k (_:Unit)=>[(11,eI (Bj k))]) (fun _ _=>[]) (fun k _=>S2 xs ys=S2 (xs.drop k) (ys.drop k)) () rfl rfl hs ?_;clear hs;rintro k - Z hk hR hs;have hck:Bj k=k:=Av (by omega);rcases BJ xs hk with⟨x,hx2,hlt⟩|hke
 .obtain⟨y,hy⟩: ∃y,ys[k]? =some y:=⟨_,Di (by omega)⟩
  have hy2:ys[(Bj k).toNat]? =some y:=by rw[hck,Hc];exact hy
  have hgk:0<=Bj k:=by omega
  rw[drop_cons hx2,drop_cons hy,S2]at hR;have c1:=uV x y;by_cases h1:x<y
  .rw[if_pos h1]at c1 hR
   conv=>whnf
   repeat'((first|clear U K|apply st|(apply zk;intro K U)|refine zY ?_|refine zC ?_|(refine zb (fun hc=>?_) (fun hc=>?_)<;>try exact⟨⟩)|fail)<;>conv=>whnf)
   all_goals first
    | exact AH ⟨by rw[hR],rfl⟩
    | exact AS (by rw[hR])
    | (exfalso;omega)
  .by_cases h2:y<x
   .rw[if_neg h1,if_pos h2]at c1 hR
    conv=>whnf
    repeat'((first|clear U K|apply st|(apply zk;intro K U)|refine zY ?_|refine zC ?_|(refine zb (fun hc=>?_) (fun hc=>?_)<;>try exact⟨⟩)|fail)<;>conv=>whnf)
    all_goals first
     | exact AS (by rw[hR])
     | (exfalso;omega)
   .rw[if_neg h1,if_neg h2]at c1 hR
    conv=>whnf
    repeat'((first|clear U K|apply st|(apply zk;intro K U)|refine zY ?_|refine zC ?_|(refine zb (fun hc=>?_) (fun hc=>?_)<;>try exact⟨⟩)|fail)<;>conv=>whnf)
    all_goals first
     | exact⟨hlt,(),rfl,hR,hs⟩
     | (exfalso;omega)
 .have hR2:S2 xs ys=0:=by rw[hR,BS hke];rfl
  conv=>whnf
  repeat'((first|clear U K|apply st|(apply zk;intro K U)|refine zY ?_|(refine zb (fun hc=>?_) (fun hc=>?_)<;>try exact⟨⟩)|fail)<;>conv=>whnf)
  all_goals first
   | exact AS (by rw[hR2])
   | (exfalso;omega)
end Go.Gl
namespace Go.Gl
open Go.Proofs
attribute [local irreducible] Ao Ai AY AO AJ AX AN AP AI AW AK AL Ak Au Sat AT Ar Aa W
def YO (g : pg) (c0:Pure zP 9 [] (.b true)):Pure zP 5 [.a (Qy g)] (.b true):=by
 obtain⟨R,hR⟩:=jC g.p g.gen g.st;have c1:=oK g.p g.gen g.st hR;have c2:=vw g.p g.gen g.cl false;rw[lA]at c2
 obtain⟨L,fl,e,hL⟩: ∃(L:List Int) (fl:Bool) (e:Int),aV g.p g.gen g.st R= .t [.l (iL L) fl,eI e]:=by
  rw[aV];split
  .split
   .exact⟨R,false,0,rfl⟩
   .exact⟨[],true,5,rfl⟩
  .exact⟨[],true,_,rfl⟩
 by_cases h0:Gz g.p g.gen (MO g.p g.gen g.cl)=0
 .rw [h0,if_pos rfl]at c2
  obtain⟨h1,h2,h8⟩:=ub h0;have hfn:=OU h1 h8;obtain⟨hcl,hl3⟩:=Zw h1 h2;have hrow:DL (3+(g.p.AQ.length:Int)) g.cl:=by rw[x8]at hcl;exact hcl
  have c3:=gF g _ (Rm (tog:=Og (AM g.p) g.cl) h8) false;rw[show Ue (G1 g.p g.gen (Og (AM g.p) g.cl)) g.st=Fq g.p g.gen g.st g.cl from rfl]at c3;clear hL;cases hst:Yi g.st
  .rw[aV,hst,Ij.2,if_neg (by decide)]at c1
   refine dv kZ ?_;have hs:=Sn
   conv=>whnf
   repeat'((first|clear U K|apply st|(apply zk;intro K U)|refine zY ?_|refine zC ?_|(refine zb (fun hc=>?_) (fun hc=>?_)<;>try exact⟨⟩)|fail)<;>conv=>whnf)
   all_goals first
    | exact AS rfl
    | (exfalso;simp at hc;done)
    | (refine AS ?_;simp;done)
  have hb:Gz g.p g.gen (Yi g.st)=0:=by rw[hst,(IG h1).2,if_pos h8]
  rw[aV,if_pos hb]at c1;cases hC:Fq g.p g.gen g.st []
  .rw[hC,if_neg (by decide)]at c1
   have hN:Fq g.p g.gen g.st g.cl=false:=by
    cases hh:Fq g.p g.gen g.st g.cl
    .rfl
    .rw[jK hfn hrow hh]at hC;cases hC
   rw[hN]at c3;refine dv kZ ?_;have hs:=Sn
   conv=>whnf
   repeat'((first|clear U K|apply st|(apply zk;intro K U)|refine zY ?_|refine zC ?_|(refine zb (fun hc=>?_) (fun hc=>?_)<;>try exact⟨⟩)|fail)<;>conv=>whnf)
   all_goals first
    | exact AS rfl
    | (exfalso;simp at hc;done)
    | (refine AS ?_;simp;done)
  .rw [hC,if_pos rfl]at c1
   have hF:=hR hb hC;obtain⟨hg,g1,g3,g0⟩:=Xq h1;have hro:=F0 (B:=3+(g.p.AQ.length:Int)) (by omega) (kS g.p g.gen).toNat;obtain⟨hRr,hRl⟩:=hF.row hro;rw[List.length_replicate]at hRl
   have hcR:MO g.p g.gen R=true:=by
    rw[MO,A4,DR,Cy];refine⟨by rw[hRl];exact Int.toNat_of_nonneg (by omega),fun c hc=>?_⟩;have:=hRr c hc;rw[oM,decide_eq_true this.1,decide_eq_true this.2];rfl
   have hbR:Gz g.p g.gen (MO g.p g.gen R)=0:=by rw[hcR,(IG h1).2,if_pos h8]
   have c4:=vw g.p g.gen R false;rw[lA,hbR,if_pos rfl]at c4;have c5:=gF g _ (Rm (tog:=Og (AM g.p) R) h8) false;rw[show Ue (G1 g.p g.gen (Og (AM g.p) R)) g.st=Fq g.p g.gen g.st R from rfl,hF.has]at c5
   have hll:g.cl.length=R.length:=by
    rw[MO,A4,Cy]at h2;have:=h2.1;rw[hRl];show g.cl.length=(g.p.Ch.getD g.gen.toNat 0).toNat;omega
   have c6:=dC g.cl R hll (by omega) false false;cases hh:Fq g.p g.gen g.st g.cl<;>rw[hh]at c3
   .refine dv kZ ?_
    have hs:=Sn
    conv=>whnf
    repeat'((first|clear U K|apply st|(apply zk;intro K U)|refine zY ?_|refine zC ?_|(refine zb (fun hc=>?_) (fun hc=>?_)<;>try exact⟨⟩)|fail)<;>conv=>whnf)
    all_goals first
     | exact AS rfl
     | (exfalso;simp at hc;done)
     | (refine AS ?_;simp;done)
   .have hge:=Zv hll (hF.least (by rw[List.length_replicate,hll,hRl]) hro hrow (by rw[<-hRl,<-hll];exact Lp _ fun c hc=>(hrow c hc).1) hh)
    refine dv kZ ?_;have hs:=Sn
    conv=>whnf
    repeat'((first|clear U K|apply st|(apply zk;intro K U)|refine zY ?_|refine zC ?_|(refine zb (fun hc=>?_) (fun hc=>?_)<;>try exact⟨⟩)|fail)<;>conv=>whnf)
    all_goals first
     | exact AS rfl
     | (exfalso;simp at hc;done)
     | (exfalso;omega)
     | (refine AS ?_;simp;done)
 .rw[if_neg h0]at c2
  rw[hL]at c1;refine dv kZ ?_;have hs:=Sn
  conv=>whnf
  repeat'((first|clear U K|apply st|(apply zk;intro K U)|refine zY ?_|refine zC ?_|(refine zb (fun hc=>?_) (fun hc=>?_)<;>try exact⟨⟩)|fail)<;>conv=>whnf)
  all_goals first
   | exact AS rfl
   | (exfalso;simp at hc;done)
   | (exfalso;omega)
end Go.Gl
namespace Go.Gl
variable {P:Program} {F:Nat->Prop} {Z:AE} {pu:List FuncId} {fz:List Nat}
end Go.Gl
