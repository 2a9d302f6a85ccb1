import Derived.Test.YtnidfcmdimehdaaGreatW14
import Derived.Test.YtnidfcmdimehdaaGreatW22
import Derived.Test.YtnidfcmdimehdaaGreatW23
import Derived.Test.YtnidfcmdimehdaaGreatW29
set_option linter.all false
set_option linter.defProp false
set_option maxHeartbeats 8000000
noncomputable section
namespace Go.Gl
open Go.Proofs
def Sat.flip {Z:AE} {X AB:List At} (h:Sat Z (X++AB)):Sat Z (AB++X):=h.perm OD
def mr (f:Fact) (c:Bool) (j:Nat) (a:Int) (p:List Int) (k:Kn):(DO f c j a p k).BL=k.BL:=by unfold DO;(repeat' split)<;>rfl
def rl (f:Fact) (c:Bool) (j:Nat) (a:Int) (p:List Int) (k:Kn):(DO f c j a p k).DS=k.DS:=by unfold DO;(repeat' split)<;>rfl
def wx (f:Fact) (c:Bool) (j:Nat) (a:Int) (p:List Int) (k:Kn):(DO f c j a p k).no=k.no:=by unfold DO;(repeat' split)<;>rfl
def jP (f:Fact) (c:Bool) (j:Nat) (a:Int) (p:List Int) (k:Kn):(DO f c j a p k).AF.length<=k.AF.length+1:=by
 unfold DO
 repeat' split
 .exact WL _ _
 all_goals simp[Bm]
def wu {m:Nat} {k:Kn} (h:aI m k) (f:Fact) (c:Bool) (j:Nat) (a:Int) (p:List Int):aI (m+1) (DO f c j a p k):=by
 obtain⟨h1,h2,h3,h4⟩:=h;refine⟨by rw[mr];exact h1,by rw[rl];exact h2,by rw[wx];omega,?_⟩;have:=jP f c j a p k;omega
def fU {ls:List Fact} (h:Mk ls) (a:Int) (p:List Int):aI ls.length (kg ls a p):=by
 have hc:GC 64 ls:=fun l hl ho=>(h l hl).cls ho
 obtain⟨h1,h2⟩:=mc hc a p;obtain⟨h3,h4⟩:=fV a p ls k0;exact⟨by simpa using h1,by simpa using h2,by simpa[kg,k0]using h3,by simpa[kg,k0]using h4⟩
def we:Bx (kg []) []:=⟨fun x hx=>(by cases hx),fun a p _=>rfl,.nil,fun x hx=>(by cases hx)⟩
attribute [local irreducible] Ao Ai AY AO AJ AX AN AP AI AW AK AL Ak Au Sat AT Ar Aa W
abbrev IX (y:Fact×Bool):List V:=[eI y.1.op,eI y.1.arg,.l (iL y.1.path) false,eI y.1.cls,eI y.1.n,.l (y.1.kids.map FX) false,.b y.2]
def wZ (w : AG) (us:List Nat) (ls:List Fact) (ps:List (Fact×Bool)) (hps:ps=ls.map Ag) (b:Bool) (h:Mk ls) (hlen:ls.length<900) :
    BK zP 93 [.rp (gW w us),.l (ps.map IX) b] [] fun r post=> ∃L es,r= .ret (.a (gv w us L))/\Bx (kg ls) es/\post=By L es:=by
 intro Z hs;have hM:=Mx;have hpl:ps.length=ls.length:=by rw[hps,C4]
 refine w9 kZ ?_
 conv=>whnf
 repeat'((first|apply st|(apply sq;intro K U)|(apply si;intro A B hA hB)|(refine hA _ _ ?_;clear hB B hA A)|(apply U;clear U K)|refine kD fun Z hs=>?_|(intro nn hnn;generalize hg:Bo _ nn _=Z;refine oQ hg fun hs=>?_;clear hg)|fail)<;>conv=>whnf)
 rename_i n4 _ _ _ L _ _ _ _ _;generalize nn=n5 at *;refine Du ps.length (fun k (x:List Bt)=>[(17,eI (Bj k))]) (fun k x=> .box n5 (gv w us L):: .box n4 [.pn,.mn]::By L x) (fun k x=>Bx (kg (ls.take k)) x) [] rfl we (hs.perm (.cons _ (.swap _ _ _))) ?_;clear hs hnn;rintro k es Z hk hinv hs;rcases BJ ps hk with⟨y,hy,hlt⟩|hke
 .obtain ⟨l,hlk⟩: ∃l,ls[k]? =some l:=⟨_,Di (by omega)⟩
  have hyl:y=Ag l:=by
   rw[hps,Np,hlk]at hy;exact(Option.some.inj hy).symm
  have hlm:l∈ls:=Dn hlk;have htk:ls.take (k+1)=ls.take k++[l]:=An hlk;have hbk: ∀a p,aI (ls.take k).length (kg (ls.take k) a p):=fU fun x hx=>h x (List.mem_of_mem_take hx)
  obtain⟨l1,l2,l3,l4⟩:=h l hlm;have hkl:(ls.take k).length<900:=by rw[NK];omega
  have hend: ∀a p,kg (ls.take (k+1)) a p=if a=(Ag l).1.arg/\p=(Ag l).1.path then Bl (DO (Ag l).1 (Ag l).2 (Ag l).1.path.length a p (kg (ls.take k) a p)) (Ag l).1 (Ag l).2 else DO (Ag l).1 (Ag l).2 (Ag l).1.path.length a p (kg (ls.take k) a p):=fun a p=>by
   rw[htk,mb];exact rm a p (kg (ls.take k) a p) l
  generalize kg (ls.take k)=kf at *;rw[<-hyl]at l1 l2 l3 l4 hend;clear hyl;obtain⟨f,c⟩:=y;dsimp only at l1 l2 l3 l4 hend;generalize (ls.take k).length=m at *
  conv=>whnf
  repeat'((first|apply st|(apply sq;intro K U)|(apply si;intro A B hA hB)|(refine hA _ _ ?_;clear hB B hA A)|(apply U;clear U K)|refine⟨rfl,?_⟩|refine⟨kZ,?_⟩|refine ix ?_|refine ld ?_|refine kD fun Z hs=>?_|(refine pc (fun hc=>?_)<;>(try rw[hc])<;>clear hc)|(intro nn hnn;generalize hg:Bo _ nn _=Z;refine oQ hg fun hs=>?_;clear hg)|fail)<;>conv=>whnf)
  rename_i n7 _ _ _ _ _ _ _;generalize nn=n8 at *;replace hs:Sat Z ([.box n8 (FN f.arg []),.box n7 (IX (f,c)),.box n5 (gv w us L),.box n4 [.pn,.mn]]++By L es):=hs;refine(oO w us hinv (a:=f.arg) (p:=[]) (by simp)).use (rest:=[.box n8 (FN f.arg []),.box n7 (IX (f,c)),.box n5 (gv w us L),.box n4 [.pn,.mn]]) hs.flip ?_;clear hs;rintro r post Z ⟨es1,e1,got,rfl,rfl⟩ hs;have hek:=got.k;obtain⟨hea,hep⟩:=Fw.1 got.is;obtain⟨pre,post,rfl⟩:=List.append_of_mem got.mem;replace hs:=Jp (X:=[.box n8 (FN f.arg []),.box n7 (IX (f,c)),.box n5 (gv w us L),.box n4 [.pn,.mn]]) hs.flip;cases hnd:e1.k.Ad<;>rw[hnd]at hs
  all_goals
   conv=>whnf
   repeat'((first|apply st|(apply sq;intro K U)|(apply si;intro A B hA hB)|(refine hA _ _ ?_;clear hB B hA A)|(apply U;clear U K)|refine ld ?_|refine vC fun Z hs=>?_|fail)<;>conv=>whnf)
   obtain⟨e2,es2,hP,hQ,hR⟩: ∃(e2:Bt) (es2:List Bt),(Bx (fun a p=>DO f c 0 a p (kf a p)) es2/\e2∈es2/\e2.is f.arg (f.path.take 0)=true)/\e2.b=e1.b/\Sat Z ([.box n8 (FN f.arg (f.path.take 0)),.box n7 (IX (f,c)),.box n5 (gv w us L),.box n4 [.pn,.mn]]++By L es2):=by
    refine⟨⟨e1.a,e1.p,e1.b,e1.vn,e1.vs,Bm e1.k c⟩,_,⟨(got.inv.change e1.b e1.vn e1.vs (Bm e1.k c)).congr fun a p=>?_,MH _ (.head _),got.is⟩,rfl,?_⟩
    .rw[mo,MJ,hea,hep,hek]
     by_cases ha:a=f.arg/\p= []
     .rw[if_pos ha,if_pos ha,ha.1,ha.2]
     .rw[if_neg ha,if_neg ha]
    .refine DW (X:=[.box n8 (FN f.arg []),.box n7 (IX (f,c)),.box n5 (gv w us L),.box n4 [.pn,.mn]]) (e:=e1) rfl rfl rfl ?_
     first
      | (rw[JQ c hnd];exact hs)
      | (rw[Hz c hnd];exact hs)
   rw[<-hQ];clear hs hnd got hek hea hep;refine Du f.path.length (fun j (x:List Bt×Bt)=>[(44,eI (Bj j)),(9,.p x.2.b 0)]) (fun j x=>[.box n8 (FN f.arg (f.path.take j)),.box n7 (IX (f,c)),.box n5 (gv w us L),.box n4 [.pn,.mn]]++By L x.1) (fun j x=>Bx (fun a p=>DO f c j a p (kf a p)) x.1/\x.2∈x.1/\x.2.is f.arg (f.path.take j)=true) (es2,e2) rfl hP hR ?_;clear hP hR;generalize e2.b=b0 at *;clear hQ e2 es2;rintro j ⟨es2,e2⟩ Z hj ⟨hinv2,hmem,his⟩ hs;simp only at hinv2 hmem his hs
   have hek:e2.k=DO f c j f.arg (f.path.take j) (kf f.arg (f.path.take j)):=by
    have:=hinv2.val e2 hmem;obtain⟨h1,h2⟩:=Fw.1 his;rw[this,h1,h2]
   have hok:aI (m+1) e2.k:=by rw[hek];exact wu (hbk _ _) f c j _ _
   obtain⟨hea,hep⟩:=Fw.1 his;obtain⟨pre2,post2,rfl⟩:=List.append_of_mem hmem;replace hs:=Jp (X:=[.box n8 (FN f.arg (f.path.take j)),.box n7 (IX (f,c)),.box n5 (gv w us L),.box n4 [.pn,.mn]]) hs;have hck:Bj j=j:=Av (by omega);rcases BJ f.path hj with⟨s,hsj,hjlt⟩|hje
   .have hct:=fun b=>Ce e2.k.AF b s
    have hk4:=hok.2.2.2;have hsl0:kJ e2.k s= {e2.k with AF:=S5 e2.k.AF s}:=rfl
    have hne:f.path.take j++[s]≠f.path.take j:=by
     intro e;have:=congrArg List.length e;simp at this
    have hgd:f.path.getD j 0=s:=by rw[Dh,hsj];rfl
    have htk2:f.path.take (j+1)=f.path.take j++[s]:=An hsj;cases hcB:e2.k.AF.contains s
    all_goals
     rw[hcB]at hct
     conv=>whnf
     repeat'((first|apply st|(apply sq;intro K U)|(apply si;intro A B hA hB)|(refine hA _ _ ?_;clear hB B hA A)|(apply U;clear U K)|refine⟨rfl,?_⟩|refine⟨kZ,?_⟩|refine ix ?_|refine ld ?_|refine vC fun Z hs=>?_|refine kD fun Z hs=>?_|refine aq fun v Z hs hsl=>?_|refine xr ?_|refine xu ?_|(refine pc (fun hc=>?_)<;>(try rw[hc])<;>clear hc)|refine Pure.use (OX f.arg (f.path.take j) s (by rw[NK];omega)) ?_|refine Pure.Sy (hct false) (.cons (hs.He 2 rfl) (.cons (.refl _) .nil)) rfl ?_|fail)<;>conv=>whnf)
    have hs3: ∃vs3,Sat Z ([.box n8 (FN f.arg (f.path.take j++[s])),.box n7 (IX (f,c)),.box n5 (gv w us L),.box n4 [.pn,.mn]]++By L (pre2++⟨e2.a,e2.p,e2.b,e2.vn,vs3,kJ e2.k s⟩::post2)):=⟨_,DW (X:=[.box n8 (FN f.arg (f.path.take j++[s])),.box n7 (IX (f,c)),.box n5 (gv w us L),.box n4 [.pn,.mn]]) (e:=e2) rfl rfl rfl (by rw[hsl0,S5,if_neg (by rw[hcB];decide)];exact hs)⟩
    rotate_left
    have hs3: ∃vs3,Sat Z ([.box n8 (FN f.arg (f.path.take j++[s])),.box n7 (IX (f,c)),.box n5 (gv w us L),.box n4 [.pn,.mn]]++By L (pre2++⟨e2.a,e2.p,e2.b,e2.vn,vs3,kJ e2.k s⟩::post2)):=⟨e2.vs,DW (X:=[.box n8 (FN f.arg (f.path.take j++[s])),.box n7 (IX (f,c)),.box n5 (gv w us L),.box n4 [.pn,.mn]]) (e:=e2) rfl rfl rfl (by rw[hsl0,S5,if_pos hcB];exact hs)⟩
    all_goals
     clear hs;obtain⟨vs3,hs⟩:=hs3;have hinv3:=hinv2.change e2.b e2.vn vs3 (kJ e2.k s);refine(oO w us hinv3 (a:=f.arg) (p:=f.path.take j++[s]) (by rw[RG,NK];simp;omega)).use (rest:=[.box n8 (FN f.arg (f.path.take j++[s])),.box n7 (IX (f,c)),.box n5 (gv w us L),.box n4 [.pn,.mn]]) hs.flip ?_;clear hs;rintro r post Z ⟨es4,e4,got,rfl,rfl⟩ hs;have hek4:=got.k;obtain⟨hea4,hep4⟩:=Fw.1 got.is;obtain⟨pre4,post4,rfl⟩:=List.append_of_mem got.mem;replace hs:=Jp (X:=[.box n8 (FN f.arg (f.path.take j++[s])),.box n7 (IX (f,c)),.box n5 (gv w us L),.box n4 [.pn,.mn]]) hs.flip;cases hnd:e4.k.Ad<;>rw[hnd]at hs
     all_goals
      conv=>whnf
      repeat'((first|apply st|(apply si;intro A B hA hB)|(refine hA _ _ ?_;clear hB B hA A)|(apply U;clear U K)|refine⟨rfl,?_⟩|refine ld ?_|refine vC fun Z hs=>?_|clear U K)<;>conv=>whnf)
      refine⟨hjlt,(pre4++⟨e4.a,e4.p,e4.b,e4.vn,e4.vs,Bm e4.k c⟩::post4,⟨e4.a,e4.p,e4.b,e4.vn,e4.vs,Bm e4.k c⟩),rfl,⟨(got.inv.change e4.b e4.vn e4.vs (Bm e4.k c)).congr fun a p=>?_,MH _ (.head _),by rw[htk2];exact got.is⟩,?_⟩
      .rw[mq f c hjlt,MJ,hea4,hep4,htk2,hgd]
       by_cases h1:a=f.arg/\p=f.path.take j++[s]
       .rw[if_pos h1,if_pos h1,hek4,MJ,hea,hep,if_neg (fun h=>hne h.2),h1.1,h1.2]
       .rw[if_neg h1,if_neg h1,MJ,hea,hep]
        by_cases h2:a=f.arg/\p=f.path.take j
        .rw[if_pos h2,if_pos h2,hek,h2.1,h2.2]
        .rw[if_neg h2,if_neg h2]
      .rw[htk2]
       refine DW (X:=[.box n8 (FN f.arg (f.path.take j++[s])),.box n7 (IX (f,c)),.box n5 (gv w us L),.box n4 [.pn,.mn]]) (e:=e4) rfl rfl rfl ?_
       first
        | (rw[JQ c hnd];exact hs)
        | (rw[Hz c hnd];exact hs)
   .have etk:f.path.take j=f.path:=CE hje
    rw[etk]at his hs hek hep
    conv=>whnf
    repeat'((first|apply st|(apply sq;intro K U)|(apply si;intro A B hA hB)|(refine hA _ _ ?_;clear hB B hA A)|(apply U;clear U K)|refine⟨rfl,?_⟩|refine⟨kZ,?_⟩|refine ld ?_|(refine vJ (fun hc=>?_)<;>(try rw[hc])<;>clear hc)|clear U K)<;>conv=>whnf)
    refine(wE f c l1 l3 hok.1 hok.2.1 (by have:=hok.2.2.1;omega) l4).use (rest:=[.box n8 (FN f.arg f.path),.box n7 (IX (f,c)),.box n5 (gv w us L),.box n4 [.pn,.mn]]++IA L (pre2++e2::post2) pre2 post2) hs ?_;clear hs;rintro r post Z ⟨rfl,vn',rfl⟩ hs;have hs2:=DW (X:=[.box n8 (FN f.arg f.path),.box n7 (IX (f,c)),.box n5 (gv w us L),.box n4 [.pn,.mn]]) (e:=e2) (e':=⟨e2.a,e2.p,e2.b,vn',e2.vs,Bl e2.k f c⟩) rfl rfl rfl hs;clear hs;have hs:=hs2;clear hs2
    conv=>whnf
    repeat'((first|(apply si;intro A B hA hB)|(refine hA _ _ ?_;clear hB B hA A)|(apply U;clear U K)|refine⟨rfl,?_⟩|clear U K)<;>conv=>whnf)
    refine⟨hlt,_,rfl,(hinv2.change e2.b vn' e2.vs (Bl e2.k f c)).congr fun a p=>?_,hs.less ((NJ _ _).trans (NJ _ _))⟩;rw[hend,MJ,hea,hep,hek,<-hje];by_cases h1:a=f.arg/\p=f.path
    .rw[if_pos h1,if_pos h1,h1.1,h1.2]
    .rw[if_neg h1,if_neg h1]
 .have etk:ls.take k=ls:=CE (by omega)
  rw[etk]at hinv
  conv=>whnf
  repeat'((first|apply st|(apply sq;intro K U)|(apply si;intro A B hA hB)|(refine hA _ _ ?_;clear hB B hA A)|(apply U;clear U K)|refine⟨rfl,?_⟩|refine⟨kZ,?_⟩|refine ld ?_|refine kD fun Z hs=>?_|(refine vJ (fun hc=>?_)<;>(try rw[hc])<;>clear hc)|clear U K)<;>conv=>whnf)
  exact AH ⟨By L es,⟨L,es,rfl,hinv,rfl⟩,hs.less ((NJ _ _).trans (NJ _ _))⟩
end Go.Gl
namespace Go.Gl
open Go.Proofs
def kC (w:AG) (us:List Nat) (ls:List Fact) (b:Bool) (h:Mk ls) (hlen:ls.length<900) :
    BK zP 93 [.rp (gW w us),.l (DU ls) b] [] fun r post=> ∃L es,r= .ret (.a (gv w us L))/\Bx (kg ls) es/\post=By L es:=by
 have:=wZ w us ls (ls.map Ag) rfl b h hlen;rw[uj]at this;exact this
abbrev kV (L:Nat) (pre post:List Bt) (e:Bt) (s:List Bt):List At:=
 .box e.b [eU e.k.BL,eU e.k.DS,eI e.k.low,eI e.k.high,e.vn,.b e.k.whole,.b e.k.Ad,e.vs]:: .own e.vn 1 (iL e.k.no)::IA L (pre++e::(post++s)) pre (post++s)
def KC {Z:AE} {X:List At} {L:Nat} {pre post:List Bt} {e:Bt} {s:List Bt} (h:Sat Z (X++By L (pre++e::(post++s)))):Sat Z (.own e.vs 1 (iL e.k.AF)::(X++kV L pre post e s)):=by
 have h2:=Jp h;refine h2.perm ((Ia _ _ _ _).symm.trans (.cons _ ?_));exact(List.perm_middle.trans (.cons _ List.perm_middle)).symm
def JA {Z:AE} {X:List At} {L:Nat} {pre post:List Bt} {e:Bt} {s:List Bt} (h:Sat Z (.own e.vs 1 (iL e.k.AF)::(X++kV L pre post e s))):Sat Z (X++By L (pre++e::(post++s))):=by
 refine DW (X:=X) (e:=e) (e':=e) rfl rfl rfl ?_;refine h.perm ?_;refine List.Perm.trans (.cons _ (List.perm_middle.trans (.cons _ List.perm_middle))) ?_;exact Ia _ _ _ _
def Ie (kf:Int->List Int->Kn) (L:Nat) (es:List Bt) (post:List At):Prop:= ∃es',J7 es es'/\Bx kf es'/\post=By L es'
def eo (g:List (List Int)):(B1 g)[0]? =some 1/\(B1 g)[1]? =some 3/\(B1 g)[2]? =some 5:=by
 have key: ∀k,(Bc g k)[0]? =some 1/\(Bc g k)[1]? =some 3/\(Bc g k)[2]? =some 5:=fun k=>by
  induction k with
  | zero=>exact⟨rfl,rfl,rfl⟩
  | succ k ih=>
    have hl:=Df g k;rw[Bc,dN (by omega),dN (by omega),dN (by omega)];exact ih
 exact key g.length
attribute [local irreducible] Ao Ai AY AO AJ AX AN AP AI AW AK AL Ak Au Sat AT Ar Aa W
def wS (w : AG) {kf:Int->List Int->Kn} (hr:ER w kf) {L:Nat} {es:List Bt} (h:Bx kf es) {a:Int} {p:List Int} (hp:p.length<=2) :
    BK zP 154 [.a (gv w (B1 w.parents) L),CI a p,eI 2] (By L es) fun r post=>r= .ret (.b (EA kf a p))/\Ie kf L es post:=by
 intro Z hs;have hM:=Mx;obtain⟨-,hu1,hu2⟩:=eo w.parents;generalize B1 w.parents=us at *;refine gA kZ ?_;refine zz ?_;(repeat clear U K);repeat intro K U
 refine(oO w us h (a:=a) (p:=p) hp).use (rest:=[]) (by simpa using hs) ?_;clear hs;rintro r post Z ⟨es4,e4,got,rfl,rfl⟩ hs;have hek:=got.k;obtain⟨pre,post,rfl⟩:=List.append_of_mem got.mem;rw[Fj]at hs;replace hs:=Jp (X:=[]) hs;have hok:=hr.ok a p;have hsl:=(hr.ok a p).2.2.2;have hsh:=hr.short a p;rw[<-hek]at hok hsl hsh;have hb1:bits .andNot .u64 (e4.k.BL:Int) ((5:Nat):Int)=((K1 e4.k.BL 5:Nat):Int):=Ha;have hb2:bits .and .u64 (e4.k.DS:Int) ((5:Nat):Int)=((e4.k.DS&&&5:Nat):Int):=FJ hok.2.1 (by decide);have hb3:=Lv (u:=5) hok.1
 have hP:EA kf a p=(!e4.k.whole&&(Gs e4.k.BL 5&&(e4.k.DS&&&5==0&&e4.k.AF.all fun s=> !(kf a (p++[s])).Ad))):=by
  rw[EA,Dx,G7,hek];rfl
 generalize EA kf a p=R at *
 conv=>whnf
 repeat'((first|clear U K|apply st|(apply zk;intro K U)|refine zY ?_|refine za (fun hc=>?_) fun hc=>?_|fail)<;>conv=>whnf)
 .have h2:(e4.k.DS&&&5==0)=false:=by rw[beq_eq_false_iff_ne];omega
  exact AH ⟨_,⟨by rw[hP,h2];simp,_,got.ext,got.inv,rfl⟩,by simpa using DW (X:=[]) (e:=e4) (e':=e4) rfl rfl rfl hs⟩
 .have h1:Gs e4.k.BL 5=true:=hb3.1 (by omega)
  have h2:(e4.k.DS&&&5==0)=true:=by rw[Cy];omega
  rw[h1,h2,Ed,Ed]at hP
  have hs1:Sat Z (.own e4.vs 1 (iL e4.k.AF)::kV L pre post e4 []):=by
   have h2:=KC (X:=[]) (L:=L) (pre:=pre) (post:=post) (e:=e4) (s:=[]) (by simpa using DW (X:=[]) (e:=e4) (e':=e4) rfl rfl rfl hs);simpa using h2
  refine Du e4.k.AF.length (fun k (x:List Bt)=>[(49,eI (Bj k))]) (fun k x=> .own e4.vs 1 (iL e4.k.AF)::kV L pre post e4 x) (fun k x=>(Bx kf (pre++e4::(post++x))/\ ∀y∈x,y.k=k0)/\R=(!e4.k.whole&&(e4.k.AF.drop k).all fun s=> !(kf a (p++[s])).Ad)) [] rfl ⟨⟨by simpa using got.inv,by simp⟩,hP⟩ hs1 ?_;clear hs hs1 hP;rintro k new Z hk ⟨⟨hinv,hnew⟩,hF⟩ hs;have hck:Bj k=k:=Av (by omega);rcases BJ e4.k.AF hk with⟨s,hsk,hlt⟩|hke
  .have hsm:=Dn hsk
   have hp2:p.length<2:=by
    rcases Nat.lt_or_ge p.length 2 with h'|h'
    .exact h'
    .rw[hsh h']at hsm;cases hsm
   rw[drop_cons hsk,W5]at hF
   conv=>whnf
   repeat'((first|clear U K|apply st|(apply zk;intro K U)|refine zY ?_|refine rk ?_ ?_|exact fun s e=>by cases e;rfl|refine ze fun x hx=>?_|refine Pure.use (OX a p _ hp2) ?_|fail)<;>conv=>whnf)
   obtain rfl:x=s:=by rw[hck,Hc,hsk]at hx;exact(Option.some.inj hx).symm
   refine(oO w us hinv (a:=a) (p:=p++[x]) (by simp;omega)).use (rest:=[]) (by simpa using JA (X:=[]) (by simpa using hs)) ?_;clear hs;rintro r post' Z ⟨es5,e5,got5,rfl,rfl⟩ hs;have hek5:=congrArg Kn.Ad got5.k;obtain⟨newA,heA,hnA⟩:=got5.ext;obtain⟨pre5,post5,he5⟩:=List.append_of_mem got5.mem;have e7:es5=pre++e4::(post++(new++newA)):=by rw[heA];simp
   have hi7:=got5.inv;rw[e7]at hi7;have hn7: ∀y∈new++newA,y.k=k0:=fun y hy=>(Dm.1 hy).elim (hnew y) (hnA y)
   rw[Fj,he5]at hs;replace hs:=Jp (X:=[]) hs;cases hnx:(kf a (p++[x])).Ad<;>rw[hnx]at hek5 hF<;>rw[hek5]at hs
   all_goals
    refine zz ?_;(repeat clear U K);repeat intro K U
    have hs3:Sat Z (By L (pre++e4::(post++(new++newA)))):=by
     rw[<-hek5]at hs;have h3:=DW (X:=[]) (e:=e5) (e':=e5) rfl rfl rfl hs;rw[<-he5,e7]at h3;exact h3
   .exact⟨hlt,new++newA,rfl,⟨⟨hi7,hn7⟩,by rw[hF];rfl⟩,KC (X:=[]) hs3⟩
   .exact AH ⟨_,⟨by rw[hF];simp,_,got.ext.trans ⟨_,by simp,hn7⟩,hi7,rfl⟩,hs3⟩
  .rw[BS hke,List.all_nil,Bool.and_true]at hF
   conv=>whnf
   repeat'((first|clear U K|apply st|(apply zk;intro K U)|refine zY ?_|(refine zb (fun hc=>?_) (fun hc=>?_)<;>try exact⟨⟩)|fail)<;>conv=>whnf)
   exact AH ⟨_,⟨by rw[hF],_,got.ext.trans ⟨_,by simp,hnew⟩,hinv,rfl⟩,JA (X:=[]) hs⟩
 .have h1:Gs e4.k.BL 5=false:=by
   rw[<-Bool.not_eq_true,<-hb3];omega
  exact AH ⟨_,⟨by rw[hP,h1];simp,_,got.ext,got.inv,rfl⟩,by simpa using DW (X:=[]) (e:=e4) (e':=e4) rfl rfl rfl hs⟩
def yZ (w : AG) {kf:Int->List Int->Kn} (hr:ER w kf) {L:Nat} {es:List Bt} (h:Bx kf es) {a:Int} {p:List Int} (hp:p.length<=2) :
    BK zP 154 [.a (gv w (B1 w.parents) L),CI a p,eI 1] (By L es) fun r post=>r= .ret (.b (Gv kf a p))/\Ie kf L es post:=by
 intro Z hs;have hM:=Mx;obtain⟨-,hu1,hu2⟩:=eo w.parents;generalize B1 w.parents=us at *;refine gA kZ ?_;refine zz ?_;(repeat clear U K);repeat intro K U
 refine(oO w us h (a:=a) (p:=p) hp).use (rest:=[]) (by simpa using hs) ?_;clear hs;rintro r post Z ⟨es4,e4,got,rfl,rfl⟩ hs;have hek:=got.k;obtain⟨pre,post,rfl⟩:=List.append_of_mem got.mem;rw[Fj]at hs;replace hs:=Jp (X:=[]) hs;have hok:=hr.ok a p;have hsl:=(hr.ok a p).2.2.2;have hsh:=hr.short a p;rw[<-hek]at hok hsl hsh;have hb1:bits .andNot .u64 (e4.k.BL:Int) ((3:Nat):Int)=((K1 e4.k.BL 3:Nat):Int):=Ha;have hb2:bits .and .u64 (e4.k.DS:Int) ((3:Nat):Int)=((e4.k.DS&&&3:Nat):Int):=FJ hok.2.1 (by decide);have hb3:=Lv (u:=3) hok.1
 have hP:Gv kf a p=(decide (D2 (kf a p)<=e4.k.high)&&(Gs e4.k.BL 3&&(e4.k.DS&&&3==0&&e4.k.AF.all fun s=> !(kf a (p++[s])).Ad))):=by
  rw[Gv,Dx,G7,hek];rfl
 generalize Gv kf a p=R at *
 conv=>whnf
 repeat'((first|clear U K|apply st|(apply zk;intro K U)|refine zY ?_|refine za (fun hc=>?_) fun hc=>?_|fail)<;>conv=>whnf)
 .have h2:(e4.k.DS&&&3==0)=false:=by rw[beq_eq_false_iff_ne];omega
  exact AH ⟨_,⟨by rw[hP,h2];simp,_,got.ext,got.inv,rfl⟩,by simpa using DW (X:=[]) (e:=e4) (e':=e4) rfl rfl rfl hs⟩
 .have h1:Gs e4.k.BL 3=true:=hb3.1 (by omega)
  have h2:(e4.k.DS&&&3==0)=true:=by rw[Cy];omega
  rw[h1,h2,Ed,Ed]at hP
  have hs1:Sat Z (.own e4.vs 1 (iL e4.k.AF)::kV L pre post e4 []):=by
   have h2:=KC (X:=[]) (L:=L) (pre:=pre) (post:=post) (e:=e4) (s:=[]) (by simpa using DW (X:=[]) (e:=e4) (e':=e4) rfl rfl rfl hs);simpa using h2
  refine Du e4.k.AF.length (fun k (x:List Bt)=>[(49,eI (Bj k))]) (fun k x=> .own e4.vs 1 (iL e4.k.AF)::kV L pre post e4 x) (fun k x=>(Bx kf (pre++e4::(post++x))/\ ∀y∈x,y.k=k0)/\R=(decide (D2 (kf a p)<=e4.k.high)&&(e4.k.AF.drop k).all fun s=> !(kf a (p++[s])).Ad)) [] rfl ⟨⟨by simpa using got.inv,by simp⟩,hP⟩ hs1 ?_;clear hs hs1 hP;rintro k new Z hk ⟨⟨hinv,hnew⟩,hF⟩ hs;have hck:Bj k=k:=Av (by omega);rcases BJ e4.k.AF hk with⟨s,hsk,hlt⟩|hke
  .have hsm:=Dn hsk
   have hp2:p.length<2:=by
    rcases Nat.lt_or_ge p.length 2 with h'|h'
    .exact h'
    .rw[hsh h']at hsm;cases hsm
   rw[drop_cons hsk,W5]at hF
   conv=>whnf
   repeat'((first|clear U K|apply st|(apply zk;intro K U)|refine zY ?_|refine rk ?_ ?_|exact fun s e=>by cases e;rfl|refine ze fun x hx=>?_|refine Pure.use (OX a p _ hp2) ?_|fail)<;>conv=>whnf)
   obtain rfl:x=s:=by rw[hck,Hc,hsk]at hx;exact(Option.some.inj hx).symm
   refine(oO w us hinv (a:=a) (p:=p++[x]) (by simp;omega)).use (rest:=[]) (by simpa using JA (X:=[]) (by simpa using hs)) ?_;clear hs;rintro r post' Z ⟨es5,e5,got5,rfl,rfl⟩ hs;have hek5:=congrArg Kn.Ad got5.k;obtain⟨newA,heA,hnA⟩:=got5.ext;obtain⟨pre5,post5,he5⟩:=List.append_of_mem got5.mem;have e7:es5=pre++e4::(post++(new++newA)):=by rw[heA];simp
   have hi7:=got5.inv;rw[e7]at hi7;have hn7: ∀y∈new++newA,y.k=k0:=fun y hy=>(Dm.1 hy).elim (hnew y) (hnA y)
   rw[Fj,he5]at hs;replace hs:=Jp (X:=[]) hs;cases hnx:(kf a (p++[x])).Ad<;>rw[hnx]at hek5 hF<;>rw[hek5]at hs
   all_goals
    refine zz ?_;(repeat clear U K);repeat intro K U
    have hs3:Sat Z (By L (pre++e4::(post++(new++newA)))):=by
     rw[<-hek5]at hs;have h3:=DW (X:=[]) (e:=e5) (e':=e5) rfl rfl rfl hs;rw[<-he5,e7]at h3;exact h3
   .exact⟨hlt,new++newA,rfl,⟨⟨hi7,hn7⟩,by rw[hF];rfl⟩,KC (X:=[]) hs3⟩
   .exact AH ⟨_,⟨by rw[hF];simp,_,got.ext.trans ⟨_,by simp,hn7⟩,hi7,rfl⟩,hs3⟩
  .rw[BS hke,List.all_nil,Bool.and_true]at hF
   have hlo:=hr.low a p;rw[<-hek]at hlo;have hno:=hok.2.2.1;have hle:=Tw e4.k.no e4.k.low;have hL:D2 (kf a p)=GB e4.k.no (from_ e4.k.no e4.k.low) e4.k.low:=by rw[D2,<-hek];exact OZ hle (IN _)
   conv=>whnf
   repeat'((first|clear U K|apply st|(apply zk;intro K U)|refine zY ?_|(refine zb (fun hc=>?_) (fun hc=>?_)<;>try exact⟨⟩)|fail)<;>conv=>whnf)
   refine Ft (fun n:Int=>from_ e4.k.no n) (fun n=>[(10,eI n)]) (fun _=> .own e4.vs 1 (iL e4.k.AF)::kV L pre post e4 new) (fun n=> -1000000000<=n/\n+from_ e4.k.no n<=1000001000/\D2 (kf a p)=GB e4.k.no (from_ e4.k.no n) n) e4.k.low rfl ⟨by omega,by omega,hL⟩ hs ?_;clear hs hL hle;rintro n Z ⟨hn0,hn1,hL⟩ hs;have hct2:=fun b=>Ce e4.k.no b n
   cases hcB:e4.k.no.contains n<;>rw[hcB]at hct2
   .have hout:n∉e4.k.no:=by simpa using hcB
    rw[Z4 hout]at hL;rw[hL]at hF
    conv=>whnf
    repeat'((first|clear U K|apply st|(apply zk;intro K U)|refine zY ?_|refine Pure.Sy (hct2 false) (.cons (hs.He 2 rfl) (.cons (.refl _) .nil)) rfl ?_|fail)<;>conv=>whnf)
    all_goals exact AH ⟨_,⟨by rw[hF],_,got.ext.trans ⟨_,by simp,hnew⟩,hinv,rfl⟩,JA (X:=[]) hs⟩
   .have hin:n∈e4.k.no:=by simpa using hcB
    have hlt:=OT hin;have hwr:IntKind.i64.wrap (n+1)=n+1:=wrap64 (by omega) (by omega);obtain⟨m,hm⟩: ∃m,from_ e4.k.no n=m+1:=⟨from_ e4.k.no n - 1,by omega⟩
    have hL2:D2 (kf a p)=GB e4.k.no (from_ e4.k.no (n+1)) (n+1):=by rw[hL,hm,gR hin];exact OZ (by omega) (IN _)
    conv=>whnf
    repeat'((first|clear U K|apply st|(apply zk;intro K U)|refine zY ?_|refine Pure.Sy (hct2 false) (.cons (hs.He 2 rfl) (.cons (.refl _) .nil)) rfl ?_|fail)<;>conv=>whnf)
    exact⟨n+1,hlt,by rw[hwr];rfl,⟨by omega,by omega,hL2⟩,hs⟩
 .have h1:Gs e4.k.BL 3=false:=by
   rw[<-Bool.not_eq_true,<-hb3];omega
  exact AH ⟨_,⟨by rw[hP,h1];simp,_,got.ext,got.inv,rfl⟩,by simpa using DW (X:=[]) (e:=e4) (e':=e4) rfl rfl rfl hs⟩
end Go.Gl
namespace Go.Gl
open Go.Proofs
attribute [local irreducible] Ao Ai AY AO AJ AX AN AP AI AW AK AL Ak Au Sat AT Ar Aa W
def mB (w : AG) (hw:Cn w) (us:List Nat) {kf:Int->List Int->Kn} (hr:ER w kf) {a:Int} {p:List Int} (hp:p.length<=2) (up:Nat) (hup:up<18446744073709551616) (g:FuncId) (fi ca:List V) (can:Int->Bool) {L:Nat}
    (hcan: ∀s∈(kf a p).AF,∀es,Bx kf es->BK zP g (fi++[CI a (p++[s])]++ca) (By L es) fun r post=>r= .ret (.b (can s))/\Ie kf L es post) {es:List Bt} (h:Bx kf es) :
    BK zP 155 [.a (gv w us L),CI a p,eU up,.f (.func g) fi ca] (By L es) fun r post=>r= .ret (.b (UU w kf a p up can))/\Ie kf L es post:=by
 intro Z hs;have hM:=Mx;refine tp kZ ?_;refine zz ?_;(repeat clear U K);repeat intro K U
 refine(oO w us h (a:=a) (p:=p) hp).use (rest:=[]) (by simpa using hs) ?_;clear hs;rintro r post Z ⟨es4,e4,got,rfl,rfl⟩ hs;have hek:=got.k;obtain⟨pre,post,rfl⟩:=List.append_of_mem got.mem;rw[Fj]at hs;replace hs:=Jp (X:=[]) hs;have hok:=hr.ok a p;have hsl:=(hr.ok a p).2.2.2;have hsh:=hr.short a p;have hsw:=hr.AF a p;rw[<-hek]at hok hsl hsh hsw hcan;have hb1:bits .andNot .u64 (e4.k.BL:Int) (up:Int)=((K1 e4.k.BL up:Nat):Int):=Ha;have hb2:bits .and .u64 (e4.k.DS:Int) (up:Int)=((e4.k.DS&&&up:Nat):Int):=FJ hok.2.1 hup;have hb3:=Lv (u:=up) hok.1
 have hP:UU w kf a p up can=(!e4.k.whole&&(Gs e4.k.BL up&&(e4.k.DS&&&up==0&&e4.k.AF.all fun s=>if up.testBit (B2 w s).toNat then can s else !(kf a (p++[s])).Ad))):=by
  rw[UU,hek]
 generalize UU w kf a p up can=R at *;cases hwh:e4.k.whole<;>rw[hwh]at hP hs
 rotate_left
 .refine zz ?_;(repeat clear U K);repeat intro K U
  exact AH ⟨_,⟨by rw[hP];rfl,_,got.ext,got.inv,rfl⟩,by rw[<-hwh]at hs;simpa using DW (X:=[]) (e:=e4) (e':=e4) rfl rfl rfl hs⟩
 have hcl: ∀ {Z:AE},Sat Z (.box e4.b [eU e4.k.BL,eU e4.k.DS,eI e4.k.low,eI e4.k.high,e4.vn,.b false,.b e4.k.Ad,e4.vs]:: .own e4.vn 1 (iL e4.k.no):: .own e4.vs 1 (iL e4.k.AF)::([]++IA L (pre++e4::post) pre post))->Sat Z (By L (pre++e4::post)):=fun h=>by
  rw[<-hwh]at h;simpa using DW (X:=[]) (e:=e4) (e':=e4) rfl rfl rfl h
 conv=>whnf
 repeat'((first|clear U K|apply st|(apply zk;intro K U)|refine zY ?_|refine za (fun hc=>?_) fun hc=>?_|fail)<;>conv=>whnf)
 .have h2:(e4.k.DS&&&up==0)=false:=by rw[beq_eq_false_iff_ne];omega
  exact AH ⟨_,⟨by rw[hP,h2];simp,_,got.ext,got.inv,rfl⟩,hcl hs⟩
 .have h1 : Gs e4.k.BL up=true:=hb3.1 (by omega)
  have h2:(e4.k.DS&&&up==0)=true:=by rw[Cy];omega
  rw[h1,h2,Bool.not_false,Ed,Ed,Ed]at hP
  have hs1:Sat Z (.own e4.vs 1 (iL e4.k.AF)::kV L pre post e4 []):=by
   have h2:=KC (X:=[]) (L:=L) (pre:=pre) (post:=post) (e:=e4) (s:=[]) (by simpa using hcl hs);simpa using h2
  clear hb1 hb2 hb3 h1 h2;refine Du e4.k.AF.length (fun k (x:List Bt)=>[(44,eI (Bj k))]) (fun k x=> .own e4.vs 1 (iL e4.k.AF)::kV L pre post e4 x) (fun k x=>(Bx kf (pre++e4::(post++x))/\ ∀y∈x,y.k=k0)/\R=(e4.k.AF.drop k).all fun s=>if up.testBit (B2 w s).toNat then can s else !(kf a (p++[s])).Ad) [] rfl ⟨⟨by simpa using got.inv,by simp⟩,hP⟩ hs1 ?_;clear hs hs1 hP hcl;rintro k new Z hk ⟨⟨hinv,hnew⟩,hF⟩ hs;have hck:Bj k=k:=Av (by omega);rcases BJ e4.k.AF hk with⟨s,hsk,hlt⟩|hke
  .have hsm:=Dn hsk
   have hp2:p.length<2:=by
    rcases Nat.lt_or_ge p.length 2 with h'|h'
    .exact h'
    .rw[hsh h']at hsm;cases hsm
   obtain⟨hs0,hs1⟩:=hsw s hsm;obtain⟨o,ho⟩: ∃o,w.owner[s.toNat]? =some o:=⟨_,Di (by omega)⟩
   have hoI:B2 w s=o:=by simp only[B2,Dh,ho];rfl
   obtain⟨ho1,ho2⟩:=hw.2.2 o (Dn ho);have hwp:=hw.1.1;rw[drop_cons hsk,W5,hoI]at hF;have hcx:=hcan s hsm
   conv=>whnf
   repeat'((first|clear U K|apply st|(apply zk;intro K U)|refine zY ?_|refine ze fun x hx=>?_|refine zs fun Z hs=>?_|refine Pure.use (OX a p _ hp2) ?_|refine zo fun nn hnn Z hs=>?_|fail)<;>conv=>whnf)
   obtain rfl:x=s:=by rw[hck,Hc,hsk]at hx;exact(Option.some.inj hx).symm
   generalize nn=n7 at *;have hs2:Sat Z ([.box n7 (FN a (p++[x]))]++By L (pre++e4::(post++new))):=JA (X:=[.box n7 (FN a (p++[x]))]) (hs.perm (.swap _ _ _));clear hs;have hs:=hs2;clear hs2;have c2:=eO up o hup (by omega) (by omega);cases hbo:up.testBit o.toNat<;>rw[hbo]at hF c2
   .rw [if_neg (by decide)]at hF
    conv=>whnf
    repeat'((first|clear U K|apply st|(apply zk;intro K U)|refine zY ?_|refine zC ?_|fail)<;>conv=>whnf)
    refine(oO w us hinv (a:=a) (p:=p++[x]) (by simp;omega)).use (rest:=[.box n7 (FN a (p++[x]))]) hs.flip ?_;clear hs;rintro r post' Z ⟨es5,e5,got5,rfl,rfl⟩ hs;have hek5:=congrArg Kn.Ad got5.k;obtain⟨newA,heA,hnA⟩:=got5.ext;obtain⟨pre5,post5,he5⟩:=List.append_of_mem got5.mem;have e7:es5=pre++e4::(post++(new++newA)):=by rw[heA];simp
    have hi7:=got5.inv;rw[e7]at hi7;have hn7: ∀y∈new++newA,y.k=k0:=fun y hy=>(Dm.1 hy).elim (hnew y) (hnA y)
    rw[he5]at hs;replace hs:=Jp (X:=[.box n7 (FN a (p++[x]))]) hs.flip;cases hnx:(kf a (p++[x])).Ad<;>rw[hnx]at hek5 hF<;>rw[hek5]at hs
    all_goals
     refine zz ?_;(repeat clear U K);repeat intro K U
     have hs3:Sat Z (By L (pre++e4::(post++(new++newA)))):=by
      rw[<-hek5]at hs;have h3:=DW (X:=[.box n7 (FN a (p++[x]))]) (e:=e5) (e':=e5) rfl rfl rfl hs;rw[<-he5,e7]at h3;exact h3.less (List.sublist_append_right _ _)
    .exact⟨hlt,new++newA,rfl,⟨⟨hi7,hn7⟩,by rw[hF];rfl⟩,KC (X:=[]) hs3⟩
    .exact AH ⟨_,⟨by rw[hF];rfl,_,got.ext.trans ⟨_,by simp,hn7⟩,hi7,rfl⟩,hs3⟩
   .rw[if_pos rfl]at hF
    cases hcy:can x<;>rw[hcy]at hF hcx
    all_goals
     conv=>whnf
     repeat'((first|clear U K|apply st|(apply zk;intro K U)|refine zY ?_|refine zC ?_|fail)<;>conv=>whnf)
     refine Ay ((hcx _ hinv).use (rest:=[.box n7 (FN a (p++[x]))]) hs.flip ?_);clear hs;rintro r post' Z ⟨rfl,es6,⟨new6,he6,hn6⟩,hi6,rfl⟩ hs;have e7:es6=pre++e4::(post++(new++new6)):=by rw[he6];simp
     rw[e7]at hi6 hs;have hn7: ∀y∈new++new6,y.k=k0:=fun y hy=>(Dm.1 hy).elim (hnew y) (hn6 y)
     have hs3:Sat Z (By L (pre++e4::(post++(new++new6)))):=hs.less (List.sublist_append_left _ _);clear hs;have hs:=hs3;refine zz ?_;(repeat clear U K);repeat intro K U
    .exact AH ⟨_,⟨by rw[hF];rfl,_,got.ext.trans ⟨_,by simp,hn7⟩,hi6,rfl⟩,hs3⟩
    .exact⟨hlt,new++new6,rfl,⟨⟨hi6,hn7⟩,by rw[hF];rfl⟩,KC (X:=[]) hs3⟩
  .rw[BS hke,List.all_nil]at hF
   refine zz ?_;(repeat clear U K);repeat intro K U
   exact AH ⟨_,⟨by rw[hF],_,got.ext.trans ⟨_,by simp,hnew⟩,hinv,rfl⟩,JA (X:=[]) hs⟩
 .have h1:Gs e4.k.BL up=false:=by
   rw[<-Bool.not_eq_true,<-hb3];omega
  exact AH ⟨_,⟨by rw[hP,h1];simp,_,got.ext,got.inv,rfl⟩,hcl hs⟩
end Go.Gl
namespace Go.Gl
open Go.Proofs
def J7.len {es es':List Bt} (h:J7 es es'):es.length<=es'.length:=by
 obtain⟨n,rfl,_⟩:=h;simp
attribute [local irreducible] Ao Ai AY AO AJ AX AN AP AI AW AK AL Ak Au Sat AT Ar Aa W
end Go.Gl
