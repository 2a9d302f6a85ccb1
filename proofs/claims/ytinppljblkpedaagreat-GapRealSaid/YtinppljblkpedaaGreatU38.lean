import Derived.Test.YtinppljblkpedaaGreatU14
import Derived.Test.YtinppljblkpedaaGreatU25
import Derived.Test.YtinppljblkpedaaGreatU26
import Derived.Test.YtinppljblkpedaaGreatU37
set_option linter.all false
set_option linter.defProp false
set_option maxHeartbeats 8000000
noncomputable section
namespace Go.Gl
open Go.Proofs
def Sat.flip {Z:AE} {X Y:List At} (h:Sat Z (X++Y)):Sat Z (Y++X):=h.perm HP
def pO (f:Fact) (c:Bool) (j:Nat) (a:Int) (p:List Int) (k:Kn):(Dk f c j a p k).BO=k.BO:=by unfold Dk;(repeat' split)<;>rfl
def uG (f:Fact) (c:Bool) (j:Nat) (a:Int) (p:List Int) (k:Kn):(Dk f c j a p k).Dm=k.Dm:=by unfold Dk;(repeat' split)<;>rfl
def AAB (f:Fact) (c:Bool) (j:Nat) (a:Int) (p:List Int) (k:Kn):(Dk f c j a p k).no=k.no:=by unfold Dk;(repeat' split)<;>rfl
def lX (f:Fact) (c:Bool) (j:Nat) (a:Int) (p:List Int) (k:Kn):(Dk f c j a p k).AI.length<=k.AI.length+1:=by
 unfold Dk
 repeat' split
 .exact XG _ _
 all_goals simp[Bz]
def AAA {m:Nat} {k:Kn} (h:cC m k) (f:Fact) (c:Bool) (j:Nat) (a:Int) (p:List Int):cC (m+1) (Dk f c j a p k):=by
 obtain⟨h1,h2,h3,h4⟩:=h;refine⟨by rw[pO];exact h1,by rw[uG];exact h2,by rw[AAB];omega,?_⟩;have:=lX f c j a p k;omega
def iI {ls:List Fact} (h:Nn ls) (a:Int) (p:List Int):cC ls.length (kg ls a p):=by
 have hc:Gm 64 ls:=fun l hl ho=>(h l hl).cls ho
 obtain⟨h1,h2⟩:=pB hc a p;obtain⟨h3,h4⟩:=iJ a p ls k0;exact⟨by simpa using h1,by simpa using h2,by simpa[kg,k0]using h3,by simpa[kg,k0]using h4⟩
def zt:Bj (kg []) []:=⟨fun x hx=>(by cases hx),fun a p _=>rfl,.nil,fun x hx=>(by cases hx)⟩
attribute [local irreducible] As Ag AY AQ AL AX AP AR AK AW AM AN Ai Ap Sat AT An AZ W
abbrev Jj (y:Fact×Bool):List V:=[eI y.1.op,eI y.1.arg,.l (iL y.1.path) false,eI y.1.cls,eI y.1.n,.l (y.1.kids.map EI) false,.b y.2]
def zZ (w : AF) (us:List Nat) (ls:List Fact) (ps:List (Fact×Bool)) (hps:ps=ls.map Ad) (b:Bool) (h:Nn ls) (hlen:ls.length<900) :
    BL zP 117 [.rp (gW w us),.l (ps.map Jj) b] [] fun r post=> ∃L es,r= .ret (.a (gv w us L))/\Bj (kg ls) es/\post=Bs L es:=by
 intro Z hs;have hM:=Mx;have hpl:ps.length=ls.length:=by rw[hps,Bc]
 refine xn kZ ?_
 conv=>whnf
 repeat'((first|apply st|(apply sq;intro K U)|(apply si;intro A B hA hB)|(refine hA _ _ ?_;clear hB B hA A)|(apply U;clear U K)|refine FX fun Z hs=>?_|(intro nn hnn;generalize hg:BZ _ nn _=Z;refine GF hg fun hs=>?_;clear hg)|fail)<;>conv=>whnf)
 rename_i n4 _ _ _ L _ _ _ _ _;generalize nn=n5 at *;refine B4 ps.length (fun k (x:List Bv)=>[(17,eI (A7 k))]) (fun k x=> .box n5 (gv w us L):: .box n4 [.pn,.mn]::Bs L x) (fun k x=>Bj (kg (ls.take k)) x) [] rfl zt (hs.perm (.cons _ (.swap _ _ _))) ?_;clear hs hnn;rintro k es Z hk hinv hs;rcases A9 ps hk with⟨y,hy,hlt⟩|hke
 .obtain ⟨l,hlk⟩: ∃l,ls[k]? =some l:=⟨_,Cd (by omega)⟩
  have hyl:y=Ad l:=by
   rw[hps,LY,hlk]at hy;exact(Option.some.inj hy).symm
  have hlm:l∈ls:=B6 hlk;have htk:ls.take (k+1)=ls.take k++[l]:=AU hlk;have hbk: ∀a p,cC (ls.take k).length (kg (ls.take k) a p):=iI fun x hx=>h x (List.mem_of_mem_take hx)
  obtain⟨l1,l2,l3,l4⟩:=h l hlm;have hkl:(ls.take k).length<900:=by rw[Je];omega
  have hend: ∀a p,kg (ls.take (k+1)) a p=if a=(Ad l).1.arg/\p=(Ad l).1.path then Bx (Dk (Ad l).1 (Ad l).2 (Ad l).1.path.length a p (kg (ls.take k) a p)) (Ad l).1 (Ad l).2 else Dk (Ad l).1 (Ad l).2 (Ad l).1.path.length a p (kg (ls.take k) a p):=fun a p=>by
   rw[htk,pA];exact uH a p (kg (ls.take k) a p) l
  generalize kg (ls.take k)=kf at *;rw[<-hyl]at l1 l2 l3 l4 hend;clear hyl;obtain⟨f,c⟩:=y;dsimp only at l1 l2 l3 l4 hend;generalize (ls.take k).length=m at *
  conv=>whnf
  repeat'((first|apply st|(apply sq;intro K U)|(apply si;intro A B hA hB)|(refine hA _ _ ?_;clear hB B hA A)|(apply U;clear U K)|refine⟨rfl,?_⟩|refine⟨kZ,?_⟩|refine ix ?_|refine ld ?_|refine FX fun Z hs=>?_|(refine NT (fun hc=>?_)<;>(try rw[hc])<;>clear hc)|(intro nn hnn;generalize hg:BZ _ nn _=Z;refine GF hg fun hs=>?_;clear hg)|fail)<;>conv=>whnf)
  rename_i n7 _ _ _ _ _ _ _;generalize nn=n8 at *;replace hs:Sat Z ([.box n8 (GD f.arg []),.box n7 (Jj (f,c)),.box n5 (gv w us L),.box n4 [.pn,.mn]]++Bs L es):=hs;refine(me w us hinv (a:=f.arg) (p:=[]) (by simp)).use (rest:=[.box n8 (GD f.arg []),.box n7 (Jj (f,c)),.box n5 (gv w us L),.box n4 [.pn,.mn]]) hs.flip ?_;clear hs;rintro r post Z ⟨es1,e1,got,rfl,rfl⟩ hs;have hek:=got.k;obtain⟨hea,hep⟩:=Gu.1 got.is;obtain⟨pre,post,rfl⟩:=List.append_of_mem got.mem;replace hs:=Jq (X:=[.box n8 (GD f.arg []),.box n7 (Jj (f,c)),.box n5 (gv w us L),.box n4 [.pn,.mn]]) hs.flip;cases hnd:e1.k.AV<;>rw[hnd]at hs
  all_goals
   conv=>whnf
   repeat'((first|apply st|(apply sq;intro K U)|(apply si;intro A B hA hB)|(refine hA _ _ ?_;clear hB B hA A)|(apply U;clear U K)|refine ld ?_|refine MA fun Z hs=>?_|fail)<;>conv=>whnf)
   obtain⟨e2,es2,hP,hQ,hR⟩: ∃(e2:Bv) (es2:List Bv),(Bj (fun a p=>Dk f c 0 a p (kf a p)) es2/\e2∈es2/\e2.is f.arg (f.path.take 0)=true)/\e2.b=e1.b/\Sat Z ([.box n8 (GD f.arg (f.path.take 0)),.box n7 (Jj (f,c)),.box n5 (gv w us L),.box n4 [.pn,.mn]]++Bs L es2):=by
    refine⟨⟨e1.a,e1.p,e1.b,e1.vn,e1.vs,Bz e1.k c⟩,_,⟨(got.inv.change e1.b e1.vn e1.vs (Bz e1.k c)).congr fun a p=>?_,NR _ (.head _),got.is⟩,rfl,?_⟩
    .rw[pM,NU,hea,hep,hek]
     by_cases ha:a=f.arg/\p= []
     .rw[if_pos ha,if_pos ha,ha.1,ha.2]
     .rw[if_neg ha,if_neg ha]
    .refine Dh (X:=[.box n8 (GD f.arg []),.box n7 (Jj (f,c)),.box n5 (gv w us L),.box n4 [.pn,.mn]]) (e:=e1) rfl rfl rfl ?_
     first
      | (rw[Kt c hnd];exact hs)
      | (rw[I6 c hnd];exact hs)
   rw[<-hQ];clear hs hnd got hek hea hep;refine B4 f.path.length (fun j (x:List Bv×Bv)=>[(44,eI (A7 j)),(9,.p x.2.b 0)]) (fun j x=>[.box n8 (GD f.arg (f.path.take j)),.box n7 (Jj (f,c)),.box n5 (gv w us L),.box n4 [.pn,.mn]]++Bs L x.1) (fun j x=>Bj (fun a p=>Dk f c j a p (kf a p)) x.1/\x.2∈x.1/\x.2.is f.arg (f.path.take j)=true) (es2,e2) rfl hP hR ?_;clear hP hR;generalize e2.b=b0 at *;clear hQ e2 es2;rintro j ⟨es2,e2⟩ Z hj ⟨hinv2,hmem,his⟩ hs;simp only at hinv2 hmem his hs
   have hek:e2.k=Dk f c j f.arg (f.path.take j) (kf f.arg (f.path.take j)):=by
    have:=hinv2.val e2 hmem;obtain⟨h1,h2⟩:=Gu.1 his;rw[this,h1,h2]
   have hok:cC (m+1) e2.k:=by rw[hek];exact AAA (hbk _ _) f c j _ _
   obtain⟨hea,hep⟩:=Gu.1 his;obtain⟨pre2,post2,rfl⟩:=List.append_of_mem hmem;replace hs:=Jq (X:=[.box n8 (GD f.arg (f.path.take j)),.box n7 (Jj (f,c)),.box n5 (gv w us L),.box n4 [.pn,.mn]]) hs;have hck:A7 j=j:=AS (by omega);rcases A9 f.path hj with⟨s,hsj,hjlt⟩|hje
   .have hct:=fun b=>B3 e2.k.AI b s
    have hk4:=hok.2.2.2;have hsl0:mj e2.k s= {e2.k with AI:=Tt e2.k.AI s}:=rfl
    have hne:f.path.take j++[s]≠f.path.take j:=by
     intro e;have:=congrArg List.length e;simp at this
    have hgd:f.path.getD j 0=s:=by rw[Cq,hsj];rfl
    have htk2:f.path.take (j+1)=f.path.take j++[s]:=AU hsj;cases hcB:e2.k.AI.contains s
    all_goals
     rw[hcB]at hct
     conv=>whnf
     repeat'((first|apply st|(apply sq;intro K U)|(apply si;intro A B hA hB)|(refine hA _ _ ?_;clear hB B hA A)|(apply U;clear U K)|refine⟨rfl,?_⟩|refine⟨kZ,?_⟩|refine ix ?_|refine ld ?_|refine MA fun Z hs=>?_|refine FX fun Z hs=>?_|refine aq fun v Z hs hsl=>?_|refine Zg ?_|refine SG ?_|(refine NT (fun hc=>?_)<;>(try rw[hc])<;>clear hc)|refine Pure.use (Mg f.arg (f.path.take j) s (by rw[Je];omega)) ?_|refine Pure.Pk (hct false) (.cons (hs.MB 2 rfl) (.cons (.refl _) .nil)) rfl ?_|fail)<;>conv=>whnf)
    have hs3: ∃vs3,Sat Z ([.box n8 (GD f.arg (f.path.take j++[s])),.box n7 (Jj (f,c)),.box n5 (gv w us L),.box n4 [.pn,.mn]]++Bs L (pre2++⟨e2.a,e2.p,e2.b,e2.vn,vs3,mj e2.k s⟩::post2)):=⟨_,Dh (X:=[.box n8 (GD f.arg (f.path.take j++[s])),.box n7 (Jj (f,c)),.box n5 (gv w us L),.box n4 [.pn,.mn]]) (e:=e2) rfl rfl rfl (by rw[hsl0,Tt,if_neg (by rw[hcB];decide)];exact hs)⟩
    rotate_left
    have hs3: ∃vs3,Sat Z ([.box n8 (GD f.arg (f.path.take j++[s])),.box n7 (Jj (f,c)),.box n5 (gv w us L),.box n4 [.pn,.mn]]++Bs L (pre2++⟨e2.a,e2.p,e2.b,e2.vn,vs3,mj e2.k s⟩::post2)):=⟨e2.vs,Dh (X:=[.box n8 (GD f.arg (f.path.take j++[s])),.box n7 (Jj (f,c)),.box n5 (gv w us L),.box n4 [.pn,.mn]]) (e:=e2) rfl rfl rfl (by rw[hsl0,Tt,if_pos hcB];exact hs)⟩
    all_goals
     clear hs;obtain⟨vs3,hs⟩:=hs3;have hinv3:=hinv2.change e2.b e2.vn vs3 (mj e2.k s);refine(me w us hinv3 (a:=f.arg) (p:=f.path.take j++[s]) (by rw[HQ,Je];simp;omega)).use (rest:=[.box n8 (GD f.arg (f.path.take j++[s])),.box n7 (Jj (f,c)),.box n5 (gv w us L),.box n4 [.pn,.mn]]) hs.flip ?_;clear hs;rintro r post Z ⟨es4,e4,got,rfl,rfl⟩ hs;have hek4:=got.k;obtain⟨hea4,hep4⟩:=Gu.1 got.is;obtain⟨pre4,post4,rfl⟩:=List.append_of_mem got.mem;replace hs:=Jq (X:=[.box n8 (GD f.arg (f.path.take j++[s])),.box n7 (Jj (f,c)),.box n5 (gv w us L),.box n4 [.pn,.mn]]) hs.flip;cases hnd:e4.k.AV<;>rw[hnd]at hs
     all_goals
      conv=>whnf
      repeat'((first|apply st|(apply si;intro A B hA hB)|(refine hA _ _ ?_;clear hB B hA A)|(apply U;clear U K)|refine⟨rfl,?_⟩|refine ld ?_|refine MA fun Z hs=>?_|clear U K)<;>conv=>whnf)
      refine⟨hjlt,(pre4++⟨e4.a,e4.p,e4.b,e4.vn,e4.vs,Bz e4.k c⟩::post4,⟨e4.a,e4.p,e4.b,e4.vn,e4.vs,Bz e4.k c⟩),rfl,⟨(got.inv.change e4.b e4.vn e4.vs (Bz e4.k c)).congr fun a p=>?_,NR _ (.head _),by rw[htk2];exact got.is⟩,?_⟩
      .rw[pN f c hjlt,NU,hea4,hep4,htk2,hgd]
       by_cases h1:a=f.arg/\p=f.path.take j++[s]
       .rw[if_pos h1,if_pos h1,hek4,NU,hea,hep,if_neg (fun h=>hne h.2),h1.1,h1.2]
       .rw[if_neg h1,if_neg h1,NU,hea,hep]
        by_cases h2:a=f.arg/\p=f.path.take j
        .rw[if_pos h2,if_pos h2,hek,h2.1,h2.2]
        .rw[if_neg h2,if_neg h2]
      .rw[htk2]
       refine Dh (X:=[.box n8 (GD f.arg (f.path.take j++[s])),.box n7 (Jj (f,c)),.box n5 (gv w us L),.box n4 [.pn,.mn]]) (e:=e4) rfl rfl rfl ?_
       first
        | (rw[Kt c hnd];exact hs)
        | (rw[I6 c hnd];exact hs)
   .have etk:f.path.take j=f.path:=BA hje
    rw[etk]at his hs hek hep
    conv=>whnf
    repeat'((first|apply st|(apply sq;intro K U)|(apply si;intro A B hA hB)|(refine hA _ _ ?_;clear hB B hA A)|(apply U;clear U K)|refine⟨rfl,?_⟩|refine⟨kZ,?_⟩|refine ld ?_|(refine SF (fun hc=>?_)<;>(try rw[hc])<;>clear hc)|clear U K)<;>conv=>whnf)
    refine(zA f c l1 l3 hok.1 hok.2.1 (by have:=hok.2.2.1;omega) l4).use (rest:=[.box n8 (GD f.arg f.path),.box n7 (Jj (f,c)),.box n5 (gv w us L),.box n4 [.pn,.mn]]++JG L (pre2++e2::post2) pre2 post2) hs ?_;clear hs;rintro r post Z ⟨rfl,vn',rfl⟩ hs;have hs2:=Dh (X:=[.box n8 (GD f.arg f.path),.box n7 (Jj (f,c)),.box n5 (gv w us L),.box n4 [.pn,.mn]]) (e:=e2) (e':=⟨e2.a,e2.p,e2.b,vn',e2.vs,Bx e2.k f c⟩) rfl rfl rfl hs;clear hs;have hs:=hs2;clear hs2
    conv=>whnf
    repeat'((first|(apply si;intro A B hA hB)|(refine hA _ _ ?_;clear hB B hA A)|(apply U;clear U K)|refine⟨rfl,?_⟩|clear U K)<;>conv=>whnf)
    refine⟨hlt,_,rfl,(hinv2.change e2.b vn' e2.vs (Bx e2.k f c)).congr fun a p=>?_,hs.less ((Gg _ _).trans (Gg _ _))⟩;rw[hend,NU,hea,hep,hek,<-hje];by_cases h1:a=f.arg/\p=f.path
    .rw[if_pos h1,if_pos h1,h1.1,h1.2]
    .rw[if_neg h1,if_neg h1]
 .have etk:ls.take k=ls:=BA (by omega)
  rw[etk]at hinv
  conv=>whnf
  repeat'((first|apply st|(apply sq;intro K U)|(apply si;intro A B hA hB)|(refine hA _ _ ?_;clear hB B hA A)|(apply U;clear U K)|refine⟨rfl,?_⟩|refine⟨kZ,?_⟩|refine ld ?_|refine FX fun Z hs=>?_|(refine SF (fun hc=>?_)<;>(try rw[hc])<;>clear hc)|clear U K)<;>conv=>whnf)
  exact AJ ⟨Bs L es,⟨L,es,rfl,hinv,rfl⟩,hs.less ((Gg _ _).trans (Gg _ _))⟩
end Go.Gl
namespace Go.Gl
open Go.Proofs
def XK (w:AF) (us:List Nat) (ls:List Fact) (b:Bool) (h:Nn ls) (hlen:ls.length<900) :
    BL zP 117 [.rp (gW w us),.l (Dt ls) b] [] fun r post=> ∃L es,r= .ret (.a (gv w us L))/\Bj (kg ls) es/\post=Bs L es:=by
 have:=zZ w us ls (ls.map Ad) rfl b h hlen;rw[rV]at this;exact this
abbrev fK (L:Nat) (pre post:List Bv) (e:Bv) (s:List Bv):List At:=
 .box e.b [eU e.k.BO,eU e.k.Dm,eI e.k.low,eI e.k.high,e.vn,.b e.k.whole,.b e.k.AV,e.vs]:: .own e.vn 1 (iL e.k.no)::JG L (pre++e::(post++s)) pre (post++s)
def Hr {Z:AE} {X:List At} {L:Nat} {pre post:List Bv} {e:Bv} {s:List Bv} (h:Sat Z (X++Bs L (pre++e::(post++s)))):Sat Z (.own e.vs 1 (iL e.k.AI)::(X++fK L pre post e s)):=by
 have h2:=Jq h;refine h2.perm ((JH _ _ _ _).symm.trans (.cons _ ?_));exact(List.perm_middle.trans (.cons _ List.perm_middle)).symm
def He {Z:AE} {X:List At} {L:Nat} {pre post:List Bv} {e:Bv} {s:List Bv} (h:Sat Z (.own e.vs 1 (iL e.k.AI)::(X++fK L pre post e s))):Sat Z (X++Bs L (pre++e::(post++s))):=by
 refine Dh (X:=X) (e:=e) (e':=e) rfl rfl rfl ?_;refine h.perm ?_;refine List.Perm.trans (.cons _ (List.perm_middle.trans (.cons _ List.perm_middle))) ?_;exact JH _ _ _ _
def HU (kf:Int->List Int->Kn) (L:Nat) (es:List Bv) (post:List At):Prop:= ∃es',Jc es es'/\Bj kf es'/\post=Bs L es'
def gj (g:List (List Int)):(Ah g)[0]? =some 1/\(Ah g)[1]? =some 3/\(Ah g)[2]? =some 5:=by
 have key: ∀k,(Bq g k)[0]? =some 1/\(Bq g k)[1]? =some 3/\(Bq g k)[2]? =some 5:=fun k=>by
  induction k with
  | zero=>exact⟨rfl,rfl,rfl⟩
  | succ k ih=>
    have hl:=Cf g k;rw[Bq,X1 (by omega),X1 (by omega),X1 (by omega)];exact ih
 exact key g.length
attribute [local irreducible] As Ag AY AQ AL AX AP AR AK AW AM AN Ai Ap Sat AT An AZ W
def qv (w : AF) {kf:Int->List Int->Kn} (hr:DC w kf) {L:Nat} {es:List Bv} (h:Bj kf es) {a:Int} {p:List Int} (hp:p.length<=2) :
    BL zP 199 [.a (gv w (Ah w.parents) L),B2 a p,eI 2] (Bs L es) fun r post=>r= .ret (.b (CR kf a p))/\HU kf L es post:=by
 intro Z hs;have hM:=Mx;obtain⟨-,hu1,hu2⟩:=gj w.parents;generalize Ah w.parents=us at *;refine jA kZ ?_;refine zz ?_;(repeat clear U K);repeat intro K U
 refine(me w us h (a:=a) (p:=p) hp).use (rest:=[]) (by simpa using hs) ?_;clear hs;rintro r post Z ⟨es4,e4,got,rfl,rfl⟩ hs;have hek:=got.k;obtain⟨pre,post,rfl⟩:=List.append_of_mem got.mem;rw[D8]at hs;replace hs:=Jq (X:=[]) hs;have hok:=hr.ok a p;have hsl:=(hr.ok a p).2.2.2;have hsh:=hr.short a p;rw[<-hek]at hok hsl hsh;have hb1:bits .andNot .u64 (e4.k.BO:Int) ((5:Nat):Int)=((MH e4.k.BO 5:Nat):Int):=Gd;have hb2:bits .and .u64 (e4.k.Dm:Int) ((5:Nat):Int)=((e4.k.Dm&&&5:Nat):Int):=GA hok.2.1 (by decide);have hb3:=NA (u:=5) hok.1
 have hP:CR kf a p=(!e4.k.whole&&(H5 e4.k.BO 5&&(e4.k.Dm&&&5==0&&e4.k.AI.all fun s=> !(kf a (p++[s])).AV))):=by
  rw[CR,Eh,IF,hek];rfl
 generalize CR kf a p=R at *
 conv=>whnf
 repeat'((first|clear U K|apply st|(apply zk;intro K U)|refine zY ?_|refine za (fun hc=>?_) fun hc=>?_|fail)<;>conv=>whnf)
 .have h2:(e4.k.Dm&&&5==0)=false:=by rw[beq_eq_false_iff_ne];omega
  exact AJ ⟨_,⟨by rw[hP,h2];simp,_,got.ext,got.inv,rfl⟩,by simpa using Dh (X:=[]) (e:=e4) (e':=e4) rfl rfl rfl hs⟩
 .have h1:H5 e4.k.BO 5=true:=hb3.1 (by omega)
  have h2:(e4.k.Dm&&&5==0)=true:=by rw[CF];omega
  rw[h1,h2,Cc,Cc]at hP
  have hs1:Sat Z (.own e4.vs 1 (iL e4.k.AI)::fK L pre post e4 []):=by
   have h2:=Hr (X:=[]) (L:=L) (pre:=pre) (post:=post) (e:=e4) (s:=[]) (by simpa using Dh (X:=[]) (e:=e4) (e':=e4) rfl rfl rfl hs);simpa using h2
  refine B4 e4.k.AI.length (fun k (x:List Bv)=>[(49,eI (A7 k))]) (fun k x=> .own e4.vs 1 (iL e4.k.AI)::fK L pre post e4 x) (fun k x=>(Bj kf (pre++e4::(post++x))/\ ∀y∈x,y.k=k0)/\R=(!e4.k.whole&&(e4.k.AI.drop k).all fun s=> !(kf a (p++[s])).AV)) [] rfl ⟨⟨by simpa using got.inv,by simp⟩,hP⟩ hs1 ?_;clear hs hs1 hP;rintro k new Z hk ⟨⟨hinv,hnew⟩,hF⟩ hs;have hck:A7 k=k:=AS (by omega);rcases A9 e4.k.AI hk with⟨s,hsk,hlt⟩|hke
  .have hsm:=B6 hsk
   have hp2:p.length<2:=by
    rcases Nat.lt_or_ge p.length 2 with h'|h'
    .exact h'
    .rw[hsh h']at hsm;cases hsm
   rw[drop_cons hsk,Ri]at hF
   conv=>whnf
   repeat'((first|clear U K|apply st|(apply zk;intro K U)|refine zY ?_|refine rk ?_ ?_|exact fun s e=>by cases e;rfl|refine ze fun x hx=>?_|refine Pure.use (Mg a p _ hp2) ?_|fail)<;>conv=>whnf)
   obtain rfl:x=s:=by rw[hck,GR,hsk]at hx;exact(Option.some.inj hx).symm
   refine(me w us hinv (a:=a) (p:=p++[x]) (by simp;omega)).use (rest:=[]) (by simpa using He (X:=[]) (by simpa using hs)) ?_;clear hs;rintro r post' Z ⟨es5,e5,got5,rfl,rfl⟩ hs;have hek5:=congrArg Kn.AV got5.k;obtain⟨newA,heA,hnA⟩:=got5.ext;obtain⟨pre5,post5,he5⟩:=List.append_of_mem got5.mem;have e7:es5=pre++e4::(post++(new++newA)):=by rw[heA];simp
   have hi7:=got5.inv;rw[e7]at hi7;have hn7: ∀y∈new++newA,y.k=k0:=fun y hy=>(Dn.1 hy).elim (hnew y) (hnA y)
   rw[D8,he5]at hs;replace hs:=Jq (X:=[]) hs;cases hnx:(kf a (p++[x])).AV<;>rw[hnx]at hek5 hF<;>rw[hek5]at hs
   all_goals
    refine zz ?_;(repeat clear U K);repeat intro K U
    have hs3:Sat Z (Bs L (pre++e4::(post++(new++newA)))):=by
     rw[<-hek5]at hs;have h3:=Dh (X:=[]) (e:=e5) (e':=e5) rfl rfl rfl hs;rw[<-he5,e7]at h3;exact h3
   .exact⟨hlt,new++newA,rfl,⟨⟨hi7,hn7⟩,by rw[hF];rfl⟩,Hr (X:=[]) hs3⟩
   .exact AJ ⟨_,⟨by rw[hF];simp,_,got.ext.trans ⟨_,by simp,hn7⟩,hi7,rfl⟩,hs3⟩
  .rw[Aj hke,List.all_nil,Bool.and_true]at hF
   conv=>whnf
   repeat'((first|clear U K|apply st|(apply zk;intro K U)|refine zY ?_|(refine zb (fun hc=>?_) (fun hc=>?_)<;>try exact⟨⟩)|fail)<;>conv=>whnf)
   exact AJ ⟨_,⟨by rw[hF],_,got.ext.trans ⟨_,by simp,hnew⟩,hinv,rfl⟩,He (X:=[]) hs⟩
 .have h1:H5 e4.k.BO 5=false:=by
   rw[<-Bool.not_eq_true,<-hb3];omega
  exact AJ ⟨_,⟨by rw[hP,h1];simp,_,got.ext,got.inv,rfl⟩,by simpa using Dh (X:=[]) (e:=e4) (e':=e4) rfl rfl rfl hs⟩
def yu (w : AF) {kf:Int->List Int->Kn} (hr:DC w kf) {L:Nat} {es:List Bv} (h:Bj kf es) {a:Int} {p:List Int} (hp:p.length<=2) :
    BL zP 199 [.a (gv w (Ah w.parents) L),B2 a p,eI 1] (Bs L es) fun r post=>r= .ret (.b (Dq kf a p))/\HU kf L es post:=by
 intro Z hs;have hM:=Mx;obtain⟨-,hu1,hu2⟩:=gj w.parents;generalize Ah w.parents=us at *;refine jA kZ ?_;refine zz ?_;(repeat clear U K);repeat intro K U
 refine(me w us h (a:=a) (p:=p) hp).use (rest:=[]) (by simpa using hs) ?_;clear hs;rintro r post Z ⟨es4,e4,got,rfl,rfl⟩ hs;have hek:=got.k;obtain⟨pre,post,rfl⟩:=List.append_of_mem got.mem;rw[D8]at hs;replace hs:=Jq (X:=[]) hs;have hok:=hr.ok a p;have hsl:=(hr.ok a p).2.2.2;have hsh:=hr.short a p;rw[<-hek]at hok hsl hsh;have hb1:bits .andNot .u64 (e4.k.BO:Int) ((3:Nat):Int)=((MH e4.k.BO 3:Nat):Int):=Gd;have hb2:bits .and .u64 (e4.k.Dm:Int) ((3:Nat):Int)=((e4.k.Dm&&&3:Nat):Int):=GA hok.2.1 (by decide);have hb3:=NA (u:=3) hok.1
 have hP:Dq kf a p=(decide (Cy (kf a p)<=e4.k.high)&&(H5 e4.k.BO 3&&(e4.k.Dm&&&3==0&&e4.k.AI.all fun s=> !(kf a (p++[s])).AV))):=by
  rw[Dq,Eh,IF,hek];rfl
 generalize Dq kf a p=R at *
 conv=>whnf
 repeat'((first|clear U K|apply st|(apply zk;intro K U)|refine zY ?_|refine za (fun hc=>?_) fun hc=>?_|fail)<;>conv=>whnf)
 .have h2:(e4.k.Dm&&&3==0)=false:=by rw[beq_eq_false_iff_ne];omega
  exact AJ ⟨_,⟨by rw[hP,h2];simp,_,got.ext,got.inv,rfl⟩,by simpa using Dh (X:=[]) (e:=e4) (e':=e4) rfl rfl rfl hs⟩
 .have h1:H5 e4.k.BO 3=true:=hb3.1 (by omega)
  have h2:(e4.k.Dm&&&3==0)=true:=by rw[CF];omega
  rw[h1,h2,Cc,Cc]at hP
  have hs1:Sat Z (.own e4.vs 1 (iL e4.k.AI)::fK L pre post e4 []):=by
   have h2:=Hr (X:=[]) (L:=L) (pre:=pre) (post:=post) (e:=e4) (s:=[]) (by simpa using Dh (X:=[]) (e:=e4) (e':=e4) rfl rfl rfl hs);simpa using h2
  refine B4 e4.k.AI.length (fun k (x:List Bv)=>[(49,eI (A7 k))]) (fun k x=> .own e4.vs 1 (iL e4.k.AI)::fK L pre post e4 x) (fun k x=>(Bj kf (pre++e4::(post++x))/\ ∀y∈x,y.k=k0)/\R=(decide (Cy (kf a p)<=e4.k.high)&&(e4.k.AI.drop k).all fun s=> !(kf a (p++[s])).AV)) [] rfl ⟨⟨by simpa using got.inv,by simp⟩,hP⟩ hs1 ?_;clear hs hs1 hP;rintro k new Z hk ⟨⟨hinv,hnew⟩,hF⟩ hs;have hck:A7 k=k:=AS (by omega);rcases A9 e4.k.AI hk with⟨s,hsk,hlt⟩|hke
  .have hsm:=B6 hsk
   have hp2:p.length<2:=by
    rcases Nat.lt_or_ge p.length 2 with h'|h'
    .exact h'
    .rw[hsh h']at hsm;cases hsm
   rw[drop_cons hsk,Ri]at hF
   conv=>whnf
   repeat'((first|clear U K|apply st|(apply zk;intro K U)|refine zY ?_|refine rk ?_ ?_|exact fun s e=>by cases e;rfl|refine ze fun x hx=>?_|refine Pure.use (Mg a p _ hp2) ?_|fail)<;>conv=>whnf)
   obtain rfl:x=s:=by rw[hck,GR,hsk]at hx;exact(Option.some.inj hx).symm
   refine(me w us hinv (a:=a) (p:=p++[x]) (by simp;omega)).use (rest:=[]) (by simpa using He (X:=[]) (by simpa using hs)) ?_;clear hs;rintro r post' Z ⟨es5,e5,got5,rfl,rfl⟩ hs;have hek5:=congrArg Kn.AV got5.k;obtain⟨newA,heA,hnA⟩:=got5.ext;obtain⟨pre5,post5,he5⟩:=List.append_of_mem got5.mem;have e7:es5=pre++e4::(post++(new++newA)):=by rw[heA];simp
   have hi7:=got5.inv;rw[e7]at hi7;have hn7: ∀y∈new++newA,y.k=k0:=fun y hy=>(Dn.1 hy).elim (hnew y) (hnA y)
   rw[D8,he5]at hs;replace hs:=Jq (X:=[]) hs;cases hnx:(kf a (p++[x])).AV<;>rw[hnx]at hek5 hF<;>rw[hek5]at hs
   all_goals
    refine zz ?_;(repeat clear U K);repeat intro K U
    have hs3:Sat Z (Bs L (pre++e4::(post++(new++newA)))):=by
     rw[<-hek5]at hs;have h3:=Dh (X:=[]) (e:=e5) (e':=e5) rfl rfl rfl hs;rw[<-he5,e7]at h3;exact h3
   .exact⟨hlt,new++newA,rfl,⟨⟨hi7,hn7⟩,by rw[hF];rfl⟩,Hr (X:=[]) hs3⟩
   .exact AJ ⟨_,⟨by rw[hF];simp,_,got.ext.trans ⟨_,by simp,hn7⟩,hi7,rfl⟩,hs3⟩
  .rw[Aj hke,List.all_nil,Bool.and_true]at hF
   have hlo:=hr.low a p;rw[<-hek]at hlo;have hno:=hok.2.2.1;have hle:=PQ e4.k.no e4.k.low;have hL:Cy (kf a p)=HI e4.k.no (from_ e4.k.no e4.k.low) e4.k.low:=by rw[Cy,<-hek];exact PT hle (Ft _)
   conv=>whnf
   repeat'((first|clear U K|apply st|(apply zk;intro K U)|refine zY ?_|(refine zb (fun hc=>?_) (fun hc=>?_)<;>try exact⟨⟩)|fail)<;>conv=>whnf)
   refine Ff (fun n:Int=>from_ e4.k.no n) (fun n=>[(10,eI n)]) (fun _=> .own e4.vs 1 (iL e4.k.AI)::fK L pre post e4 new) (fun n=> -1000000000<=n/\n+from_ e4.k.no n<=1000001000/\Cy (kf a p)=HI e4.k.no (from_ e4.k.no n) n) e4.k.low rfl ⟨by omega,by omega,hL⟩ hs ?_;clear hs hL hle;rintro n Z ⟨hn0,hn1,hL⟩ hs;have hct2:=fun b=>B3 e4.k.no b n
   cases hcB:e4.k.no.contains n<;>rw[hcB]at hct2
   .have hout:n∉e4.k.no:=by simpa using hcB
    rw[bw hout]at hL;rw[hL]at hF
    conv=>whnf
    repeat'((first|clear U K|apply st|(apply zk;intro K U)|refine zY ?_|refine Pure.Pk (hct2 false) (.cons (hs.MB 2 rfl) (.cons (.refl _) .nil)) rfl ?_|fail)<;>conv=>whnf)
    all_goals exact AJ ⟨_,⟨by rw[hF],_,got.ext.trans ⟨_,by simp,hnew⟩,hinv,rfl⟩,He (X:=[]) hs⟩
   .have hin:n∈e4.k.no:=by simpa using hcB
    have hlt:=PO hin;have hwr:IntKind.i64.wrap (n+1)=n+1:=wrap64 (by omega) (by omega);obtain⟨m,hm⟩: ∃m,from_ e4.k.no n=m+1:=⟨from_ e4.k.no n - 1,by omega⟩
    have hL2:Cy (kf a p)=HI e4.k.no (from_ e4.k.no (n+1)) (n+1):=by rw[hL,hm,jY hin];exact PT (by omega) (Ft _)
    conv=>whnf
    repeat'((first|clear U K|apply st|(apply zk;intro K U)|refine zY ?_|refine Pure.Pk (hct2 false) (.cons (hs.MB 2 rfl) (.cons (.refl _) .nil)) rfl ?_|fail)<;>conv=>whnf)
    exact⟨n+1,hlt,by rw[hwr];rfl,⟨by omega,by omega,hL2⟩,hs⟩
 .have h1:H5 e4.k.BO 3=false:=by
   rw[<-Bool.not_eq_true,<-hb3];omega
  exact AJ ⟨_,⟨by rw[hP,h1];simp,_,got.ext,got.inv,rfl⟩,by simpa using Dh (X:=[]) (e:=e4) (e':=e4) rfl rfl rfl hs⟩
end Go.Gl
namespace Go.Gl
open Go.Proofs
attribute [local irreducible] As Ag AY AQ AL AX AP AR AK AW AM AN Ai Ap Sat AT An AZ W
def aV (w : AF) (hw:BR w) (us:List Nat) {kf:Int->List Int->Kn} (hr:DC w kf) {a:Int} {p:List Int} (hp:p.length<=2) (up:Nat) (hup:up<18446744073709551616) (g:FuncId) (fi ca:List V) (can:Int->Bool) {L:Nat}
    (hcan: ∀s∈(kf a p).AI,∀es,Bj kf es->BL zP g (fi++[B2 a (p++[s])]++ca) (Bs L es) fun r post=>r= .ret (.b (can s))/\HU kf L es post) {es:List Bv} (h:Bj kf es) :
    BL zP 200 [.a (gv w us L),B2 a p,eU up,.f (.func g) fi ca] (Bs L es) fun r post=>r= .ret (.b (Rz w kf a p up can))/\HU kf L es post:=by
 intro Z hs;have hM:=Mx;refine wi kZ ?_;refine zz ?_;(repeat clear U K);repeat intro K U
 refine(me w us h (a:=a) (p:=p) hp).use (rest:=[]) (by simpa using hs) ?_;clear hs;rintro r post Z ⟨es4,e4,got,rfl,rfl⟩ hs;have hek:=got.k;obtain⟨pre,post,rfl⟩:=List.append_of_mem got.mem;rw[D8]at hs;replace hs:=Jq (X:=[]) hs;have hok:=hr.ok a p;have hsl:=(hr.ok a p).2.2.2;have hsh:=hr.short a p;have hsw:=hr.AI a p;rw[<-hek]at hok hsl hsh hsw hcan;have hb1:bits .andNot .u64 (e4.k.BO:Int) (up:Int)=((MH e4.k.BO up:Nat):Int):=Gd;have hb2:bits .and .u64 (e4.k.Dm:Int) (up:Int)=((e4.k.Dm&&&up:Nat):Int):=GA hok.2.1 hup;have hb3:=NA (u:=up) hok.1
 have hP:Rz w kf a p up can=(!e4.k.whole&&(H5 e4.k.BO up&&(e4.k.Dm&&&up==0&&e4.k.AI.all fun s=>if up.testBit (BG w s).toNat then can s else !(kf a (p++[s])).AV))):=by
  rw[Rz,hek]
 generalize Rz w kf a p up can=R at *;cases hwh:e4.k.whole<;>rw[hwh]at hP hs
 rotate_left
 .refine zz ?_;(repeat clear U K);repeat intro K U
  exact AJ ⟨_,⟨by rw[hP];rfl,_,got.ext,got.inv,rfl⟩,by rw[<-hwh]at hs;simpa using Dh (X:=[]) (e:=e4) (e':=e4) rfl rfl rfl hs⟩
 have hcl: ∀ {Z:AE},Sat Z (.box e4.b [eU e4.k.BO,eU e4.k.Dm,eI e4.k.low,eI e4.k.high,e4.vn,.b false,.b e4.k.AV,e4.vs]:: .own e4.vn 1 (iL e4.k.no):: .own e4.vs 1 (iL e4.k.AI)::([]++JG L (pre++e4::post) pre post))->Sat Z (Bs L (pre++e4::post)):=fun h=>by
  rw[<-hwh]at h;simpa using Dh (X:=[]) (e:=e4) (e':=e4) rfl rfl rfl h
 conv=>whnf
 repeat'((first|clear U K|apply st|(apply zk;intro K U)|refine zY ?_|refine za (fun hc=>?_) fun hc=>?_|fail)<;>conv=>whnf)
 .have h2:(e4.k.Dm&&&up==0)=false:=by rw[beq_eq_false_iff_ne];omega
  exact AJ ⟨_,⟨by rw[hP,h2];simp,_,got.ext,got.inv,rfl⟩,hcl hs⟩
 .have h1 : H5 e4.k.BO up=true:=hb3.1 (by omega)
  have h2:(e4.k.Dm&&&up==0)=true:=by rw[CF];omega
  rw[h1,h2,Bool.not_false,Cc,Cc,Cc]at hP
  have hs1:Sat Z (.own e4.vs 1 (iL e4.k.AI)::fK L pre post e4 []):=by
   have h2:=Hr (X:=[]) (L:=L) (pre:=pre) (post:=post) (e:=e4) (s:=[]) (by simpa using hcl hs);simpa using h2
  clear hb1 hb2 hb3 h1 h2;refine B4 e4.k.AI.length (fun k (x:List Bv)=>[(44,eI (A7 k))]) (fun k x=> .own e4.vs 1 (iL e4.k.AI)::fK L pre post e4 x) (fun k x=>(Bj kf (pre++e4::(post++x))/\ ∀y∈x,y.k=k0)/\R=(e4.k.AI.drop k).all fun s=>if up.testBit (BG w s).toNat then can s else !(kf a (p++[s])).AV) [] rfl ⟨⟨by simpa using got.inv,by simp⟩,hP⟩ hs1 ?_;clear hs hs1 hP hcl;rintro k new Z hk ⟨⟨hinv,hnew⟩,hF⟩ hs;have hck:A7 k=k:=AS (by omega);rcases A9 e4.k.AI hk with⟨s,hsk,hlt⟩|hke
  .have hsm:=B6 hsk
   have hp2:p.length<2:=by
    rcases Nat.lt_or_ge p.length 2 with h'|h'
    .exact h'
    .rw[hsh h']at hsm;cases hsm
   obtain⟨hs0,hs1⟩:=hsw s hsm;obtain⟨o,ho⟩: ∃o,w.owner[s.toNat]? =some o:=⟨_,Cd (by omega)⟩
   have hoI:BG w s=o:=by simp only[BG,Cq,ho];rfl
   obtain⟨ho1,ho2⟩:=hw.2.2 o (B6 ho);have hwp:=hw.1.1;rw[drop_cons hsk,Ri,hoI]at hF;have hcx:=hcan s hsm
   conv=>whnf
   repeat'((first|clear U K|apply st|(apply zk;intro K U)|refine zY ?_|refine ze fun x hx=>?_|refine zs fun Z hs=>?_|refine Pure.use (Mg a p _ hp2) ?_|refine zo fun nn hnn Z hs=>?_|fail)<;>conv=>whnf)
   obtain rfl:x=s:=by rw[hck,GR,hsk]at hx;exact(Option.some.inj hx).symm
   generalize nn=n7 at *;have hs2:Sat Z ([.box n7 (GD a (p++[x]))]++Bs L (pre++e4::(post++new))):=He (X:=[.box n7 (GD a (p++[x]))]) (hs.perm (.swap _ _ _));clear hs;have hs:=hs2;clear hs2;have c2:=Zo up o hup (by omega) (by omega);cases hbo:up.testBit o.toNat<;>rw[hbo]at hF c2
   .rw [if_neg (by decide)]at hF
    conv=>whnf
    repeat'((first|clear U K|apply st|(apply zk;intro K U)|refine zY ?_|refine zC ?_|fail)<;>conv=>whnf)
    refine(me w us hinv (a:=a) (p:=p++[x]) (by simp;omega)).use (rest:=[.box n7 (GD a (p++[x]))]) hs.flip ?_;clear hs;rintro r post' Z ⟨es5,e5,got5,rfl,rfl⟩ hs;have hek5:=congrArg Kn.AV got5.k;obtain⟨newA,heA,hnA⟩:=got5.ext;obtain⟨pre5,post5,he5⟩:=List.append_of_mem got5.mem;have e7:es5=pre++e4::(post++(new++newA)):=by rw[heA];simp
    have hi7:=got5.inv;rw[e7]at hi7;have hn7: ∀y∈new++newA,y.k=k0:=fun y hy=>(Dn.1 hy).elim (hnew y) (hnA y)
    rw[he5]at hs;replace hs:=Jq (X:=[.box n7 (GD a (p++[x]))]) hs.flip;cases hnx:(kf a (p++[x])).AV<;>rw[hnx]at hek5 hF<;>rw[hek5]at hs
    all_goals
     refine zz ?_;(repeat clear U K);repeat intro K U
     have hs3:Sat Z (Bs L (pre++e4::(post++(new++newA)))):=by
      rw[<-hek5]at hs;have h3:=Dh (X:=[.box n7 (GD a (p++[x]))]) (e:=e5) (e':=e5) rfl rfl rfl hs;rw[<-he5,e7]at h3;exact h3.less (List.sublist_append_right _ _)
    .exact⟨hlt,new++newA,rfl,⟨⟨hi7,hn7⟩,by rw[hF];rfl⟩,Hr (X:=[]) hs3⟩
    .exact AJ ⟨_,⟨by rw[hF];rfl,_,got.ext.trans ⟨_,by simp,hn7⟩,hi7,rfl⟩,hs3⟩
   .rw[if_pos rfl]at hF
    cases hcy:can x<;>rw[hcy]at hF hcx
    all_goals
     conv=>whnf
     repeat'((first|clear U K|apply st|(apply zk;intro K U)|refine zY ?_|refine zC ?_|fail)<;>conv=>whnf)
     refine A0 ((hcx _ hinv).use (rest:=[.box n7 (GD a (p++[x]))]) hs.flip ?_);clear hs;rintro r post' Z ⟨rfl,es6,⟨new6,he6,hn6⟩,hi6,rfl⟩ hs;have e7:es6=pre++e4::(post++(new++new6)):=by rw[he6];simp
     rw[e7]at hi6 hs;have hn7: ∀y∈new++new6,y.k=k0:=fun y hy=>(Dn.1 hy).elim (hnew y) (hn6 y)
     have hs3:Sat Z (Bs L (pre++e4::(post++(new++new6)))):=hs.less (List.sublist_append_left _ _);clear hs;have hs:=hs3;refine zz ?_;(repeat clear U K);repeat intro K U
    .exact AJ ⟨_,⟨by rw[hF];rfl,_,got.ext.trans ⟨_,by simp,hn7⟩,hi6,rfl⟩,hs3⟩
    .exact⟨hlt,new++new6,rfl,⟨⟨hi6,hn7⟩,by rw[hF];rfl⟩,Hr (X:=[]) hs3⟩
  .rw[Aj hke,List.all_nil]at hF
   refine zz ?_;(repeat clear U K);repeat intro K U
   exact AJ ⟨_,⟨by rw[hF],_,got.ext.trans ⟨_,by simp,hnew⟩,hinv,rfl⟩,He (X:=[]) hs⟩
 .have h1:H5 e4.k.BO up=false:=by
   rw[<-Bool.not_eq_true,<-hb3];omega
  exact AJ ⟨_,⟨by rw[hP,h1];simp,_,got.ext,got.inv,rfl⟩,hcl hs⟩
end Go.Gl
