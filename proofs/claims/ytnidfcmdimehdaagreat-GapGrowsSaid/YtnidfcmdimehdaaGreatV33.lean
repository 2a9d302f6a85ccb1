import Derived.Test.YtnidfcmdimehdaaGreatProg
import Derived.KernelRfl
import Derived.Test.YtnidfcmdimehdaaGreatV14
import Derived.Test.YtnidfcmdimehdaaGreatV25
import Derived.Test.YtnidfcmdimehdaaGreatV26
import Derived.Test.YtnidfcmdimehdaaGreatV29
import Derived.Test.YtnidfcmdimehdaaGreatV32
set_option linter.all false
set_option linter.defProp false
set_option maxHeartbeats 8000000
noncomputable section
namespace Go.Gl
open Go.Proofs
abbrev jH:AT:=(.seq [2,3] (.DA [⟨(some 2),.PA (.t 0),none⟩,
 ⟨(some 3),.PA (.t 1),none⟩,
 ⟨(some 4),.mv (.c .pn),none⟩])
 (.seq [2,3,5,6] (.DA [⟨(some 8),.F7 1 (.t 2),none⟩,
  ⟨(some 9),.load none (.t 8),none⟩,
  ⟨(some 10),.load (some 4) (.t 3),none⟩,
  ⟨(some 11),.lookup (.a [.i64,.i64,.i64,.i64]) .pn true (.t 9) (.t 10),none⟩,
  ⟨(some 7),.mv (.t 11),none⟩,
  ⟨(some 12),.extract 0 (.t 7),none⟩,
  ⟨(some 13),.extract 1 (.t 7),none⟩,
  ⟨(some 5),.mv (.t 12),none⟩,
  ⟨(some 6),.mv (.t 13),none⟩])
 (.seq [5] (.seq [2,3,5,15] (.DA [⟨(some 14),.mv (.t 6),none⟩,
  ⟨(some 15),.not (.t 14),none⟩])
 (.cond (.t 15)
 (.seq [2,3,5] (.DA [⟨(some 16),.build [(.i .u64 0),(.i .u64 0),(.i .i64 0),(.i .i64 0),(.l [] true),(.b false),(.b false),(.l [] true)] [(2,1,(.c (.i .i64 (-1000000000)))),(3,1,(.c (.i .i64 1000000000)))],none⟩,
  ⟨(some 17),.box (.t 16),none⟩,
  ⟨(some 5),.mv (.t 17),none⟩])
 (.DA [⟨(some 18),.F7 1 (.t 2),none⟩,
  ⟨(some 19),.load none (.t 18),none⟩,
  ⟨(some 20),.load (some 4) (.t 3),none⟩,
  ⟨(some 21),.mv (.t 5),none⟩,
  ⟨none,.Ed (.a [.i64,.i64,.i64,.i64]) (.t 19) (.t 20) (.t 21),none⟩]))
 .skip))
 (.seq [4] (.DA [⟨(some 22),.mv (.t 5),none⟩,
  ⟨(some 4),.mv (.t 22),none⟩])
 .ret))))
def nJ:Tryz.f151.body.bind (res Tryz.prog Tryz.f151.ntmps [] [2,3])=some (erase jH):=by kernel_rfl
def pV {args:List V} (hn:args.length<=23) {Z:AE} {Q:R->AE->Prop} (h:W Tryz.prog jH (fp [4] Q) (A5 0 args) Z):Av Tryz.prog 151 args Z Q:=
 Lk Tryz.func151 (by kernel_rfl) nJ rfl hn (mJ h)
end Go.Gl
namespace Go.Gl
open Go.Proofs
attribute [local irreducible] Av An Af AQ AL Ac AP AS AK Ab AN AO As A3 Sat AV A0 Ag W
def qL (s c:Nat) (hs0:s<18446744073709551616) (hc:c<64):Pure zP 150 [eU s,eI c] (eU (s|||2 ^ c)):=by
 refine wV kZ ?_;have hs:=Sn
 conv=>whnf
 repeat'((first|clear U K|apply st|(apply zk;intro K U)|fail)<;>conv=>whnf)
 refine⟨Int.natCast_nonneg _,?_⟩;refine zv ?_;(repeat clear U K);repeat intro K U
 exact AJ (by rw[HX,UN hc,G7 hs0 (GW hc)])
def r7 (s c:Nat) (hs0:s<18446744073709551616) (hc:c<64):Pure zP 108 [eU s,eI c] (.b (s.testBit c)):=by
 refine xB kZ ?_;have hs:=Sn
 conv=>whnf
 repeat'((first|clear U K|apply st|(apply zk;intro K U)|fail)<;>conv=>whnf)
 refine⟨Int.natCast_nonneg _,?_⟩;refine zv ?_;(repeat clear U K);repeat intro K U
 refine AJ ?_;rw[HX,UM hc];have h1:s >>> c<18446744073709551616:=by rw[Nat.shiftRight_eq_div_pow];exact Nat.lt_of_le_of_lt (Nat.div_le_self _ _) hs0
 have h2:bits .and .u64 ((s >>> c:Nat):Int) 1=((s >>> c&&&1:Nat):Int):=Fs h1 (show 1<_ by decide);rw[h2];simp only[Nat.testBit,Nat.and_comm 1];congr 1;rcases Nat.mod_two_eq_zero_or_one (s >>> c)with h|h<;>simp[Nat.and_one_is_mod,h]
def Nf (s:Nat) (c:Int) (hs0:s<18446744073709551616) (h0:0<=c) (hc:c<64):Pure zP 150 [eU s,eI c] (eU (s|||2 ^ c.toNat)):=by
 have:=qL s c.toNat hs0 (by omega);rw[Int.toNat_of_nonneg h0]at this;exact this
def Zg (s:Nat) (c:Int) (hs0:s<18446744073709551616) (h0:0<=c) (hc:c<64):Pure zP 108 [eU s,eI c] (.b (s.testBit c.toNat)):=by
 have:=r7 s c.toNat hs0 (by omega);rw[Int.toNat_of_nonneg h0]at this;exact this
abbrev gW (w:AG) (us:List Nat):List V:=[.l (Es w.parents) false,.l (iL w.owner) false,.l (us.map fun u=>[eU u]) false]
abbrev gv (w:AG) (us:List Nat) (L:Nat):List V:=[.rp (gW w us),.m L]
abbrev gK (b:Nat) (vn vs:V) (k:Kn):List At:=[.box b [eU k.BS,eU k.Dt,eI k.low,eI k.high,vn,.b k.whole,.b k.AZ,vs],.own vn 1 (iL k.no),.own vs 1 (iL k.AF)]
abbrev Vr (e:B2):List At:=gK e.b e.vn e.vs e.k
def Bo (L:Nat) (es:List B2):List At:= .map L (TW es)::es.flatMap Vr
def I2 (L:Nat) (es pre post:List B2):List At:= .map L (TW es)::(pre++post).flatMap Vr
def Wl (L:Nat) (pre post:List B2) (e:B2):(Bo L (pre++e::post)).Perm (Vr e++I2 L (pre++e::post) pre post):=by
 unfold Bo I2;rw[List.flatMap_append,List.flatMap_cons,List.flatMap_append];refine List.Perm.trans ?_ (List.perm_middle.symm);refine List.Perm.cons _ ?_;rw[<-Ph,<-Ph];exact List.Perm.append_right _ PH
def Us {L:Nat} {pre post:List B2} {e e':B2} (h1:e'.a=e.a) (h2:e'.p=e.p) (h3:e'.b=e.b):I2 L (pre++e'::post) pre post=I2 L (pre++e::post) pre post:=by
 rw[I2,I2,RA h1 h2 h3]
def JY {Z:AE} {X:List At} {L:Nat} {pre post:List B2} {e:B2} (h:Sat Z (X++Bo L (pre++e::post))):Sat Z (.box e.b [eU e.k.BS,eU e.k.Dt,eI e.k.low,eI e.k.high,e.vn,.b e.k.whole,.b e.k.AZ,e.vs]:: .own e.vn 1 (iL e.k.no):: .own e.vs 1 (iL e.k.AF)::(X++I2 L (pre++e::post) pre post)):=by
 have h2:Sat Z (Vr e++(X++I2 L (pre++e::post) pre post)):=h.perm ((List.Perm.append_left X (Wl L pre post e)).trans (by rw[<-Ph,<-Ph];exact PH.append_right _));exact h2
def Di {Z:AE} {X:List At} {L:Nat} {pre post:List B2} {e e':B2} (h1:e'.a=e.a) (h2:e'.p=e.p) (h3:e'.b=e.b) (h:Sat Z (Vr e'++(X++I2 L (pre++e::post) pre post))):Sat Z (X++Bo L (pre++e'::post)):=by
 rw[<-Us h1 h2 h3]at h;exact h.perm ((List.Perm.append_left X (Wl L pre post e')).trans (by rw[<-Ph,<-Ph];exact PH.append_right _)).symm
def l8 (w:AG) (us:List Nat) {kf:Int->List Int->Kn} {L:Nat} {es:List B2} (h:Bv kf es) {a:Int} {p:List Int} (hp:p.length<=2) :
    BO zP 151 [.a (gv w us L),CE a p] (Bo L es) fun r post=> ∃es' e,mg kf es es' a p e/\r= .ret (.p e.b 0)/\post=Bo L es':=by
 intro Z hs;refine pV kZ ?_;unfold Bo at hs;rcases gA a p es with hn|⟨pre,e,post,rfl,he,hpre⟩
 .have hf:=QU hp h.len hn
  conv=>whnf
  repeat'((first|clear U K|apply st|(apply zk;intro K U)|refine zY ?_|refine Nl hs 0 rfl rfl (H6 _) hf ?_|refine Ic hs 1 rfl rfl (H6 _) fun Z hs=>?_|refine zo fun nn hnn Z hs=>?_|fail)<;>conv=>whnf)
  simp only[List.set_cons_succ,List.set_cons_zero]at hs;change Sat Z (_:: .map L (DU (CE a p) (.p nn 0) (TW es))::_)at hs;rw[YM hp nn (.l [] true) (.l [] true) k0 h.len hn]at hs;have hs2:=DF (DF hs 1) 1;refine AH ⟨_,⟨es++[⟨a,p,nn,.l [] true,.l [] true,k0⟩],⟨a,p,nn,.l [] true,.l [] true,k0⟩,⟨h.add hp hn _ _ _,⟨_,rfl,by simp⟩,by simp,by simp[B2.is]⟩,rfl,rfl⟩,?_⟩;unfold Bo;rw[List.flatMap_append,List.flatMap_cons,List.flatMap_nil,FE];refine hs2.perm ((List.perm_middle (l₁:=[_,_,_])).trans (.cons _ (PH.trans (List.Perm.append_left _ (List.reverse_perm _).symm))))
 .have hf:=QT hp he h.len hpre
  conv=>whnf
  repeat'((first|clear U K|apply st|(apply zk;intro K U)|refine zY ?_|refine Nl hs 0 rfl rfl (H6 _) hf ?_|fail)<;>conv=>whnf)
  exact AH ⟨_,⟨_,e,⟨h,.refl _,by simp,he⟩,rfl,rfl⟩,hs⟩
def MV (a:Int) (p:List Int) (s:Int) (hp:p.length<2):Pure zP 152 [CE a p,eI s] (CE a (p++[s])):=by
 refine Pure.of ?_;refine wU kZ ?_;have hs:=Sn
 match p,hp with
 | [],_=>
   conv=>whnf
   repeat'((first|clear U K|apply st|(apply zk;intro K U)|refine zY ?_|refine zs fun Z hs=>?_|refine za (fun hc=>?_) fun hc=>?_|refine zo fun nn hnn Z hs=>?_|fail)<;>conv=>whnf)
   all_goals first
    | exact AH rfl
    | (exfalso;simp at hc;done)
 | [x],_=>
   conv=>whnf
   repeat'((first|clear U K|apply st|(apply zk;intro K U)|refine zY ?_|refine zs fun Z hs=>?_|refine za (fun hc=>?_) fun hc=>?_|refine zo fun nn hnn Z hs=>?_|fail)<;>conv=>whnf)
   all_goals first
    | exact AH rfl
    | (exfalso;simp at hc;done)
def yU {b:Nat} {vn vs:V} {k:Kn} (f:Fact) (c:Bool) (hl:f.op=2\/f.op=3\/f.op=4) (hc:f.op=2->0<=f.cls/\f.cls<64) (hm:k.BS<18446744073709551616) (hn:k.Dt<18446744073709551616) (hno:k.no.length<1000000) (hN: -1000000000<=f.n/\f.n<=1000000000) :
    BO zP 153 [.p b 0,.a (xF f++[.b c])] (gK b vn vs k) fun r post=>r= .ret (.t [])/\ ∃vn',post=gK b vn' vs (By k f c):=by
 intro Z hs;have hM:=Mx;refine wT kZ ?_;rw[show xF f++[V.b c]= [eI f.op,eI f.arg,.l (iL f.path) false,eI f.cls,eI f.n,.l (f.kids.map Fm) false,.b c] from rfl];have hw:IntKind.i64.wrap (f.n - 1)=f.n - 1:=wrap64 (by omega) (by omega);cases c<;>rcases hl with h2|h3|h4
 .have hE:By k f false= {k with BS:=k.BS|||2 ^ f.cls.toNat}:=by rw[By,if_pos h2,if_neg Bool.false_ne_true]
  rw[hE]
  conv=>whnf
  repeat'((first|clear U K|apply st|(apply zk;intro K U)|refine zY ?_|refine zs fun Z hs=>?_|refine Pure.use (Nf _ _ hm (by omega) (by omega)) ?_|(refine zb (fun hc=>?_) (fun hc=>?_)<;>try exact⟨⟩)|fail)<;>conv=>whnf)
  exact AH ⟨_,⟨rfl,vn,rfl⟩,hs⟩
 .have hE:By k f false= {k with high:=if f.n - 1<k.high then f.n - 1 else k.high,whole:=true}:=by rw[By,if_neg (by omega),if_pos h3,if_neg Bool.false_ne_true]
  rw[hE]
  conv=>whnf
  repeat'((first|clear U K|apply st|(apply zk;intro K U)|refine zY ?_|refine zs fun Z hs=>?_|(refine zb (fun hc=>?_) (fun hc=>?_)<;>try exact⟨⟩)|fail)<;>conv=>whnf)
  rw[hw]at hs;exact AH ⟨_,⟨rfl,vn,rfl⟩,hs⟩
 .have hE:By k f false= {k with low:=if f.n > k.low then f.n else k.low,high:=if f.n<k.high then f.n else k.high,whole:=true}:=by rw[By,if_neg (by omega),if_neg (by omega),if_neg Bool.false_ne_true]
  rw[hE]
  conv=>whnf
  repeat'((first|clear U K|apply st|(apply zk;intro K U)|refine zY ?_|refine zs fun Z hs=>?_|(refine zb (fun hc=>?_) (fun hc=>?_)<;>try exact⟨⟩)|fail)<;>conv=>whnf)
  exact AH ⟨_,⟨rfl,vn,rfl⟩,hs⟩
 .have hE:By k f true= {k with Dt:=k.Dt|||2 ^ f.cls.toNat}:=by rw[By,if_pos h2,if_pos rfl]
  rw[hE]
  conv=>whnf
  repeat'((first|clear U K|apply st|(apply zk;intro K U)|refine zY ?_|refine zs fun Z hs=>?_|refine Pure.use (Nf _ _ hn (by omega) (by omega)) ?_|(refine zb (fun hc=>?_) (fun hc=>?_)<;>try exact⟨⟩)|fail)<;>conv=>whnf)
  exact AH ⟨_,⟨rfl,vn,rfl⟩,hs⟩
 .have hE:By k f true= {k with low:=if f.n > k.low then f.n else k.low}:=by rw[By,if_neg (by omega),if_pos h3,if_pos rfl]
  rw[hE]
  conv=>whnf
  repeat'((first|clear U K|apply st|(apply zk;intro K U)|refine zY ?_|refine zs fun Z hs=>?_|(refine zb (fun hc=>?_) (fun hc=>?_)<;>try exact⟨⟩)|fail)<;>conv=>whnf)
  exact AH ⟨_,⟨rfl,vn,rfl⟩,hs⟩
 .have hE:By k f true= {k with no:=k.no++[f.n]}:=by rw[By,if_neg (by omega),if_neg (by omega),if_pos rfl]
  rw[hE]
  conv=>whnf
  repeat'((first|clear U K|apply st|(apply zk;intro K U)|refine zY ?_|refine zs fun Z hs=>?_|refine aq fun v Z hs hsl=>?_|(refine zb (fun hc=>?_) (fun hc=>?_)<;>try exact⟨⟩)|fail)<;>conv=>whnf)
  exact AH ⟨_,⟨rfl,_,rfl⟩,hs⟩
end Go.Gl
namespace Go.Gl
open Go.Proofs
def Sat.flip {Z:AE} {X AB:List At} (h:Sat Z (X++AB)):Sat Z (AB++X):=h.perm PH
def oZ (f:Fact) (c:Bool) (j:Nat) (a:Int) (p:List Int) (k:Kn):(Dm f c j a p k).BS=k.BS:=by unfold Dm;(repeat' split)<;>rfl
def tg (f:Fact) (c:Bool) (j:Nat) (a:Int) (p:List Int) (k:Kn):(Dm f c j a p k).Dt=k.Dt:=by unfold Dm;(repeat' split)<;>rfl
def y0 (f:Fact) (c:Bool) (j:Nat) (a:Int) (p:List Int) (k:Kn):(Dm f c j a p k).no=k.no:=by unfold Dm;(repeat' split)<;>rfl
def ky (f:Fact) (c:Bool) (j:Nat) (a:Int) (p:List Int) (k:Kn):(Dm f c j a p k).AF.length<=k.AF.length+1:=by
 unfold Dm
 repeat' split
 .exact XE _ _
 all_goals simp[Bz]
def yz {m:Nat} {k:Kn} (h:ba m k) (f:Fact) (c:Bool) (j:Nat) (a:Int) (p:List Int):ba (m+1) (Dm f c j a p k):=by
 obtain⟨h1,h2,h3,h4⟩:=h;refine⟨by rw[oZ];exact h1,by rw[tg];exact h2,by rw[y0];omega,?_⟩;have:=ky f c j a p k;omega
def iC {ls:List Fact} (h:Nu ls) (a:Int) (p:List Int):ba ls.length (kg ls a p):=by
 have hc:Gv 64 ls:=fun l hl ho=>(h l hl).cls ho
 obtain⟨h1,h2⟩:=oQ hc a p;obtain⟨h3,h4⟩:=iD a p ls k0;exact⟨by simpa using h1,by simpa using h2,by simpa[kg,k0]using h3,by simpa[kg,k0]using h4⟩
def yp:Bv (kg []) []:=⟨fun x hx=>(by cases hx),fun a p _=>rfl,.nil,fun x hx=>(by cases hx)⟩
attribute [local irreducible] Av An Af AQ AL Ac AP AS AK Ab AN AO As A3 Sat AV A0 Ag W
abbrev JR (y:Fact×Bool):List V:=[eI y.1.op,eI y.1.arg,.l (iL y.1.path) false,eI y.1.cls,eI y.1.n,.l (y.1.kids.map Fm) false,.b y.2]
def yl (w : AG) (us:List Nat) (ls:List Fact) (ps:List (Fact×Bool)) (hps:ps=ls.map Ah) (b:Bool) (h:Nu ls) (hlen:ls.length<900) :
    BO zP 93 [.rp (gW w us),.l (ps.map JR) b] [] fun r post=> ∃L es,r= .ret (.a (gv w us L))/\Bv (kg ls) es/\post=Bo L es:=by
 intro Z hs;have hM:=Mx;have hpl:ps.length=ls.length:=by rw[hps,CW]
 refine y6 kZ ?_
 conv=>whnf
 repeat'((first|apply st|(apply sq;intro K U)|(apply si;intro A B hA hB)|(refine hA _ _ ?_;clear hB B hA A)|(apply U;clear U K)|refine bY fun Z hs=>?_|(intro nn hnn;generalize hg:Bu _ nn _=Z;refine fL hg fun hs=>?_;clear hg)|fail)<;>conv=>whnf)
 rename_i n4 _ _ _ L _ _ _ _ _;generalize nn=n5 at *;refine Cn ps.length (fun k (x:List B2)=>[(17,eI (BR k))]) (fun k x=> .box n5 (gv w us L):: .box n4 [.pn,.mn]::Bo L x) (fun k x=>Bv (kg (ls.take k)) x) [] rfl yp (hs.perm (.cons _ (.swap _ _ _))) ?_;clear hs hnn;rintro k es Z hk hinv hs;rcases BK ps hk with⟨y,hy,hlt⟩|hke
 .obtain ⟨l,hlk⟩: ∃l,ls[k]? =some l:=⟨_,Dp (by omega)⟩
  have hyl:y=Ah l:=by
   rw[hps,OU,hlk]at hy;exact(Option.some.inj hy).symm
  have hlm:l∈ls:=Cm hlk;have htk:ls.take (k+1)=ls.take k++[l]:=AU hlk;have hbk: ∀a p,ba (ls.take k).length (kg (ls.take k) a p):=iC fun x hx=>h x (List.mem_of_mem_take hx)
  obtain⟨l1,l2,l3,l4⟩:=h l hlm;have hkl:(ls.take k).length<900:=by rw[Lv];omega
  have hend: ∀a p,kg (ls.take (k+1)) a p=if a=(Ah l).1.arg/\p=(Ah l).1.path then By (Dm (Ah l).1 (Ah l).2 (Ah l).1.path.length a p (kg (ls.take k) a p)) (Ah l).1 (Ah l).2 else Dm (Ah l).1 (Ah l).2 (Ah l).1.path.length a p (kg (ls.take k) a p):=fun a p=>by
   rw[htk,oP];exact th a p (kg (ls.take k) a p) l
  generalize kg (ls.take k)=kf at *;rw[<-hyl]at l1 l2 l3 l4 hend;clear hyl;obtain⟨f,c⟩:=y;dsimp only at l1 l2 l3 l4 hend;generalize (ls.take k).length=m at *
  conv=>whnf
  repeat'((first|apply st|(apply sq;intro K U)|(apply si;intro A B hA hB)|(refine hA _ _ ?_;clear hB B hA A)|(apply U;clear U K)|refine⟨rfl,?_⟩|refine⟨kZ,?_⟩|refine ix ?_|refine ld ?_|refine bY fun Z hs=>?_|(refine fK (fun hc=>?_)<;>(try rw[hc])<;>clear hc)|(intro nn hnn;generalize hg:Bu _ nn _=Z;refine fL hg fun hs=>?_;clear hg)|fail)<;>conv=>whnf)
  rename_i n7 _ _ _ _ _ _ _;generalize nn=n8 at *;replace hs:Sat Z ([.box n8 (Fv f.arg []),.box n7 (JR (f,c)),.box n5 (gv w us L),.box n4 [.pn,.mn]]++Bo L es):=hs;refine(l8 w us hinv (a:=f.arg) (p:=[]) (by simp)).use (rest:=[.box n8 (Fv f.arg []),.box n7 (JR (f,c)),.box n5 (gv w us L),.box n4 [.pn,.mn]]) hs.flip ?_;clear hs;rintro r post Z ⟨es1,e1,got,rfl,rfl⟩ hs;have hek:=got.k;obtain⟨hea,hep⟩:=GY.1 got.is;obtain⟨pre,post,rfl⟩:=List.append_of_mem got.mem;replace hs:=JY (X:=[.box n8 (Fv f.arg []),.box n7 (JR (f,c)),.box n5 (gv w us L),.box n4 [.pn,.mn]]) hs.flip;cases hnd:e1.k.AZ<;>rw[hnd]at hs
  all_goals
   conv=>whnf
   repeat'((first|apply st|(apply sq;intro K U)|(apply si;intro A B hA hB)|(refine hA _ _ ?_;clear hB B hA A)|(apply U;clear U K)|refine ld ?_|refine xZ fun Z hs=>?_|fail)<;>conv=>whnf)
   obtain⟨e2,es2,hP,hQ,hR⟩: ∃(e2:B2) (es2:List B2),(Bv (fun a p=>Dm f c 0 a p (kf a p)) es2/\e2∈es2/\e2.is f.arg (f.path.take 0)=true)/\e2.b=e1.b/\Sat Z ([.box n8 (Fv f.arg (f.path.take 0)),.box n7 (JR (f,c)),.box n5 (gv w us L),.box n4 [.pn,.mn]]++Bo L es2):=by
    refine⟨⟨e1.a,e1.p,e1.b,e1.vn,e1.vs,Bz e1.k c⟩,_,⟨(got.inv.change e1.b e1.vn e1.vs (Bz e1.k c)).congr fun a p=>?_,NO _ (.head _),got.is⟩,rfl,?_⟩
    .rw[oX,NS,hea,hep,hek]
     by_cases ha:a=f.arg/\p= []
     .rw[if_pos ha,if_pos ha,ha.1,ha.2]
     .rw[if_neg ha,if_neg ha]
    .refine Di (X:=[.box n8 (Fv f.arg []),.box n7 (JR (f,c)),.box n5 (gv w us L),.box n4 [.pn,.mn]]) (e:=e1) rfl rfl rfl ?_
     first
      | (rw[KV c hnd];exact hs)
      | (rw[Io c hnd];exact hs)
   rw[<-hQ];clear hs hnd got hek hea hep;refine Cn f.path.length (fun j (x:List B2×B2)=>[(44,eI (BR j)),(9,.p x.2.b 0)]) (fun j x=>[.box n8 (Fv f.arg (f.path.take j)),.box n7 (JR (f,c)),.box n5 (gv w us L),.box n4 [.pn,.mn]]++Bo L x.1) (fun j x=>Bv (fun a p=>Dm f c j a p (kf a p)) x.1/\x.2∈x.1/\x.2.is f.arg (f.path.take j)=true) (es2,e2) rfl hP hR ?_;clear hP hR;generalize e2.b=b0 at *;clear hQ e2 es2;rintro j ⟨es2,e2⟩ Z hj ⟨hinv2,hmem,his⟩ hs;simp only at hinv2 hmem his hs
   have hek:e2.k=Dm f c j f.arg (f.path.take j) (kf f.arg (f.path.take j)):=by
    have:=hinv2.val e2 hmem;obtain⟨h1,h2⟩:=GY.1 his;rw[this,h1,h2]
   have hok:ba (m+1) e2.k:=by rw[hek];exact yz (hbk _ _) f c j _ _
   obtain⟨hea,hep⟩:=GY.1 his;obtain⟨pre2,post2,rfl⟩:=List.append_of_mem hmem;replace hs:=JY (X:=[.box n8 (Fv f.arg (f.path.take j)),.box n7 (JR (f,c)),.box n5 (gv w us L),.box n4 [.pn,.mn]]) hs;have hck:BR j=j:=Ae (by omega);rcases BK f.path hj with⟨s,hsj,hjlt⟩|hje
   .have hct:=fun b=>Cl e2.k.AF b s
    have hk4:=hok.2.2.2;have hsl0:mA e2.k s= {e2.k with AF:=Tq e2.k.AF s}:=rfl
    have hne:f.path.take j++[s]≠f.path.take j:=by
     intro e;have:=congrArg List.length e;simp at this
    have hgd:f.path.getD j 0=s:=by rw[DK,hsj];rfl
    have htk2:f.path.take (j+1)=f.path.take j++[s]:=AU hsj;cases hcB:e2.k.AF.contains s
    all_goals
     rw[hcB]at hct
     conv=>whnf
     repeat'((first|apply st|(apply sq;intro K U)|(apply si;intro A B hA hB)|(refine hA _ _ ?_;clear hB B hA A)|(apply U;clear U K)|refine⟨rfl,?_⟩|refine⟨kZ,?_⟩|refine ix ?_|refine ld ?_|refine xZ fun Z hs=>?_|refine bY fun Z hs=>?_|refine aq fun v Z hs hsl=>?_|refine xh ?_|refine xi ?_|(refine fK (fun hc=>?_)<;>(try rw[hc])<;>clear hc)|refine Pure.use (MV f.arg (f.path.take j) s (by rw[Lv];omega)) ?_|refine Pure.Rv (hct false) (.cons (hs.Ha 2 rfl) (.cons (.refl _) .nil)) rfl ?_|fail)<;>conv=>whnf)
    have hs3: ∃vs3,Sat Z ([.box n8 (Fv f.arg (f.path.take j++[s])),.box n7 (JR (f,c)),.box n5 (gv w us L),.box n4 [.pn,.mn]]++Bo L (pre2++⟨e2.a,e2.p,e2.b,e2.vn,vs3,mA e2.k s⟩::post2)):=⟨_,Di (X:=[.box n8 (Fv f.arg (f.path.take j++[s])),.box n7 (JR (f,c)),.box n5 (gv w us L),.box n4 [.pn,.mn]]) (e:=e2) rfl rfl rfl (by rw[hsl0,Tq,if_neg (by rw[hcB];decide)];exact hs)⟩
    rotate_left
    have hs3: ∃vs3,Sat Z ([.box n8 (Fv f.arg (f.path.take j++[s])),.box n7 (JR (f,c)),.box n5 (gv w us L),.box n4 [.pn,.mn]]++Bo L (pre2++⟨e2.a,e2.p,e2.b,e2.vn,vs3,mA e2.k s⟩::post2)):=⟨e2.vs,Di (X:=[.box n8 (Fv f.arg (f.path.take j++[s])),.box n7 (JR (f,c)),.box n5 (gv w us L),.box n4 [.pn,.mn]]) (e:=e2) rfl rfl rfl (by rw[hsl0,Tq,if_pos hcB];exact hs)⟩
    all_goals
     clear hs;obtain⟨vs3,hs⟩:=hs3;have hinv3:=hinv2.change e2.b e2.vn vs3 (mA e2.k s);refine(l8 w us hinv3 (a:=f.arg) (p:=f.path.take j++[s]) (by rw[Ri,Lv];simp;omega)).use (rest:=[.box n8 (Fv f.arg (f.path.take j++[s])),.box n7 (JR (f,c)),.box n5 (gv w us L),.box n4 [.pn,.mn]]) hs.flip ?_;clear hs;rintro r post Z ⟨es4,e4,got,rfl,rfl⟩ hs;have hek4:=got.k;obtain⟨hea4,hep4⟩:=GY.1 got.is;obtain⟨pre4,post4,rfl⟩:=List.append_of_mem got.mem;replace hs:=JY (X:=[.box n8 (Fv f.arg (f.path.take j++[s])),.box n7 (JR (f,c)),.box n5 (gv w us L),.box n4 [.pn,.mn]]) hs.flip;cases hnd:e4.k.AZ<;>rw[hnd]at hs
     all_goals
      conv=>whnf
      repeat'((first|apply st|(apply si;intro A B hA hB)|(refine hA _ _ ?_;clear hB B hA A)|(apply U;clear U K)|refine⟨rfl,?_⟩|refine ld ?_|refine xZ fun Z hs=>?_|clear U K)<;>conv=>whnf)
      refine⟨hjlt,(pre4++⟨e4.a,e4.p,e4.b,e4.vn,e4.vs,Bz e4.k c⟩::post4,⟨e4.a,e4.p,e4.b,e4.vn,e4.vs,Bz e4.k c⟩),rfl,⟨(got.inv.change e4.b e4.vn e4.vs (Bz e4.k c)).congr fun a p=>?_,NO _ (.head _),by rw[htk2];exact got.is⟩,?_⟩
      .rw[oY f c hjlt,NS,hea4,hep4,htk2,hgd]
       by_cases h1:a=f.arg/\p=f.path.take j++[s]
       .rw[if_pos h1,if_pos h1,hek4,NS,hea,hep,if_neg (fun h=>hne h.2),h1.1,h1.2]
       .rw[if_neg h1,if_neg h1,NS,hea,hep]
        by_cases h2:a=f.arg/\p=f.path.take j
        .rw[if_pos h2,if_pos h2,hek,h2.1,h2.2]
        .rw[if_neg h2,if_neg h2]
      .rw[htk2]
       refine Di (X:=[.box n8 (Fv f.arg (f.path.take j++[s])),.box n7 (JR (f,c)),.box n5 (gv w us L),.box n4 [.pn,.mn]]) (e:=e4) rfl rfl rfl ?_
       first
        | (rw[KV c hnd];exact hs)
        | (rw[Io c hnd];exact hs)
   .have etk:f.path.take j=f.path:=BI hje
    rw[etk]at his hs hek hep
    conv=>whnf
    repeat'((first|apply st|(apply sq;intro K U)|(apply si;intro A B hA hB)|(refine hA _ _ ?_;clear hB B hA A)|(apply U;clear U K)|refine⟨rfl,?_⟩|refine⟨kZ,?_⟩|refine ld ?_|(refine qG (fun hc=>?_)<;>(try rw[hc])<;>clear hc)|clear U K)<;>conv=>whnf)
    refine(yU f c l1 l3 hok.1 hok.2.1 (by have:=hok.2.2.1;omega) l4).use (rest:=[.box n8 (Fv f.arg f.path),.box n7 (JR (f,c)),.box n5 (gv w us L),.box n4 [.pn,.mn]]++I2 L (pre2++e2::post2) pre2 post2) hs ?_;clear hs;rintro r post Z ⟨rfl,vn',rfl⟩ hs;have hs2:=Di (X:=[.box n8 (Fv f.arg f.path),.box n7 (JR (f,c)),.box n5 (gv w us L),.box n4 [.pn,.mn]]) (e:=e2) (e':=⟨e2.a,e2.p,e2.b,vn',e2.vs,By e2.k f c⟩) rfl rfl rfl hs;clear hs;have hs:=hs2;clear hs2
    conv=>whnf
    repeat'((first|(apply si;intro A B hA hB)|(refine hA _ _ ?_;clear hB B hA A)|(apply U;clear U K)|refine⟨rfl,?_⟩|clear U K)<;>conv=>whnf)
    refine⟨hlt,_,rfl,(hinv2.change e2.b vn' e2.vs (By e2.k f c)).congr fun a p=>?_,hs.less ((OS _ _).trans (OS _ _))⟩;rw[hend,NS,hea,hep,hek,<-hje];by_cases h1:a=f.arg/\p=f.path
    .rw[if_pos h1,if_pos h1,h1.1,h1.2]
    .rw[if_neg h1,if_neg h1]
 .have etk:ls.take k=ls:=BI (by omega)
  rw[etk]at hinv
  conv=>whnf
  repeat'((first|apply st|(apply sq;intro K U)|(apply si;intro A B hA hB)|(refine hA _ _ ?_;clear hB B hA A)|(apply U;clear U K)|refine⟨rfl,?_⟩|refine⟨kZ,?_⟩|refine ld ?_|refine bY fun Z hs=>?_|(refine qG (fun hc=>?_)<;>(try rw[hc])<;>clear hc)|clear U K)<;>conv=>whnf)
  exact AH ⟨Bo L es,⟨L,es,rfl,hinv,rfl⟩,hs.less ((OS _ _).trans (OS _ _))⟩
end Go.Gl
namespace Go.Gl
open Go.Proofs
def XI (w:AG) (us:List Nat) (ls:List Fact) (b:Bool) (h:Nu ls) (hlen:ls.length<900) :
    BO zP 93 [.rp (gW w us),.l (Dx ls) b] [] fun r post=> ∃L es,r= .ret (.a (gv w us L))/\Bv (kg ls) es/\post=Bo L es:=by
 have:=yl w us ls (ls.map Ah) rfl b h hlen;rw[xp]at this;exact this
abbrev fC (L:Nat) (pre post:List B2) (e:B2) (s:List B2):List At:=
 .box e.b [eU e.k.BS,eU e.k.Dt,eI e.k.low,eI e.k.high,e.vn,.b e.k.whole,.b e.k.AZ,e.vs]:: .own e.vn 1 (iL e.k.no)::I2 L (pre++e::(post++s)) pre (post++s)
def HM {Z:AE} {X:List At} {L:Nat} {pre post:List B2} {e:B2} {s:List B2} (h:Sat Z (X++Bo L (pre++e::(post++s)))):Sat Z (.own e.vs 1 (iL e.k.AF)::(X++fC L pre post e s)):=by
 have h2:=JY h;refine h2.perm ((JX _ _ _ _).symm.trans (.cons _ ?_));exact(List.perm_middle.trans (.cons _ List.perm_middle)).symm
def G6 {Z:AE} {X:List At} {L:Nat} {pre post:List B2} {e:B2} {s:List B2} (h:Sat Z (.own e.vs 1 (iL e.k.AF)::(X++fC L pre post e s))):Sat Z (X++Bo L (pre++e::(post++s))):=by
 refine Di (X:=X) (e:=e) (e':=e) rfl rfl rfl ?_;refine h.perm ?_;refine List.Perm.trans (.cons _ (List.perm_middle.trans (.cons _ List.perm_middle))) ?_;exact JX _ _ _ _
def Gz (kf:Int->List Int->Kn) (L:Nat) (es:List B2) (post:List At):Prop:= ∃es',Ko es es'/\Bv kf es'/\post=Bo L es'
def gV (g:List (List Int)):(BX g)[0]? =some 1/\(BX g)[1]? =some 3/\(BX g)[2]? =some 5:=by
 have key: ∀k,(Bm g k)[0]? =some 1/\(Bm g k)[1]? =some 3/\(Bm g k)[2]? =some 5:=fun k=>by
  induction k with
  | zero=>exact⟨rfl,rfl,rfl⟩
  | succ k ih=>
    have hl:=Db g k;rw[Bm,ec (by omega),ec (by omega),ec (by omega)];exact ih
 exact key g.length
attribute [local irreducible] Av An Af AQ AL Ac AP AS AK Ab AN AO As A3 Sat AV A0 Ag W
def qa (w : AG) {kf:Int->List Int->Kn} (hr:EH w kf) {L:Nat} {es:List B2} (h:Bv kf es) {a:Int} {p:List Int} (hp:p.length<=2) :
    BO zP 154 [.a (gv w (BX w.parents) L),CE a p,eI 2] (Bo L es) fun r post=>r= .ret (.b (DT kf a p))/\Gz kf L es post:=by
 intro Z hs;have hM:=Mx;obtain⟨-,hu1,hu2⟩:=gV w.parents;generalize BX w.parents=us at *;refine ib kZ ?_;refine zz ?_;(repeat clear U K);repeat intro K U
 refine(l8 w us h (a:=a) (p:=p) hp).use (rest:=[]) (by simpa using hs) ?_;clear hs;rintro r post Z ⟨es4,e4,got,rfl,rfl⟩ hs;have hek:=got.k;obtain⟨pre,post,rfl⟩:=List.append_of_mem got.mem;rw[FE]at hs;replace hs:=JY (X:=[]) hs;have hok:=hr.ok a p;have hsl:=(hr.ok a p).2.2.2;have hsh:=hr.short a p;rw[<-hek]at hok hsl hsh;have hb1:bits .andNot .u64 (e4.k.BS:Int) ((5:Nat):Int)=((L3 e4.k.BS 5:Nat):Int):=IN;have hb2:bits .and .u64 (e4.k.Dt:Int) ((5:Nat):Int)=((e4.k.Dt&&&5:Nat):Int):=Fs hok.2.1 (by decide);have hb3:=Mz (u:=5) hok.1
 have hP:DT kf a p=(!e4.k.whole&&(Hg e4.k.BS 5&&(e4.k.Dt&&&5==0&&e4.k.AF.all fun s=> !(kf a (p++[s])).AZ))):=by
  rw[DT,Eb,Hv,hek];rfl
 generalize DT kf a p=R at *
 conv=>whnf
 repeat'((first|clear U K|apply st|(apply zk;intro K U)|refine zY ?_|refine za (fun hc=>?_) fun hc=>?_|fail)<;>conv=>whnf)
 .have h2:(e4.k.Dt&&&5==0)=false:=by rw[beq_eq_false_iff_ne];omega
  exact AH ⟨_,⟨by rw[hP,h2];simp,_,got.ext,got.inv,rfl⟩,by simpa using Di (X:=[]) (e:=e4) (e':=e4) rfl rfl rfl hs⟩
 .have h1:Hg e4.k.BS 5=true:=hb3.1 (by omega)
  have h2:(e4.k.Dt&&&5==0)=true:=by rw[C1];omega
  rw[h1,h2,Du,Du]at hP
  have hs1:Sat Z (.own e4.vs 1 (iL e4.k.AF)::fC L pre post e4 []):=by
   have h2:=HM (X:=[]) (L:=L) (pre:=pre) (post:=post) (e:=e4) (s:=[]) (by simpa using Di (X:=[]) (e:=e4) (e':=e4) rfl rfl rfl hs);simpa using h2
  refine Cn e4.k.AF.length (fun k (x:List B2)=>[(49,eI (BR k))]) (fun k x=> .own e4.vs 1 (iL e4.k.AF)::fC L pre post e4 x) (fun k x=>(Bv kf (pre++e4::(post++x))/\ ∀y∈x,y.k=k0)/\R=(!e4.k.whole&&(e4.k.AF.drop k).all fun s=> !(kf a (p++[s])).AZ)) [] rfl ⟨⟨by simpa using got.inv,by simp⟩,hP⟩ hs1 ?_;clear hs hs1 hP;rintro k new Z hk ⟨⟨hinv,hnew⟩,hF⟩ hs;have hck:BR k=k:=Ae (by omega);rcases BK e4.k.AF hk with⟨s,hsk,hlt⟩|hke
  .have hsm:=Cm hsk
   have hp2:p.length<2:=by
    rcases Nat.lt_or_ge p.length 2 with h'|h'
    .exact h'
    .rw[hsh h']at hsm;cases hsm
   rw[drop_cons hsk,Pg]at hF
   conv=>whnf
   repeat'((first|clear U K|apply st|(apply zk;intro K U)|refine zY ?_|refine rk ?_ ?_|exact fun s e=>by cases e;rfl|refine ze fun x hx=>?_|refine Pure.use (MV a p _ hp2) ?_|fail)<;>conv=>whnf)
   obtain rfl:x=s:=by rw[hck,HX,hsk]at hx;exact(Option.some.inj hx).symm
   refine(l8 w us hinv (a:=a) (p:=p++[x]) (by simp;omega)).use (rest:=[]) (by simpa using G6 (X:=[]) (by simpa using hs)) ?_;clear hs;rintro r post' Z ⟨es5,e5,got5,rfl,rfl⟩ hs;have hek5:=congrArg Kn.AZ got5.k;obtain⟨newA,heA,hnA⟩:=got5.ext;obtain⟨pre5,post5,he5⟩:=List.append_of_mem got5.mem;have e7:es5=pre++e4::(post++(new++newA)):=by rw[heA];simp
   have hi7:=got5.inv;rw[e7]at hi7;have hn7: ∀y∈new++newA,y.k=k0:=fun y hy=>(Ds.1 hy).elim (hnew y) (hnA y)
   rw[FE,he5]at hs;replace hs:=JY (X:=[]) hs;cases hnx:(kf a (p++[x])).AZ<;>rw[hnx]at hek5 hF<;>rw[hek5]at hs
   all_goals
    refine zz ?_;(repeat clear U K);repeat intro K U
    have hs3:Sat Z (Bo L (pre++e4::(post++(new++newA)))):=by
     rw[<-hek5]at hs;have h3:=Di (X:=[]) (e:=e5) (e':=e5) rfl rfl rfl hs;rw[<-he5,e7]at h3;exact h3
   .exact⟨hlt,new++newA,rfl,⟨⟨hi7,hn7⟩,by rw[hF];rfl⟩,HM (X:=[]) hs3⟩
   .exact AH ⟨_,⟨by rw[hF];simp,_,got.ext.trans ⟨_,by simp,hn7⟩,hi7,rfl⟩,hs3⟩
  .rw[Au hke,List.all_nil,Bool.and_true]at hF
   conv=>whnf
   repeat'((first|clear U K|apply st|(apply zk;intro K U)|refine zY ?_|(refine zb (fun hc=>?_) (fun hc=>?_)<;>try exact⟨⟩)|fail)<;>conv=>whnf)
   exact AH ⟨_,⟨by rw[hF],_,got.ext.trans ⟨_,by simp,hnew⟩,hinv,rfl⟩,G6 (X:=[]) hs⟩
 .have h1:Hg e4.k.BS 5=false:=by
   rw[<-Bool.not_eq_true,<-hb3];omega
  exact AH ⟨_,⟨by rw[hP,h1];simp,_,got.ext,got.inv,rfl⟩,by simpa using Di (X:=[]) (e:=e4) (e':=e4) rfl rfl rfl hs⟩
def yD (w : AG) {kf:Int->List Int->Kn} (hr:EH w kf) {L:Nat} {es:List B2} (h:Bv kf es) {a:Int} {p:List Int} (hp:p.length<=2) :
    BO zP 154 [.a (gv w (BX w.parents) L),CE a p,eI 1] (Bo L es) fun r post=>r= .ret (.b (Fw kf a p))/\Gz kf L es post:=by
 intro Z hs;have hM:=Mx;obtain⟨-,hu1,hu2⟩:=gV w.parents;generalize BX w.parents=us at *;refine ib kZ ?_;refine zz ?_;(repeat clear U K);repeat intro K U
 refine(l8 w us h (a:=a) (p:=p) hp).use (rest:=[]) (by simpa using hs) ?_;clear hs;rintro r post Z ⟨es4,e4,got,rfl,rfl⟩ hs;have hek:=got.k;obtain⟨pre,post,rfl⟩:=List.append_of_mem got.mem;rw[FE]at hs;replace hs:=JY (X:=[]) hs;have hok:=hr.ok a p;have hsl:=(hr.ok a p).2.2.2;have hsh:=hr.short a p;rw[<-hek]at hok hsl hsh;have hb1:bits .andNot .u64 (e4.k.BS:Int) ((3:Nat):Int)=((L3 e4.k.BS 3:Nat):Int):=IN;have hb2:bits .and .u64 (e4.k.Dt:Int) ((3:Nat):Int)=((e4.k.Dt&&&3:Nat):Int):=Fs hok.2.1 (by decide);have hb3:=Mz (u:=3) hok.1
 have hP:Fw kf a p=(decide (Ef (kf a p)<=e4.k.high)&&(Hg e4.k.BS 3&&(e4.k.Dt&&&3==0&&e4.k.AF.all fun s=> !(kf a (p++[s])).AZ))):=by
  rw[Fw,Eb,Hv,hek];rfl
 generalize Fw kf a p=R at *
 conv=>whnf
 repeat'((first|clear U K|apply st|(apply zk;intro K U)|refine zY ?_|refine za (fun hc=>?_) fun hc=>?_|fail)<;>conv=>whnf)
 .have h2:(e4.k.Dt&&&3==0)=false:=by rw[beq_eq_false_iff_ne];omega
  exact AH ⟨_,⟨by rw[hP,h2];simp,_,got.ext,got.inv,rfl⟩,by simpa using Di (X:=[]) (e:=e4) (e':=e4) rfl rfl rfl hs⟩
 .have h1:Hg e4.k.BS 3=true:=hb3.1 (by omega)
  have h2:(e4.k.Dt&&&3==0)=true:=by rw[C1];omega
  rw[h1,h2,Du,Du]at hP
  have hs1:Sat Z (.own e4.vs 1 (iL e4.k.AF)::fC L pre post e4 []):=by
   have h2:=HM (X:=[]) (L:=L) (pre:=pre) (post:=post) (e:=e4) (s:=[]) (by simpa using Di (X:=[]) (e:=e4) (e':=e4) rfl rfl rfl hs);simpa using h2
  refine Cn e4.k.AF.length (fun k (x:List B2)=>[(49,eI (BR k))]) (fun k x=> .own e4.vs 1 (iL e4.k.AF)::fC L pre post e4 x) (fun k x=>(Bv kf (pre++e4::(post++x))/\ ∀y∈x,y.k=k0)/\R=(decide (Ef (kf a p)<=e4.k.high)&&(e4.k.AF.drop k).all fun s=> !(kf a (p++[s])).AZ)) [] rfl ⟨⟨by simpa using got.inv,by simp⟩,hP⟩ hs1 ?_;clear hs hs1 hP;rintro k new Z hk ⟨⟨hinv,hnew⟩,hF⟩ hs;have hck:BR k=k:=Ae (by omega);rcases BK e4.k.AF hk with⟨s,hsk,hlt⟩|hke
  .have hsm:=Cm hsk
   have hp2:p.length<2:=by
    rcases Nat.lt_or_ge p.length 2 with h'|h'
    .exact h'
    .rw[hsh h']at hsm;cases hsm
   rw[drop_cons hsk,Pg]at hF
   conv=>whnf
   repeat'((first|clear U K|apply st|(apply zk;intro K U)|refine zY ?_|refine rk ?_ ?_|exact fun s e=>by cases e;rfl|refine ze fun x hx=>?_|refine Pure.use (MV a p _ hp2) ?_|fail)<;>conv=>whnf)
   obtain rfl:x=s:=by rw[hck,HX,hsk]at hx;exact(Option.some.inj hx).symm
   refine(l8 w us hinv (a:=a) (p:=p++[x]) (by simp;omega)).use (rest:=[]) (by simpa using G6 (X:=[]) (by simpa using hs)) ?_;clear hs;rintro r post' Z ⟨es5,e5,got5,rfl,rfl⟩ hs;have hek5:=congrArg Kn.AZ got5.k;obtain⟨newA,heA,hnA⟩:=got5.ext;obtain⟨pre5,post5,he5⟩:=List.append_of_mem got5.mem;have e7:es5=pre++e4::(post++(new++newA)):=by rw[heA];simp
   have hi7:=got5.inv;rw[e7]at hi7;have hn7: ∀y∈new++newA,y.k=k0:=fun y hy=>(Ds.1 hy).elim (hnew y) (hnA y)
   rw[FE,he5]at hs;replace hs:=JY (X:=[]) hs;cases hnx:(kf a (p++[x])).AZ<;>rw[hnx]at hek5 hF<;>rw[hek5]at hs
   all_goals
    refine zz ?_;(repeat clear U K);repeat intro K U
    have hs3:Sat Z (Bo L (pre++e4::(post++(new++newA)))):=by
     rw[<-hek5]at hs;have h3:=Di (X:=[]) (e:=e5) (e':=e5) rfl rfl rfl hs;rw[<-he5,e7]at h3;exact h3
   .exact⟨hlt,new++newA,rfl,⟨⟨hi7,hn7⟩,by rw[hF];rfl⟩,HM (X:=[]) hs3⟩
   .exact AH ⟨_,⟨by rw[hF];simp,_,got.ext.trans ⟨_,by simp,hn7⟩,hi7,rfl⟩,hs3⟩
  .rw[Au hke,List.all_nil,Bool.and_true]at hF
   have hlo:=hr.low a p;rw[<-hek]at hlo;have hno:=hok.2.2.1;have hle:=Ui e4.k.no e4.k.low;have hL:Ef (kf a p)=Gs e4.k.no (from_ e4.k.no e4.k.low) e4.k.low:=by rw[Ef,<-hek];exact Pe hle (IS _)
   conv=>whnf
   repeat'((first|clear U K|apply st|(apply zk;intro K U)|refine zY ?_|(refine zb (fun hc=>?_) (fun hc=>?_)<;>try exact⟨⟩)|fail)<;>conv=>whnf)
   refine GU (fun n:Int=>from_ e4.k.no n) (fun n=>[(10,eI n)]) (fun _=> .own e4.vs 1 (iL e4.k.AF)::fC L pre post e4 new) (fun n=> -1000000000<=n/\n+from_ e4.k.no n<=1000001000/\Ef (kf a p)=Gs e4.k.no (from_ e4.k.no n) n) e4.k.low rfl ⟨by omega,by omega,hL⟩ hs ?_;clear hs hL hle;rintro n Z ⟨hn0,hn1,hL⟩ hs;have hct2:=fun b=>Cl e4.k.no b n
   cases hcB:e4.k.no.contains n<;>rw[hcB]at hct2
   .have hout:n∉e4.k.no:=by simpa using hcB
    rw[bP hout]at hL;rw[hL]at hF
    conv=>whnf
    repeat'((first|clear U K|apply st|(apply zk;intro K U)|refine zY ?_|refine Pure.Rv (hct2 false) (.cons (hs.Ha 2 rfl) (.cons (.refl _) .nil)) rfl ?_|fail)<;>conv=>whnf)
    all_goals exact AH ⟨_,⟨by rw[hF],_,got.ext.trans ⟨_,by simp,hnew⟩,hinv,rfl⟩,G6 (X:=[]) hs⟩
   .have hin:n∈e4.k.no:=by simpa using hcB
    have hlt:=PZ hin;have hwr:IntKind.i64.wrap (n+1)=n+1:=wrap64 (by omega) (by omega);obtain⟨m,hm⟩: ∃m,from_ e4.k.no n=m+1:=⟨from_ e4.k.no n - 1,by omega⟩
    have hL2:Ef (kf a p)=Gs e4.k.no (from_ e4.k.no (n+1)) (n+1):=by rw[hL,hm,jA hin];exact Pe (by omega) (IS _)
    conv=>whnf
    repeat'((first|clear U K|apply st|(apply zk;intro K U)|refine zY ?_|refine Pure.Rv (hct2 false) (.cons (hs.Ha 2 rfl) (.cons (.refl _) .nil)) rfl ?_|fail)<;>conv=>whnf)
    exact⟨n+1,hlt,by rw[hwr];rfl,⟨by omega,by omega,hL2⟩,hs⟩
 .have h1:Hg e4.k.BS 3=false:=by
   rw[<-Bool.not_eq_true,<-hb3];omega
  exact AH ⟨_,⟨by rw[hP,h1];simp,_,got.ext,got.inv,rfl⟩,by simpa using Di (X:=[]) (e:=e4) (e':=e4) rfl rfl rfl hs⟩
end Go.Gl
