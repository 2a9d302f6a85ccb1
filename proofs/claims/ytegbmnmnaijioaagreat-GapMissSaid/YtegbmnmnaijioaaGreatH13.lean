import Derived.Test.YtegbmnmnaijioaaGreatRows
import Derived.HandedShaped
import Derived.Test.YtegbmnmnaijioaaGreatH6
import Derived.Test.YtegbmnmnaijioaaGreatH8
import Derived.Test.YtegbmnmnaijioaaGreatH9
import Derived.Test.YtegbmnmnaijioaaGreatH10
import Derived.Test.YtegbmnmnaijioaaGreatH11
import Derived.Test.YtegbmnmnaijioaaGreatH12
set_option linter.all false
set_option linter.defProp false
noncomputable section
namespace Go.Gl
open Go.Proofs
attribute [local irreducible] A7 Ap Af AT AM Ae AS AU AL Ad AO AP Aw A1 Sat AX Az Ah W
def Bz (lA:Int) (v:Int×Int):Bool:=
 if v.1=1 then decide (-1000000000≤v.2)&&decide (v.2≤1000000000)else if v.1=2 then v.2==0 else if v.1=3 then decide (0≤v.2)&&decide (v.2<lA)else false
def lM (v:Int×Int) (n:Int):Pure Tryz.prog 169 [.a (pI v),eI n] (.b (Bz n v)):=by
 obtain⟨k,x⟩:=v;refine uj kZ ?_;have hs:=Sn
 conv=>whnf
 repeat'((first|apply st|(apply sq;intro K U)|(apply si;intro A B Y Z)|(apply Y;clear Z B Y A)|(apply U;clear U K)|refine⟨rfl,?_⟩|(constructor<;>intro hc<;>(try rw[hc])<;>(replace hc:=bp hc)<;>(try simp(disch:=omega) only[BT,wrap64,AN]at hc))|clear U K)<;>conv=>whnf)
 all_goals exact AI (by simp[Bz, *]<;>omega)
def w7 (v:Int×Int) (n:Int):Pure Tryz.prog 165 [.a (pI v),eI n] (.b (Bz n v)):=by
 obtain⟨k,x⟩:=v;refine uq kZ ?_;have hs:=Sn
 conv=>whnf
 repeat'((first|apply st|(apply sq;intro K U)|(apply si;intro A B Y Z)|(apply Y;clear Z B Y A)|(apply U;clear U K)|refine⟨rfl,?_⟩|(constructor<;>intro hc<;>(try rw[hc])<;>(replace hc:=bp hc)<;>(try simp(disch:=omega) only[BT,wrap64,AN]at hc))|clear U K)<;>conv=>whnf)
 all_goals exact AI (by simp[Bz, *]<;>omega)
def fL (l:List (Int×Int)) (f:Bool) (n:Int):Pure Tryz.prog 113 [.l (pP l) f,eI n] (.b (l.all (Bz n))):=by
 refine Pure.fit (by kernel_rfl) fun hf=>?_
 have hl:l.length≤Aj:=by
  have:=hf.1;simp only[FY,BT]at this;exact this.1
 have hM:=Mx;refine vM kZ ?_;have hs:=Sn
 conv=>whnf
 repeat'((first|apply st|(apply sq;intro K U)|(apply si;intro A B Y Z)|(apply Y;clear Z B Y A)|(apply U;clear U K)|fail)<;>conv=>whnf)
 refine C3 l.length (fun k (_:Unit)=>[(9,eI (Bc k))]) (fun _ _=>[]) (fun k _=>l.all (Bz n)=(l.drop k).all (Bz n)) () rfl rfl hs ?_;clear hs;rintro k - σ hk hn hs;rcases BU l hk with⟨x,hx,hlt⟩|hke
 ·have c1:=w7 x n
  rw[drop_cons hx,SZ]at hn;cases hv:Bz n x<;>rw[hv]at c1 hn
  ·conv=>whnf
   repeat'((first|apply st|(apply sq;intro K U)|(apply si;intro A B Y Z)|(apply Y;clear Z B Y A)|(apply U;clear U K)|refine⟨rfl,?_⟩|refine⟨kZ,?_⟩|refine ix ?_|refine ld ?_|refine Cg fun σ hs=>?_|refine Iw ?_|(refine DR (fun hc=>?_)<;>(try rw[hc])<;>clear hc)|refine c1.use ?_|(intro nn hnn;generalize hg:A5 _ nn _=σ;refine CN hg fun hs=>?_;clear hg)|clear U K)<;>conv=>whnf)
   exact AI (by rw[hn];rfl)
  ·conv=>whnf
   repeat'((first|apply st|(apply sq;intro K U)|(apply si;intro A B Y Z)|(apply Y;clear Z B Y A)|(apply U;clear U K)|refine⟨rfl,?_⟩|refine⟨kZ,?_⟩|refine ix ?_|refine ld ?_|refine Cg fun σ hs=>?_|refine GS ?_|(refine DR (fun hc=>?_)<;>(try rw[hc])<;>clear hc)|refine c1.use ?_|(intro nn hnn;generalize hg:A5 _ nn _=σ;refine CN hg fun hs=>?_;clear hg)|clear U K)<;>conv=>whnf)
   exact⟨hlt,(),rfl,hn,hs.less (MJ _)⟩
 ·conv=>whnf
  repeat'((first|apply st|(apply sq;intro K U)|(apply si;intro A B Y Z)|(apply Y;clear Z B Y A)|(apply U;clear U K)|refine⟨rfl,?_⟩|(refine Ew (fun hc=>?_)<;>(try rw[hc])<;>clear hc)|clear U K)<;>conv=>whnf)
  exact AI (by rw[hn,Au hke];rfl)
def Sf (w:AJ) (c:Int):Bool:=decide (3≤c)&&decide (c<3+(w.parents.length:Int))
def C5 (w:AJ) (c:Int):List Int:=(Bk w.owner.length).filter (hasB w c)
abbrev Ob:=Int×List (Int×Int)
abbrev Gu (o:Ob):List V:=[eI o.1,.l (pP o.2) false]
def MR (w:AJ) (n:Int) (o:Ob):Bool:=Sf w o.1&&(o.2.length==(C5 w o.1).length&&o.2.all (Bz n))
def Fs (w:AJ) (os:List Ob):Bool:=decide (os.length≤40)&&os.all (MR w os.length)
def xI (w:AJ) (c:Int) (hw:It w):Pure Tryz.prog 163 [.a (BC w),eI c] (.b (Sf w c)):=by
 have hl:=hw.len;have hw3:IntKind.i64.wrap (3+(w.parents.length:Int))=3+w.parents.length:=wrap64 (by omega) (by omega);refine uu kZ ?_;have hs:=Sn
 conv=>whnf
 repeat'((first|apply st|(apply sq;intro K U)|(apply si;intro A B Y Z)|(apply Y;clear Z B Y A)|(apply U;clear U K)|refine⟨rfl,?_⟩|(constructor<;>intro hc<;>(try rw[hc])<;>(replace hc:=bp hc))|fail)<;>conv=>whnf)
 all_goals try rw[hw3]at hc
 all_goals exact AI (by simp only[hw3,Sf];simp[*]<;>omega)
def lT (w:AJ) (c:Int) (hw:It w) (hc0:0≤c) (hc1:c<3+w.parents.length):Pure Tryz.prog 164 [.a (BC w),eI c] (.l (iL (C5 w c)) false):=by
 have hM:=Mx;have hol:=hw.qE;refine ur kZ ?_;have hs:=Sn
 conv=>whnf
 repeat'((first|apply st|(apply sq;intro K U)|(apply si;intro A B Y Z)|(apply Y;clear Z B Y A)|(apply U;clear U K)|fail)<;>conv=>whnf)
 refine C3 w.owner.length (fun k v=>[(5,v),(10,eI (Bc k))]) (fun k v=>[.own v 1 (iL ((Bk k).filter (hasB w c)))]) (fun _ _=>True) (.l [] true) rfl trivial (GV Sat.nil 1) ?_;clear hs;rintro k v σ hk - hs;have hfl:=Q7 (hasB w c) (Bk k);rw[IJ]at hfl;rcases BU w.owner hk with⟨s,hso,hlt⟩|hke
 ·have hck:Bc k=k:=AN (by omega)
  have c1:Pure Tryz.prog 234 [.a (BC w),eI c,eI (Bc k)] (.b (hasB w c k)):=by rw[hck];exact gB w c k hw hc0 hc1 (by omega) (by omega)
  have hst:(Bk (k+1)).filter (hasB w c)=if hasB w c k then(Bk k).filter (hasB w c)++[(k:Int)]else(Bk k).filter (hasB w c):=by
   rw[G5,List.filter_append];cases hp:hasB w c k<;>simp[hp]
  generalize (Bk k).filter (hasB w c)=zs at *;have hll:zs.length<Aj∧(zs.length+1)*8≤140737488355328:=by omega
  cases hh:hasB w c k<;>rw[hh]at c1 hst
  ·conv=>whnf
   repeat'((first|apply st|(apply sq;intro K U)|(apply si;intro A B Y Z)|(apply Y;clear Z B Y A)|(apply U;clear U K)|refine⟨rfl,?_⟩|refine⟨kZ,?_⟩|(refine DR (fun hc=>?_)<;>(try rw[hc])<;>clear hc)|refine c1.use ?_|clear U K)<;>conv=>whnf)
   exact⟨hlt,_,rfl,trivial,by rw[hst];exact hs⟩
  ·conv=>whnf
   repeat'((first|apply st|(apply sq;intro K U)|(apply si;intro A B Y Z)|(apply Y;clear Z B Y A)|(apply U;clear U K)|refine⟨rfl,?_⟩|refine⟨kZ,?_⟩|refine aq fun v σ hs hsl=>?_|(refine DR (fun hc=>?_)<;>(try rw[hc])<;>clear hc)|refine c1.use ?_|clear U K)<;>conv=>whnf)
   exact⟨hlt,_,rfl,trivial,by rw[hst,←hck];exact hs⟩
 ·rw[hke]at hs
  conv=>whnf
  repeat'((first|apply st|(apply sq;intro K U)|(apply si;intro A B Y Z)|(apply Y;clear Z B Y A)|(apply U;clear U K)|refine⟨rfl,?_⟩|(refine Ew (fun hc=>?_)<;>(try rw[hc])<;>clear hc)|clear U K)<;>conv=>whnf)
  exact A8 (hs.IV 0 rfl)
set_option maxHeartbeats 1000000 in
def rG (w : AJ) (os:List Ob) (f:Bool) (hw:It w):Pure Tryz.prog 112 [.a (BC w),.l (os.map Gu) f] (.b (Fs w os)):=by
 refine Pure.fit (by kernel_rfl) fun hf=>?_
 have hM:=Mx
 have hol:os.length≤Aj:=by
  have:=hf.2.1;simp only[FY,BT]at this;exact this.1
 refine vN kZ ?_;have hs:=Sn;by_cases h40:os.length≤40
 ·have e0 : Fs w os=os.all (MR w os.length):=by rw[Fs,decide_eq_true h40,EW]
  rw[e0]
  conv=>whnf
  repeat'((first|apply st|(apply sq;intro K U)|(apply si;intro A B Y Z)|(apply Y;clear Z B Y A)|(apply U;clear U K)|refine⟨rfl,?_⟩|(constructor<;>intro hc<;>(try rw[hc])<;>(replace hc:=bp hc)<;>(try simp(disch:=omega) only[BT,wrap64,AN]at hc)<;>try(exfalso;omega))|fail)<;>conv=>whnf)
  refine C3 os.length (fun k (_:Unit)=>[(12,eI (Bc k))]) (fun _ _=>[]) (fun k _=>os.all (MR w os.length)=(os.drop k).all (MR w os.length)) () rfl rfl hs ?_;clear hs;rintro k - σ hk hn hs;rcases BU os hk with⟨x,hx,hlt⟩|hke
  ·rw [drop_cons hx,SZ]at hn
   have c1:=xI w x.1 hw;cases ho:Sf w x.1<;>rw[ho]at c1
   ·conv=>whnf
    repeat'((first|apply st|(apply sq;intro K U)|(apply si;intro A B Y Z)|(apply Y;clear Z B Y A)|(apply U;clear U K)|apply dr|refine rk ?_ ?_|exact fun s e=>by cases e;rfl|refine⟨rfl,?_⟩|refine⟨kZ,?_⟩|refine ix ?_|refine ld ?_|refine Cg fun σ hs=>?_|refine ec ?_|(refine DR (fun hc=>?_)<;>(try rw[hc])<;>clear hc)|refine c1.use ?_|(intro nn hnn;generalize hg:A5 _ nn _=σ;refine CN hg fun hs=>?_;clear hg)|clear U K)<;>conv=>whnf)
    all_goals exact AI (by rw[hn,MR,ho];rfl)
   ·have ho':=ho
    simp only[Sf,A9,Cf]at ho';have c2:=lT w x.1 hw (by omega) (by omega);have e3:((os.map Gu).length:Int)=os.length:=by simp
    have c3:Pure Tryz.prog 113 [.l (pP x.2) false,eI ((os.map Gu).length:Int)] (.b (x.2.all (Bz os.length))):=by rw[e3];exact fL x.2 false os.length
    have hob:MR w os.length x=(x.2.length==(C5 w x.1).length&&x.2.all (Bz os.length)):=by rw[MR,ho,EW]
    rw[hob]at hn;by_cases he:x.2.length=(C5 w x.1).length
    ·rw [DK.2 he,EW]at hn
     cases hv:x.2.all (Bz os.length)<;>rw[hv]at c3 hn
     ·conv=>whnf
      repeat'((first|apply st|(apply sq;intro K U)|(apply si;intro A B Y Z)|(apply Y;clear Z B Y A)|(apply U;clear U K)|apply dr|refine rk ?_ ?_|exact fun s e=>by cases e;rfl|refine⟨rfl,?_⟩|refine⟨kZ,?_⟩|refine ix ?_|refine ld ?_|refine Cg fun σ hs=>?_|refine Iw ?_|refine Ol ?_|(refine DR (fun hc=>?_)<;>(try rw[hc])<;>clear hc)|refine c1.use ?_|refine c2.use ?_|refine c3.use ?_|(constructor<;>intro hc<;>(try rw[hc])<;>(replace hc:=bp hc)<;>(try simp(disch:=omega) only[BT,wrap64,AN]at hc))|(intro nn hnn;generalize hg:A5 _ nn _=σ;refine CN hg fun hs=>?_;clear hg)|clear U K)<;>conv=>whnf)
      all_goals first
       | exact AI (by rw[hn];rfl)
       | (exfalso;simp[he]at hc;done)
     ·conv=>whnf
      repeat'((first|apply st|(apply sq;intro K U)|(apply si;intro A B Y Z)|(apply Y;clear Z B Y A)|(apply U;clear U K)|apply dr|refine rk ?_ ?_|exact fun s e=>by cases e;rfl|refine⟨rfl,?_⟩|refine⟨kZ,?_⟩|refine ix ?_|refine ld ?_|refine Cg fun σ hs=>?_|refine GS ?_|refine Ol ?_|(refine DR (fun hc=>?_)<;>(try rw[hc])<;>clear hc)|refine c1.use ?_|refine c2.use ?_|refine c3.use ?_|(constructor<;>intro hc<;>(try rw[hc])<;>(replace hc:=bp hc)<;>(try simp(disch:=omega) only[BT,wrap64,AN]at hc))|(intro nn hnn;generalize hg:A5 _ nn _=σ;refine CN hg fun hs=>?_;clear hg)|clear U K)<;>conv=>whnf)
      all_goals first
       | exact⟨hlt,(),rfl,hn,hs.less (MJ _)⟩
       | (exfalso;simp[he]at hc;done)
    ·rw[beq_eq_false_iff_ne.2 he,Bool.false_and,Bool.false_and]at hn
     cases hv:x.2.all (Bz os.length)<;>rw[hv]at c3
     all_goals
      conv=>whnf
      repeat'((first|apply st|(apply sq;intro K U)|(apply si;intro A B Y Z)|(apply Y;clear Z B Y A)|(apply U;clear U K)|apply dr|refine rk ?_ ?_|exact fun s e=>by cases e;rfl|refine⟨rfl,?_⟩|refine⟨kZ,?_⟩|refine ix ?_|refine ld ?_|refine Cg fun σ hs=>?_|refine Iw ?_|refine GS ?_|refine Ol ?_|(refine DR (fun hc=>?_)<;>(try rw[hc])<;>clear hc)|refine c1.use ?_|refine c2.use ?_|refine c3.use ?_|(constructor<;>intro hc<;>(try rw[hc])<;>(replace hc:=bp hc)<;>(try simp(disch:=omega) only[BT,wrap64,AN]at hc))|(intro nn hnn;generalize hg:A5 _ nn _=σ;refine CN hg fun hs=>?_;clear hg)|clear U K)<;>conv=>whnf)
     all_goals first
      | exact AI (by rw[hn])
      | (exfalso;have q:(bif !true then true else(x.2.length:Int) != ((C5 w x.1).length:Int))=false:=(by assumption);simp at q;omega)
      | (exfalso;simp at hc;omega)
  ·conv=>whnf
   repeat'((first|apply st|(apply sq;intro K U)|(apply si;intro A B Y Z)|(apply Y;clear Z B Y A)|(apply U;clear U K)|refine⟨rfl,?_⟩|(refine Ew (fun hc=>?_)<;>(try rw[hc])<;>clear hc)|clear U K)<;>conv=>whnf)
   exact AI (by rw[hn,Au hke];rfl)
 ·conv=>whnf
  repeat'((first|apply st|(apply sq;intro K U)|(apply si;intro A B Y Z)|(apply Y;clear Z B Y A)|(apply U;clear U K)|refine⟨rfl,?_⟩|(constructor<;>intro hc<;>(try rw[hc])<;>(replace hc:=bp hc)<;>(try simp(disch:=omega) only[BT,wrap64,AN]at hc)<;>try(exfalso;omega))|clear U K)<;>conv=>whnf)
  exact AI (by rw[Fs,decide_eq_false h40];rfl)
end Go.Gl
namespace Go.Gl
open Go.Proofs
section
variable {H:Type} {enc:TypeId×Value→H} {W:World}
def xC:Qr enc Tryz.prog W 169 pI:=fun n=>
 GH (Er Tryz.underlying169
  (fun n=>BK (c:=1) rfl (by kernel_rfl) (fun _=>rfl) (O8 Tryz.underlying167 n) (BK (c:=1) rfl (by kernel_rfl) (fun _=>rfl) (K5 n) GI)) (fun _=>(show _=2 from rfl).trans (by kernel_rfl)) n) (fun x=>(x.1,x.2.1)) fun _=>rfl
def fX:Qr enc Tryz.prog W 74 fun l:List (Int×Int)=>[V.l (pP l) false]:=Gc (sz:=2) Tryz.underlying74 (by kernel_rfl) (by decide) (b8 (by kernel_rfl)) (fun _=>rfl) xC
def yz:Qr enc Tryz.prog W 227 Gu:=fun n=>
 GH (Er Tryz.underlying227
  (fun n=>BK (c:=1) rfl (by kernel_rfl) (fun _=>rfl) (K5 n) (BK (c:=1) rfl (by kernel_rfl) (fun _=>rfl) (fX n) GI)) (fun _=>(show _=2 from rfl).trans (by kernel_rfl)) n) (fun x=>(x.1,x.2.1)) fun _=>rfl
def xD:Qr enc Tryz.prog W 73 fun l:List Ob=>[V.l (l.map Gu) false]:=Gc (sz:=2) Tryz.underlying73 (by kernel_rfl) (by decide) (b8 (by kernel_rfl)) (fun _=>rfl) yz
end
section
variable {H:Type} {enc:TypeId×Value→H} {W:World}
end
end Go.Gl
namespace Go.Proofs.YtegbmnmnaijioaaGreat
open Go.Gl Go.ChangeShapes Go.WideShapes Go.ChangeAt Go.RowKit
theorem own:ownKnob Tryz.prog.godebug=none:=by kernel_rfl
def laidOut:laidOutB Tryz.prog=true:=by kernel_rfl
def Ez {a b:Bool} (h1:a=true) (h2:b=true):(a&&b)=true:=by rw[h1,h2];rfl
abbrev HE (w:World):=Hh (fun _=>False) emp w
end Go.Proofs.YtegbmnmnaijioaaGreat
namespace Go.Gl
open Go.Proofs
attribute [local irreducible] A7 Ap Af AT AM Ae AS AU AL Ad AO AP Aw A1 Sat AX Az Ah W
def jY (g:FuncId) (fi ca:List V) (q:Int→Bool) (xs:List Int) (hpf: ∀y∈xs,Pure Tryz.prog g (fi++[eI y]++ca) (.b (q y))) (f:Bool) (hxl:xs.length≤1000):Pure Tryz.prog 170 [.l (iL xs) f,.f (.func g) fi ca] (.l (iL (xs.filter q)) true):=by
 refine Pure.of ?_;have hM:=Mx;refine ui kZ ?_;have hs:=Sn
 conv=>whnf
 repeat'((first|apply st|(apply sq;intro K U)|(apply si;intro A B Y Z)|(apply Y;clear Z B Y A)|(apply U;clear U K)|fail)<;>conv=>whnf)
 refine C3 xs.length (fun k v=>[(5,v),(10,eI (Bc k))]) (fun k v=>[.own v 1 (iL ((xs.take k).filter q))]) (fun _ _=>True) (.l [] true) rfl trivial (GV hs 1) ?_;clear hs;rintro k v σ hk - hs;have hfl:=Q7 q (xs.take k);rw[Ny]at hfl;rcases BU xs hk with⟨y,hy,hlt⟩|hke
 ·have hpy:=hpf y (DL hy)
  have hst:(xs.take (k+1)).filter q=if q y then(xs.take k).filter q++[y]else(xs.take k).filter q:=by
   rw[Aa hy,List.filter_append];cases hp:q y<;>simp[hp]
  generalize (xs.take k).filter q=zs at *;have hll:zs.length<Aj∧(zs.length+1)*8≤140737488355328:=by omega
  conv=>whnf
  repeat'((first|apply st|(apply sq;intro K U)|(apply si;intro A B Y Z)|(apply Y;clear Z B Y A)|(apply U;clear U K)|refine⟨rfl,?_⟩|refine ix ?_|refine aq fun v σ hs hsl=>?_|(refine DR (fun hc=>?_)<;>(try rw[hc])<;>clear hc)|refine Bg (hpy.use ?_)|(constructor<;>intro hc<;>(try rw[hc])<;>(replace hc:=bp hc))|clear U K)<;>conv=>whnf)
  ·rw[if_pos (by assumption)]at hst
   exact⟨hlt,_,rfl,trivial,by rw[hst];exact hs⟩
  ·rw[if_neg (by simp[*])]at hst
   exact⟨hlt,_,rfl,trivial,by rw[hst];exact hs⟩
 ·rw[BI hke]at hs
  conv=>whnf
  repeat'((first|apply st|(apply sq;intro K U)|(apply si;intro A B Y Z)|(apply Y;clear Z B Y A)|(apply U;clear U K)|refine⟨rfl,?_⟩|(refine Ew (fun hc=>?_)<;>(try rw[hc])<;>clear hc)|clear U K)<;>conv=>whnf)
  refine(gi (xs.filter q) v (by have:=Q7 q xs;omega)).use (rest:=[]) (by simpa using hs) ?_;clear hs;rintro r post σ ⟨rfl,rfl⟩ hs
  conv=>whnf
  repeat'((first|apply st|(apply Y;clear Z B Y A)|(apply U;clear U K)|fail)<;>conv=>whnf)
  exact AW (by rfl)
end Go.Gl
namespace Go.Gl
open Go.Proofs
attribute [local irreducible] A7 Ap Af AT AM Ae AS AU AL Ad AO AP Aw A1 Sat AX Az Ah W
end Go.Gl
namespace Go.Gl
open Go.Proofs
inductive Hs where
 | int (n:Int)
 | UF
 | obj (AF:Nat→Bool) (kid:Int→Hs)
def Fo (w:AJ):Hs→Prop
 | .int n=> -1000000000≤n∧n≤1000000000
 | .UF=>True
 | .obj AF kid=>(∀c,3≤c→AF c=true→ ∀q∈par w.parents c,AF q.toNat=true)∧ ∀s,Fo w (kid s)
def Fu (t:Hs) (f:Fact):Bool:=match t with
 | .int n=>if f.op=2 then !decide (f.cls > 1)else if f.op=3 then decide (n<f.n)else decide (n=f.n)
 | .UF=>f.op==2&&(f.cls==0||f.cls==2)
 | .obj AF _=>f.op==2&&(f.cls==0||(decide (3≤f.cls)&&AF f.cls.toNat))
def Qk (w:AJ):Hs→List Int→Fact→Bool
 | t,[],f=>Fu t f
 | .obj AF kid,s::r,f=>AF (CZ w s).toNat&&Qk w (kid s) r f
 | _,_::_,_=>false
structure Iq (w:AJ) (l:Fact):Prop where
 op:(BA l).1.op=2∨(BA l).1.op=3∨(BA l).1.op=4
 cls:(BA l).1.op=2→0≤(BA l).1.cls∧(BA l).1.cls<3+w.parents.length
 arg:0≤(BA l).1.arg∧(BA l).1.arg<3
 path: ∀s∈(BA l).1.path,(0:Int)≤s∧s<w.owner.length
 short:(BA l).1.path.length≤2
def Zp {w:AJ} {l:Fact} (h:Ir w l):Iq w l:=by
 obtain⟨-,hn,hl⟩:=Hg h;have hlo:=GK hl;have q:=Lo (w:=w) (l:=[l]) (fun x hx=>by rw[Nx.1 hx];exact h);rw[Bs,A9]at hn;have hn:=hn.1;simp only[Cq,A9,Cf]at hn;obtain⟨ho,-,ha1,ha2,hp,-⟩:=hn;simp only[EH,A9,Ev,HT,Cf]at hp;exact⟨hlo,q.2.1 l (.head _),⟨ha1,ha2⟩,fun s hs=>hp.1 s hs,hp.2⟩
def pt (t:Int×Int×List Int) (m:Int):Prop:=t.1≤m∧m≤t.2.1∧m∉t.2.2
def bY {w:AJ} {l:Fact} (hl:Iq w l) (t:Int×Int×List Int) (m:Int):(∃t',Ur (BA l) t=some t'∧pt t' m)↔pt t m∧Fu (.int m) (BA l).1= !(BA l).2:=by
 have h1:=hl.op;generalize BA l=x at *;obtain⟨f,b⟩:=x;obtain⟨lo,hi,no⟩:=t;simp only[Ur,pt,Fu]at *;rcases h1 with h|h|h
 ·rw[if_pos h,if_pos h]
  by_cases hc:f.cls > 1<;>cases b<;>simp[hc]
 ·have h2: ¬f.op=2:=by omega
  rw[if_neg h2,if_pos h,if_neg h2,if_pos h];cases b
  ·simp only[ML,if_false,IU,exists_eq_left',Bool.not_false,Cf]
   split<;>constructor<;>rintro⟨h3,h4⟩
   ·exact⟨⟨h3,by omega,h4.2⟩,by omega⟩
   ·exact⟨h3.1,by omega,h3.2.2⟩
   ·exact⟨⟨h3,h4⟩,by omega⟩
   ·exact h3
  ·simp only[if_true,IU,exists_eq_left',Bool.not_true,decide_eq_false_iff_not]
   split<;>constructor<;>rintro⟨h3,h4⟩
   ·exact⟨⟨by omega,h4⟩,by omega⟩
   ·exact⟨by omega,h3.2⟩
   ·exact⟨⟨h3,h4⟩,by omega⟩
   ·exact h3
 ·have h2: ¬f.op=2:=by omega
  have h3: ¬f.op=3:=by omega
  rw[if_neg h2,if_neg h3,if_neg h2,if_neg h3];cases b
  ·simp only[ML,if_false,IU,exists_eq_left',Bool.not_false,Cf]
   constructor
   ·rintro⟨h3,h4,h5⟩
    split at h3<;>split at h4<;>exact⟨⟨by omega,by omega,h5⟩,by omega⟩
   ·rintro⟨⟨h3,h4,h5⟩,rfl⟩
    refine⟨?_,?_,h5⟩
    ·split<;>omega
    ·split<;>omega
  ·simp only[if_true,IU,exists_eq_left',Bool.not_true,decide_eq_false_iff_not,FK,Nx,not_or]
   constructor
   ·rintro⟨h3,h4,h5,h6⟩
    exact⟨⟨h3,h4,h5⟩,h6⟩
   ·rintro⟨⟨h3,h4,h5⟩,h6⟩
    exact⟨h3,h4,h5,h6⟩
def Jl {w:AJ} (m:Int): ∀(os:List Fact) (t:Int×Int×List Int),(∀l∈os,Iq w l)→((∃t',foldI os t=some t'∧pt t' m)↔pt t m∧ ∀l∈os,Fu (.int m) (BA l).1= !(BA l).2)
 | [],t,_=>by simp[foldI]
 | x ::r,t,h=>by
   have h1:=bY (h x (.head _)) t m;constructor
   ·rintro⟨t',h2,h3⟩
    rw[foldI,Option.bind_eq_some_iff]at h2;obtain⟨u,h4,h5⟩:=h2;obtain⟨h6,h7⟩:=(Jl m r u fun l hl=>h l (.tail _ hl)).1 ⟨t',h5,h3⟩;obtain⟨h8,h9⟩:=h1.1 ⟨u,h4,h6⟩;refine⟨h8,fun l hl=>?_⟩;rcases F7.1 hl with rfl|hl
    ·exact h9
    ·exact h7 l hl
   ·rintro⟨h2,h3⟩
    obtain⟨u,h4,h5⟩:=h1.2 ⟨h2,h3 x (.head _)⟩;obtain⟨t',h6,h7⟩:=(Jl m r u fun l hl=>h l (.tail _ hl)).2 ⟨h5,fun l hl=>h3 l (.tail _ hl)⟩;exact⟨t',by rw[foldI,h4];exact h6,h7⟩
def RZ (t:Int×Int×List Int):(Us t).isSome=true↔ ∃m,pt t m:=by
 obtain⟨lo,hi,no⟩:=t;rw[Us,Mv];constructor
 ·rintro⟨j,h1,h2⟩
  exact⟨lo+j,by simp only[pt]at *;omega,by simp only[]at *;omega,h2⟩
 ·rintro⟨m,h1,h2,h3⟩
  dsimp only at h1 h2 h3 ⊢;exact⟨(m - lo).toNat,by omega,by rw[show lo+((m - lo).toNat:Int)=m by omega];exact h3⟩
def H9 {a:Int} {p:List Int} {l:Fact}:NN a p l=true↔(BA l).1.arg=a∧(BA l).1.path=p:=by
 rw[NN,A9,DK,DK]
def jO {w:AJ} {ls:List Fact} (hl: ∀l∈ls,Iq w l) (a:Int) (p:List Int):(Ud ls a p).isSome=true↔ ∃m,(-1000000000≤m∧m≤1000000000)∧ ∀l∈ls,(BA l).1.arg=a→(BA l).1.path=p→Fu (.int m) (BA l).1= !(BA l).2:=by
 have hL: ∀l∈ls.filter (NN a p),Iq w l:=fun l h=>hl l (JS.1 h).1
 rw[Ud];constructor
 ·intro h
  cases hf:foldI (ls.filter (NN a p)) t0 with
  | none=>rw[hf]at h;cases h
  | some t=>
    rw[hf]at h;obtain⟨m,hm⟩:=(RZ t).1 h;obtain⟨h1,h2⟩:=(Jl m _ t0 hL).1 ⟨t,hf,hm⟩;exact⟨m,⟨h1.1,h1.2.1⟩,fun l h3 h4 h5=>h2 l (JS.2 ⟨h3,H9.2 ⟨h4,h5⟩⟩)⟩
 ·rintro⟨m,h1,h2⟩
  obtain⟨t,h3,h4⟩:=(Jl m (ls.filter (NN a p)) t0 hL).2 ⟨⟨h1.1,h1.2,by simp[t0]⟩,fun l h=>by
   obtain⟨h5,h6⟩:=JS.1 h
   exact h2 l h5 (H9.1 h6).1 (H9.1 h6).2⟩
  rw[h3];exact(RZ t).2 ⟨m,h4⟩
def Lv {ls:List Fact} {a:Int} {p:List Int}:Fx ls a p=true↔ ∀l∈ls,(BA l).1.arg=a→ ∀q,(BA l).1.path=p++q→(BA l).2=true:=by
 rw[Fx,Ev];constructor
 ·intro h l hl ha q hq
  have:=h l hl;rw[F6]at this;rcases this with h1|h1
  ·exact h1
  ·rw[ha,hq]at h1
   have h2:CH (p++q) p=true:=Cd.2 ⟨q,rfl⟩;simp[h2]at h1
 ·intro h l hl
  rw[F6];by_cases h1:(BA l).1.arg=a∧CH (BA l).1.path p=true
  ·obtain⟨q,hq⟩:=Cd.1 h1.2
   exact .inl (h l hl h1.1 q hq)
  ·right
   simp only[Bool.not_eq_true',Bool.and_eq_false_iff,beq_eq_false_iff_ne];rcases Classical.em ((BA l).1.arg=a)with e|e
   ·exact .inr (by simpa[e]using h1)
   ·exact .inl e
def Rb {w:AJ} {ls:List Fact} (hl: ∀l∈ls,Iq w l) {a:Int} {p:List Int} {s:Int}:s∈Dz w.owner.length ls a p↔ ∃l∈ls,(BA l).1.arg=a∧ ∃q,(BA l).1.path=p++s::q:=by
 rw[Dz,JS,JR,Eh];constructor
 ·rintro⟨-,l,h1,h2⟩
  rw[oR,A9,DK]at h2;obtain⟨q,hq⟩:=Cd.1 h2.2;exact⟨l,h1,h2.1,q,by rw[hq];simp⟩
 ·rintro⟨l,h1,h2,q,hq⟩
  refine⟨(hl l h1).path s (by rw[hq];simp),l,h1,?_⟩;rw[oR,A9,DK];exact⟨h2,Cd.2 ⟨q,by rw[hq];simp⟩⟩
def V5 {w:AJ} {ls:List Fact} (hl: ∀l∈ls,Iq w l) {a:Int} {p:List Int}:J7 w.owner.length ls a p=true↔ ∀l∈ls,(BA l).1.arg=a→ ∀s q,(BA l).1.path=p++s::q→(BA l).2=true:=by
 rw[J7,Ev];constructor
 ·intro h l h1 h2 s q hq
  exact Lv.1 (h s ((Rb hl).2 ⟨l,h1,h2,q,hq⟩)) l h1 h2 q (by rw[hq];simp)
 ·intro h s _
  exact Lv.2 fun l h1 h2 q hq=>h l h1 h2 s q (by rw[hq];simp)
def O9 {w:AJ} (hw:It w) {s:Int} (h:0≤s∧s<(w.owner.length:Int)):3≤CZ w s∧CZ w s<3+w.parents.length:=by
 have hs:s.toNat<w.owner.length:=by omega
 have:CZ w s=w.owner[s.toNat]:=by rw[CZ,D9,EN hs];rfl
 rw[this];exact hw.own _ (List.getElem_mem hs)
def oX (t:BB) (AF:Nat→Bool):Prop:=(∀c,t.1.getD c false=true→c=0∨AF c=true)∧ ∀c,t.2.getD c false=true→c≠0∧AF c=false
def Sc (t t':BB):Prop:=t.1.length=t'.1.length∧t.2.length=t'.2.length∧(∀c,t.1.getD c false=true→t'.1.getD c false=true)∧ ∀c,t.2.getD c false=true→t'.2.getD c false=true
def Sc.kx {t:BB}:Sc t t:=⟨rfl,rfl,fun _ h=>h,fun _ h=>h⟩
def Sc.trans {t u v:BB} (h:Sc t u) (k:Sc u v):Sc t v:=⟨h.1.trans k.1,h.2.1.trans k.2.1,fun c hc=>k.2.2.1 c (h.2.2.1 c hc),fun c hc=>k.2.2.2 c (h.2.2.2 c hc)⟩
def Ld {l:List Bool} {c b:Nat} (h:(l.set c true).getD b false=true):l.getD b false=true∨b=c:=by
 by_cases e:b=c
 ·exact .inr e
 ·rw[D9,List.getElem?_set_ne (fun h=>e h.symm),←D9]at h
  exact .inl h
def Lf {l:List Bool} {c b:Nat} (h:l.getD b false=true):(l.set c true).getD b false=true:=by
 by_cases e:c<l.length
 ·rw[FE e]
  split
  ·rfl
  ·exact h
 ·rw[List.set_eq_of_length_le (by omega)];exact h
def Le {l:List Bool} {c:Nat} (h:c<l.length):(l.set c true).getD c false=true:=by
 rw[FE h,if_pos rfl]
def Sc.yx {t:BB} (c:Nat):Sc t (t.1.set c true,t.2):=⟨by simp,rfl,fun _ h=>Lf h,fun _ h=>h⟩
def Sc.yw {t:BB} (c:Nat):Sc t (t.1,t.2.set c true):=⟨rfl,by simp,fun _ h=>h,fun _ h=>Lf h⟩
def XR (t:BB) (f:Fact) (b:Bool):Prop:=if f.op≠2∨f.cls=1∨f.cls=2 then b=true else if b then t.2.getD f.cls.toNat false=true else t.1.getD f.cls.toNat false=true
def SO {t t':BB} (h:Sc t t') {f:Fact} {b:Bool} (k:XR t f b):XR t' f b:=by
 unfold XR at *;split
 ·rename_i h1;rw[if_pos h1]at k;exact k
 ·rename_i h1;rw[if_neg h1]at k
  split
  ·rename_i h2;rw[if_pos h2]at k;exact h.2.2.2 _ k
  ·rename_i h2;rw[if_neg h2]at k;exact h.2.2.1 _ k
def iQ {w:AJ} {l:Fact} (hl:Iq w l) {t t':BB} (hn:t.1.length=3+w.parents.length∧t.2.length=3+w.parents.length) (h:NP (BA l) t=some t'):Sc t t'∧XR t' (BA l).1 (BA l).2:=by
 have hc:=hl.cls;generalize BA l=x at *;obtain⟨f,b⟩:=x;simp only[NP,XR]at *;split at h
 ·rename_i h1
  rw[if_pos h1];cases b
  ·cases h
  ·obtain rfl:=Option.some.inj h
   exact⟨Sc.kx,rfl⟩
 ·rename_i h1
  rw[if_neg h1]
  have h2:f.op=2:=by
   rcases Classical.em (f.op=2)with e|e
   ·exact e
   ·exact absurd (Or.inl e) h1
  have:=hc h2;cases b
  ·obtain rfl:=Option.some.inj h
   exact⟨.yx _,by rw[if_neg (by decide)];exact Le (by omega)⟩
  ·obtain rfl:=Option.some.inj h
   exact⟨.yw _,by rw[if_pos rfl];exact Le (by omega)⟩
def bV {w:AJ} {l:Fact} (hl:Iq w l) {t:BB} {AF:Nat→Bool} {kid:Int→Hs} (hi:oX t AF) (h:Fu (.obj AF kid) (BA l).1= !(BA l).2): ∃t',NP (BA l) t=some t'∧oX t' AF:=by
 have hc:=hl.cls;generalize BA l=x at *;obtain⟨f,b⟩:=x;simp only[NP,Fu]at *;by_cases h1:f.op≠2∨f.cls=1∨f.cls=2
 ·rw[if_pos h1]
  have h2:(f.op==2&&(f.cls==0||(decide (3≤f.cls)&&AF f.cls.toNat)))=false:=by
   rcases h1 with h1|h1|h1
   ·simp[h1]
   ·simp[h1]
   ·simp[h1]
  rw[h2]at h;cases b
  ·cases h
  ·exact⟨t,rfl,hi⟩
 ·rw [if_neg h1]
  have h2:f.op=2:=by
   rcases Classical.em (f.op=2)with e|e
   ·exact e
   ·exact absurd (Or.inl e) h1
  have hr:=hc h2;have h3:f.cls≠1∧f.cls≠2:=⟨fun e=>h1 (.inr (.inl e)),fun e=>h1 (.inr (.inr e))⟩
  have h4:(f.op==2&&(f.cls==0||(decide (3≤f.cls)&&AF f.cls.toNat)))=(decide (f.cls=0)||AF f.cls.toNat):=by
   rw[h2];rcases Classical.em (f.cls=0)with e|e
   ·simp[e]
   ·have:3≤f.cls:=by omega
    simp[e,this]
  rw[h4]at h;cases b
  ·refine⟨_,rfl,fun c hh=>?_,hi.2⟩
   rcases Ld hh with hh|rfl
   ·exact hi.1 c hh
   ·simp only[Bool.not_false,F6,Cf]at h
    rcases h with h|h
    ·exact .inl (by omega)
    ·exact .inr h
  ·refine⟨_,rfl,hi.1,fun c hh=>?_⟩
   rcases Ld hh with hh|rfl
   ·exact hi.2 c hh
   ·simp only[Bool.not_true,Bool.or_eq_false_iff,decide_eq_false_iff_not]at h
    exact⟨by omega,h.2⟩
def Pj {w:AJ}: ∀(os:List Fact) {t t':BB},(∀l∈os,Iq w l)→(t.1.length=3+w.parents.length∧t.2.length=3+w.parents.length)→J4 os t=some t'→Sc t t'∧ ∀l∈os,XR t' (BA l).1 (BA l).2
 | [],t,t',_,_,h=>by
   obtain rfl:=Option.some.inj h;exact⟨Sc.kx,fun l hl=>by cases hl⟩
 | x::r,t,t',hl,hn,h=>by
   rw[J4,Option.bind_eq_some_iff]at h;obtain⟨u,h1,h2⟩:=h;obtain⟨h3,h4⟩:=iQ (hl x (.head _)) hn h1;obtain⟨h5,h6⟩:=Pj r (fun l h=>hl l (.tail _ h)) ⟨by rw[←h3.1];exact hn.1,by rw[←h3.2.1];exact hn.2⟩ h2;refine⟨h3.trans h5,fun l h=>?_⟩;rcases F7.1 h with rfl|h
   ·exact SO h5 h4
   ·exact h6 l h
def R9 {w:AJ} {AF:Nat→Bool} {kid:Int→Hs}: ∀(os:List Fact) {t:BB},(∀l∈os,Iq w l)→oX t AF→(∀l∈os,Fu (.obj AF kid) (BA l).1= !(BA l).2)→ ∃t',J4 os t=some t'∧oX t' AF
 | [],t,_,hi,_=>⟨t,rfl,hi⟩
 | x::r,t,hl,hi,h=>by
   obtain⟨u,h1,h2⟩:=bV (hl x (.head _)) hi (h x (.head _));obtain⟨t',h3,h4⟩:=R9 r (fun l h=>hl l (.tail _ h)) h2 fun l hh=>h l (.tail _ hh)
   exact⟨t',by rw[J4,h1];exact h3,h4⟩
def qR (w:AJ) (ls:List Fact) (a:Int) (p:List Int) (can:Int→Bool) (s:Int) (t:BB):Prop:=
 (Fx ls a (p++[s])=false→t.1.getD (CZ w s).toNat false=true∧can s=true)∧(can s=false→t.2.getD (CZ w s).toNat false=true)
def Ph {w:AJ} (hw:It w) {ls:List Fact} {a:Int} {p:List Int} {can:Int→Bool}: ∀(sl:List Int) {t t':BB},(∀s∈sl,0≤s∧s<(w.owner.length:Int))→(t.1.length=3+w.parents.length∧t.2.length=3+w.parents.length)→J3 w ls a p can sl t=some t'→Sc t t'∧ ∀s∈sl,qR w ls a p can s t'
 | [],t,t',_,_,h=>by
   obtain rfl:=Option.some.inj h;exact⟨Sc.kx,fun l hl=>by cases hl⟩
 | s ::r,t,t',hs,hn,h=>by
   rw[J3,Option.bind_eq_some_iff]at h;obtain⟨u,h1,h2⟩:=h;have ho:=O9 hw (hs s (.head _))
   have h3:Sc t u∧qR w ls a p can s u:=by
    rw[Uq]at h1;split at h1
    ·cases h1
    ·rename_i hne
     obtain rfl:=Option.some.inj h1;simp only[qR];cases hb:Fx ls a (p++[s])<;>cases hc:can s
     ·simp[hb,hc]at hne
     ·exact⟨⟨by simp,rfl,fun c h=>Lf h,fun c h=>h⟩,fun _=>⟨Le (by omega),rfl⟩,fun h=>(by cases h)⟩
     ·exact⟨⟨rfl,by simp,fun c h=>h,fun c h=>Lf h⟩,fun h=>(by cases h),fun _=>Le (by omega)⟩
     ·exact⟨Sc.kx,fun h=>(by cases h),fun h=>(by cases h)⟩
   obtain⟨h5,h6⟩:=Ph hw r (fun l h=>hs l (.tail _ h)) ⟨by rw[←h3.1.1];exact hn.1,by rw[←h3.1.2.1];exact hn.2⟩ h2;refine⟨h3.1.trans h5,fun l h=>?_⟩;rcases F7.1 h with rfl|h
   ·exact⟨fun hb=>⟨h5.2.2.1 _ (h3.2.1 hb).1,(h3.2.1 hb).2⟩,fun hc=>h5.2.2.2 _ (h3.2.2 hc)⟩
   ·exact h6 l h
def R8 {w : AJ} (hw:It w) {ls:List Fact} {a:Int} {p:List Int} {can:Int→Bool} {AF:Nat→Bool}: ∀(sl:List Int) {t:BB},(∀s∈sl,0≤s∧s<(w.owner.length:Int))→oX t AF→
    (∀s∈sl,(Fx ls a (p++[s])=false→AF (CZ w s).toNat=true)∧(AF (CZ w s).toNat=true→can s=true))→ ∃t',J3 w ls a p can sl t=some t'∧oX t' AF
 | [],t,_,hi,_=>⟨t,rfl,hi⟩
 | s :: r, t,hs,hi,h=>by
   have ho:=O9 hw (hs s (.head _));obtain⟨k1,k2⟩:=h s (.head _)
   have h1 : ∃u,Uq w ls a p can s t=some u∧oX u AF:=by
    rw[Uq];cases hb:Fx ls a (p++[s])
    ·rw[k2 (k1 hb)]
     refine⟨_,rfl,fun c hh=>?_,hi.2⟩;rcases Ld hh with hh|rfl
     ·exact hi.1 c hh
     ·exact .inr (k1 hb)
    ·cases hc:can s
     ·refine⟨_,rfl,hi.1,fun c hh=>?_⟩
      rcases Ld hh with hh|rfl
      ·exact hi.2 c hh
      ·refine⟨by omega,?_⟩
       rw[←Bool.not_eq_true];intro e;rw[k2 e]at hc;cases hc
     ·exact⟨_,rfl,hi⟩
   obtain⟨u,h2,h3⟩:=h1;obtain⟨t',h4,h5⟩:=R8 hw r (fun l h=>hs l (.tail _ h)) h3 fun l hh=>h l (.tail _ hh)
   exact⟨t',by rw[J3,h2];exact h4,h5⟩
def l9 {w:AJ} {AF:Nat→Bool}:oX (tO w) AF:=by
 have: ∀c,(List.replicate (3+w.parents.length) false).getD c false=false:=fun c=>by
  rw[D9];cases h:(List.replicate (3+w.parents.length) false)[c]? with
  | none=>rfl
  | some b=>rw[List.eq_of_mem_replicate (DL h)];rfl
 exact⟨fun c h=>absurd ((this c).symm.trans h) (by decide),fun c h=>absurd ((this c).symm.trans h) (by decide)⟩
def dN {g:List (List Int)} (ho:ordered g) {AF:Nat→Bool} (hC: ∀c,3≤c→AF c=true→ ∀q∈par g c,AF q.toNat=true): ∀d b:Nat,3≤d→AF d=true→Im g d b=true→AF b=true:=by
 intro d
 induction d using Nat.strongRecOn with
 | _ d ih=>
   intro b h3 hd h;rw[EZ ho]at h;simp only[F6,DK,JR]at h;rcases h with rfl|⟨p,hp,h⟩
   ·exact hd
   ·have:=ho d p hp
    exact ih p.toNat (by omega) b (by omega) (hC d h3 hd p hp) h
def ir {w : AJ} (hw : It w) {ls:List Fact} (hl: ∀l∈ls,Iq w l) {a:Int} {p:List Int} {can:Int→Bool} {T:Int→Hs→Prop} (hcan: ∀s,s∈Dz w.owner.length ls a p→(can s=true↔ ∃t,Fo w t∧T s t))
    (hT: ∀s t,T s t↔ ∀l∈ls,(BA l).1.arg=a→ ∀q,(BA l).1.path=p++s::q→Qk w t q (BA l).1= !(BA l).2) :
    (UX w ls a p can).isSome=true↔ ∃AF kid,Fo w (.obj AF kid)∧ ∀l∈ls,(BA l).1.arg=a→ ∀q,(BA l).1.path=p++q→Qk w (.obj AF kid) q (BA l).1= !(BA l).2:=by
 have hL: ∀l∈ls.filter (NN a p),Iq w l:=fun l h=>hl l (JS.1 h).1
 have hS: ∀s∈Dz w.owner.length ls a p,0≤s∧s<(w.owner.length:Int):=fun s h=>Mw h
 have hn0:(tO w).1.length=3+w.parents.length∧(tO w).2.length=3+w.parents.length:=by simp[tO]
 constructor
 ·intro h
  rw[UX]at h;cases h1:J4 (ls.filter (NN a p)) (tO w)with
  | none=>rw[h1]at h;cases h
  | some t=>
    rw[h1,Option.bind_some]at h;obtain⟨g1,g2⟩:=Pj _ hL hn0 h1;have hn1:t.1.length=3+w.parents.length∧t.2.length=3+w.parents.length:=⟨by rw[←g1.1];exact hn0.1,by rw[←g1.2.1];exact hn0.2⟩
    cases h2:J3 w ls a p can (Dz w.owner.length ls a p) t with
    | none=>rw[h2]at h;cases h
    | some u=>
      rw[h2,Option.bind_some,eR]at h;obtain⟨g3,g4⟩:=Ph hw _ hS hn1 h2;have hn2:u.1.length=3+w.parents.length∧u.2.length=3+w.parents.length:=⟨by rw[←g3.1];exact hn1.1,by rw[←g3.2.1];exact hn1.2⟩
      split at h
      ·cases h
      ·rename_i h0
       split at h
       ·cases h
       ·rename_i h3
        clear h;have hSl:(u.1.set 0 false).length=3+w.parents.length:=by simpa using hn2.1
        generalize hSd:C7 w.parents (3+w.parents.length) w.parents.length (u.1.set 0 false)=S at *
        have hin: ∀c,3≤c→u.1.getD c false=true→S.getD c false=true:=fun c hc h=>by
         rw[←hSd];refine JO hw.ord hSl _ _ ?_;rw[D9,List.getElem?_set_ne (by omega),←D9];exact h
        have hdis: ∀c,S.getD c false=true→u.2.getD c false=true→False:=fun c k1 k2=>by
         have hc:c<3+w.parents.length:=by
          rcases Nat.lt_or_ge c (3+w.parents.length)with h|h
          ·exact h
          ·rw[D9,List.getElem?_eq_none (by omega)]at k2
           cases k2
         refine h3 (JR.2 ⟨c,List.mem_range.2 hc,?_⟩);rw[k1,k2];rfl
        have hkid: ∀s,∃t,Fo w t∧((∃t,Fo w t∧T s t)→T s t):=fun s=>by
         rcases Classical.em (∃t,Fo w t∧T s t)with⟨t,k1,k2⟩|k
         ·exact⟨t,k1,fun _=>k2⟩
         ·exact⟨.UF,trivial,fun h=>absurd h k⟩
        refine⟨fun c=>S.getD c false,fun s=>Classical.choose (hkid s),⟨fun c hc h q hq=>?_,fun s=>(Classical.choose_spec (hkid s)).1⟩,fun l h1 h2 q hq=>?_⟩
        ·change S.getD c false=true at h
         change S.getD q.toNat false=true
         have hcl:c<3+w.parents.length:=by
          rcases Nat.lt_or_ge c (3+w.parents.length)with h'|h'
          ·exact h'
          ·rw[D9,List.getElem?_eq_none (by rw[←hSd,Fg];omega)]at h
           cases h
         rw[←hSd]at h ⊢;exact HL hw.ord hSl _ c (by omega) (by omega) h q hq
        ·cases q with
         | nil =>
           have k:=g2 l (JS.2 ⟨h1,H9.2 ⟨h2,by simpa using hq⟩⟩);have k:=SO g3 k;have hc:=(hl l h1).cls;generalize BA l=x at *;obtain⟨f,b⟩:=x;simp only[Qk,Fu,XR]at *;by_cases e1:f.op≠2∨f.cls=1∨f.cls=2
           ·rw[if_pos e1]at k
            subst k;rcases e1 with e1|e1|e1
            ·simp[e1]
            ·simp[e1]
            ·simp[e1]
           ·rw [if_neg e1]at k
            have e2:f.op=2:=by
             rcases Classical.em (f.op=2)with e|e
             ·exact e
             ·exact absurd (Or.inl e) e1
            have hr:=hc e2;have e3:f.cls≠1∧f.cls≠2:=⟨fun e=>e1 (.inr (.inl e)),fun e=>e1 (.inr (.inr e))⟩
            rw[e2];rcases Classical.em (f.cls=0)with e|e
            ·rw[e]at k ⊢
             cases b
             ·rfl
             ·exfalso;exact h0 k
            ·have e4:(f.cls==0)=false:=by simpa using e
             have e5:decide (3≤f.cls)=true:=decide_eq_true (by omega);rw[e4,e5];cases b
             ·rw[if_neg (by decide)]at k
              rw[hin _ (by omega) k];rfl
             ·rw[if_pos rfl]at k
              have:S.getD f.cls.toNat false=false:=by
               rw[←Bool.not_eq_true];exact fun e=>hdis _ e k
              rw[this];rfl
         | cons s q=>
           have hs:s∈Dz w.owner.length ls a p:=(Rb hl).2 ⟨l,h1,h2,q,hq⟩;have hso:=O9 hw (hS s hs);obtain⟨k1,k2⟩:=g4 s hs;simp only[Qk];cases hm:S.getD (CZ w s).toNat false
           ·rw[Bool.false_and]
            cases hb:Fx ls a (p++[s])
            ·have:=hin _ (by omega) (k1 hb).1
             rw[hm]at this;cases this
            ·rw[Lv.1 hb l h1 h2 q (by rw[hq];simp)];rfl
           ·rw[EW]
            cases hc:can s
            ·exact absurd (k2 hc) fun e=>hdis _ hm e
            ·exact(hT s _).1 ((Classical.choose_spec (hkid s)).2 ((hcan s hs).1 hc)) l h1 h2 q hq
 ·rintro ⟨AF,kid,⟨hC,U⟩,h⟩
  obtain⟨t,h1,h2⟩:=R9 (AF:=AF) (kid:=kid) (ls.filter (NN a p)) (t:=tO w) hL l9 fun l k=>by
   obtain⟨k1,k2⟩:=JS.1 k;obtain⟨k3,k4⟩:=H9.1 k2;exact h l k1 k3 [] (by simpa using k4)
  obtain ⟨u,h3,h4⟩:=R8 hw (AF:=AF) (can:=can) (ls:=ls) (a:=a) (p:=p) (Dz w.owner.length ls a p) (t:=t) hS h2 fun s hs=>by
   constructor
   ·intro hb
    cases e:AF (CZ w s).toNat
    ·rw[Lv.2 fun l k1 k2 q hq=>by
      have:=h l k1 k2 (s::q) (by rw[hq];simp);simp only[Qk,e,Bool.false_and]at this
      simpa using this.symm]at hb
     cases hb
    ·rfl
   ·intro e
    refine(hcan s hs).2 ⟨kid s,U s,(hT s _).2 fun l k1 k2 q hq=>?_⟩;have:=h l k1 k2 (s::q) hq;simpa only[Qk,e,EW]using this
  rw[UX,h1,Option.bind_some,h3,Option.bind_some,eR]
  have h0:u.2.getD 0 false=false:=by
   rw[←Bool.not_eq_true];exact fun e=>(h4.2 0 e).1 rfl
  rw[h0,if_neg (by decide),if_neg]
  ·rfl
  ·rw [JR]
   rintro⟨c,-,hc⟩;rw[A9]at hc;have q1:=(Pj _ hL hn0 h1).1;have q2:=(Ph hw _ hS ⟨by rw[←q1.1];exact hn0.1,by rw[←q1.2.1];exact hn0.2⟩ h3).1;have hlen:(u.1.set 0 false).length=3+w.parents.length:=by rw[List.length_set,←q2.1,←q1.1];exact hn0.1
   obtain⟨d,k1,k2⟩:=GN hw.ord hlen _ _ hc.1
   have hd0:d≠0:=by
    rintro rfl;rw[D9,List.getElem?_set_self (by rw[List.length_set]at hlen;omega)]at k1;cases k1
   rw[D9,List.getElem?_set_ne (fun e=>hd0 e.symm),←D9]at k1;have hCd:AF d=true:=(h4.1 d k1).resolve_left hd0
   have hCc:AF c=true:=by
    rcases Nat.lt_or_ge d 3 with hd|hd
    ·rw[EZ hw.ord,show par w.parents d= [] from if_pos hd]at k2
     simp only[List.any_nil,Bool.or_false,DK]at k2;subst k2;exact hCd
    ·exact dN hw.ord hC d c hd hCd k2
   have:=(h4.2 c hc.2).2;rw[hCc]at this;cases this
def TT (w:AJ) (ls:List Fact) (a:Int) (p:List Int) (t:Hs):Prop:= ∀l∈ls,(BA l).1.arg=a→ ∀q,(BA l).1.path=p++q→Qk w t q (BA l).1= !(BA l).2
def cC {w:AJ} {ls:List Fact} (hl: ∀l∈ls,Iq w l) {a:Int} {p:List Int}:Oq w.owner.length ls a p=true↔TT w ls a p .UF:=by
 rw[Oq,A9,Ev,V5 hl];constructor
 ·rintro⟨h1,h2⟩ l k1 k2 q hq
  cases q with
  | nil=>
    have:=h1 l (JS.2 ⟨k1,H9.2 ⟨k2,by simpa using hq⟩⟩);simp only[Qk,Fu,RC]at *
    revert this
    cases((BA l).1.op==2&&((BA l).1.cls==0||(BA l).1.cls==2))<;>cases(BA l).2<;>decide
  | cons s q=>simp[Qk,h2 l k1 k2 s q hq]
 ·intro h
  refine⟨fun l k=>?_,fun l k1 k2 s q hq=>?_⟩
  ·obtain⟨k1,k2⟩:=JS.1 k
   obtain⟨k3,k4⟩:=H9.1 k2;have:=h l k1 k3 [] (by simpa using k4);simp only[Qk,Fu,RC]at *
   revert this
   cases((BA l).1.op==2&&((BA l).1.cls==0||(BA l).1.cls==2))<;>cases(BA l).2<;>decide
  ·have:=h l k1 k2 (s::q) hq
   simpa[Qk]using this.symm
def jP {w:AJ} {ls:List Fact} (hl: ∀l∈ls,Iq w l) {a:Int} {p:List Int}:((Ud ls a p).isSome&&J7 w.owner.length ls a p)=true↔ ∃m,Fo w (.int m)∧TT w ls a p (.int m):=by
 rw[A9,V5 hl,jO hl];constructor
 ·rintro⟨⟨m,h1,h2⟩,h3⟩
  refine⟨m,h1,fun l k1 k2 q hq=>?_⟩;cases q with
  | nil=>exact h2 l k1 k2 (by simpa using hq)
  | cons s q=>simp[Qk,h3 l k1 k2 s q hq]
 ·rintro⟨m,h1,h2⟩
  refine⟨⟨m,h1,fun l k1 k2 k3=>h2 l k1 k2 [] (by simpa using k3)⟩,fun l k1 k2 s q hq=>?_⟩;have:=h2 l k1 k2 (s::q) hq;simpa[Qk]using this.symm
def aS {w:AJ} (hw:It w) {ls:List Fact} (hl: ∀l∈ls,Iq w l) {a:Int} {p:List Int} {can:Int→Bool} (hcan: ∀s,s∈Dz w.owner.length ls a p→(can s=true↔ ∃t,Fo w t∧TT w ls a (p++[s]) t)) :
    (((Ud ls a p).isSome&&J7 w.owner.length ls a p)||(Oq w.owner.length ls a p||(UX w ls a p can).isSome))=true↔ ∃t,Fo w t∧TT w ls a p t:=by
 rw[F6,F6,jP hl,cC hl,ir hw hl (T:=fun s t=>TT w ls a (p++[s]) t) hcan fun s t=>by simp only[TT,W5,List.singleton_append]];constructor
 ·rintro(⟨m,h1,h2⟩|h|⟨AF,kid,h1,h2⟩)
  ·exact⟨_,h1,h2⟩
  ·exact⟨.UF,trivial,h⟩
  ·exact⟨_,h1,h2⟩
 ·rintro⟨t,h1,h2⟩
  cases t with
  | int m=>exact .inl ⟨m,h1,h2⟩
  | UF=>exact .inr (.inl h2)
  | obj AF kid=>exact .inr (.inr ⟨AF,kid,h1,h2⟩)
def Pp {w:AJ} (hw:It w) {ls:List Fact} (hl: ∀l∈ls,Iq w l) (a:Int): ∀(d:Nat) (p:List Int),p.length+d=2→(Sq w ls a d p=true↔ ∃t,Fo w t∧TT w ls a p t)
 | 0,p,hp=>by
   rw[Sq];refine aS hw hl fun s hs=>?_
   rw[Ra (m:=2) (fun l h=>(hl l h).short) (by omega)]at hs;cases hs
 | d+1,p,hp=>by
   rw[Sq];exact aS hw hl fun s hs=>Pp hw hl a d (p++[s]) (by simp;omega)
def Si (w:AJ) (M:Int→Hs) (l:Fact):Prop:=Qk w (M (BA l).1.arg) (BA l).1.path (BA l).1= !(BA l).2
def VO {w:AJ} (hw:It w) {ls:List Fact} (hl: ∀l∈ls,Iq w l):Jt w ls=true↔ ∃M:Int→Hs,(∀a,Fo w (M a))∧ ∀l∈ls,Si w M l:=by
 rw[Jt,Ev];constructor
 ·intro h
  have hk: ∀a:Int,∃t,Fo w t∧(0≤a∧a<3→TT w ls a [] t):=fun a=>by
   rcases Classical.em (0≤a∧a<3)with e|e
   ·obtain⟨t,h1,h2⟩:=(Pp hw hl a 2 [] rfl).1 (h a (Eh.2 e))
    exact⟨t,h1,fun _=>h2⟩
   ·exact⟨.UF,trivial,fun k=>absurd k e⟩
  exact⟨fun a=>Classical.choose (hk a),fun a=>(Classical.choose_spec (hk a)).1,fun l k=>(Classical.choose_spec (hk (BA l).1.arg)).2 (hl l k).arg l k rfl _ rfl⟩
 ·rintro⟨M,h1,h2⟩ a _
  refine(Pp hw hl a 2 [] rfl).2 ⟨M a,h1 a,fun l k1 k2 q hq=>?_⟩;have:=h2 l k1;rw[Si,k2]at this;rw[List.nil_append]at hq;rw[←hq];exact this
def XB (w:AJ) (M:Int→Hs) (f:Fact) (l:List Bool):Bool:=
 if f.op=1 then true else if f.op=5 then !l.getD 0 false else if f.op=6 then l.getD 0 false&&l.getD 1 false else if f.op=7 then l.getD 0 false||l.getD 1 false else Qk w (M f.arg) f.path f
def HO (w:AJ) (M:Int→Hs) (f:Fact):Bool:=f.FL (XB w M)
def Mf (w:AJ) (M:Int→Hs) (f:Fact):HO w M f=XB w M f (f.kids.map (HO w M)):=Fact.CG (XB w M) f
def Vt (a:List Fact) (Q:Fact→Prop): ∀b:List Fact,(∀x∈DA a b,Q x)↔(∀x∈a,Q x)∧ ∀x∈b,Q x:=by
 intro b
 induction b generalizing a with
 | nil=>simp[DA]
 | cons y r ih=>
   rw[DA,ih];split
   ·rename_i h
    obtain⟨z,h1,h2⟩:=JR.1 h;have:=(Dh y z).1 h2;subst this;simp only[List.forall_mem_cons];constructor
    ·rintro⟨h3,h4⟩;exact⟨h3,h3 _ h1,h4⟩
    ·rintro⟨h3,_,h4⟩;exact⟨h3,h4⟩
   ·simp only[List.forall_mem_append,List.forall_mem_cons,List.forall_mem_nil]
    constructor
    ·rintro⟨⟨h1,h2,_⟩,h3⟩;exact⟨h1,h2,h3⟩
    ·rintro⟨h1,h2,h3⟩;exact⟨⟨h1,h2,fun _ h=>by cases h⟩,h3⟩
def SJ {w : AJ} {M:Int→Hs} (f:Fact):Al w f=true→ ∀c,(∃l∈Bn f c,∀x∈l,Si w M x)↔HO w M f= !c:=by
 induction f using Fact.ind with
 | h f ih=>
   intro h c;have har:=Ao f h;have h':=h;rw[Bs,A9,Ev]at h';rw[Hr,JF,Mf,XB];by_cases h1:f.op=1
   ·rw[if_pos h1,if_pos h1]
    cases c<;>simp
   rw[if_neg h1,if_neg h1];by_cases h5:f.op=5
   ·obtain⟨a,ha,hb⟩:=FB har h5
    rw[if_pos h5,if_pos h5,ha];have:=ih a (by rw[ha];exact .head _) (h'.2 a (by rw[ha];exact .head _)) (!c);simp only[Ct,List.map_nil,List.getD_cons_zero];rw[this];cases HO w M a<;>cases c<;>decide
   rw[if_neg h5,if_neg h5];by_cases h6:f.op=6∨f.op=7
   ·obtain⟨a,b,ha,hb1,hb2⟩:=EV har h6
    rw[if_pos h6,ha];have i1:=ih a (by rw[ha];exact .head _) (h'.2 a (by rw[ha];exact .head _)) c;have j1:=ih b (by rw[ha];exact .tail _ (.head _)) (h'.2 b (by rw[ha];exact .tail _ (.head _))) c;simp only[Ct,List.map_nil,List.getD_cons_zero,List.getD_cons_succ]
    have happ:(∃l∈Bn a c++Bn b c,∀x∈l,Si w M x)↔HO w M a= !c∨HO w M b= !c:=by
     rw[←i1,←j1];constructor
     ·rintro⟨l,hl,hx⟩
      rcases FK.1 hl with hl|hl
      ·exact .inl ⟨l,hl,hx⟩
      ·exact .inr ⟨l,hl,hx⟩
     ·rintro(⟨l,hl,hx⟩|⟨l,hl,hx⟩)
      ·exact⟨l,Sa _ hl,hx⟩
      ·exact⟨l,UO _ hl,hx⟩
    have hprod:(∃l∈GW (Bn a c) (Bn b c),∀x∈l,Si w M x)↔HO w M a= !c∧HO w M b= !c:=by
     rw[←i1,←j1];simp only[GW,List.mem_flatMap,KE];constructor
     ·rintro⟨l,⟨y,hy,z,hz,rfl⟩,hx⟩
      rw[Vt]at hx;exact⟨⟨y,hy,hx.1⟩,z,hz,hx.2⟩
     ·rintro⟨⟨y,hy,h1⟩,z,hz,h2⟩
      exact⟨_,⟨y,hy,z,hz,rfl⟩,(Vt y _ z).2 ⟨h1,h2⟩⟩
    rcases h6 with h6|h6
    ·rw[if_pos h6,h6]
     cases c
     ·rw[if_neg (by decide),hprod]
      simp
     ·rw[if_pos (by decide),happ]
      simp only[Bool.not_true,Bool.and_eq_false_iff]
    ·rw[if_neg (by omega: ¬f.op=6),if_pos h6,h6]
     cases c
     ·rw[if_pos (by decide),happ]
      simp
     ·rw[if_neg (by decide),hprod]
      simp only[Bool.not_true,Bool.or_eq_false_iff]
   ·rw[if_neg h6,if_neg (fun e=>h6 (.inl e)),if_neg (fun e=>h6 (.inr e))]
    have e1:Si w M f↔Qk w (M f.arg) f.path f=true:=by rw[Si,BA,if_neg h5];exact Iff.rfl
    have e2:Si w M (C9 f)↔Qk w (M f.arg) f.path f=false:=by
     rw[Si,show BA (C9 f)=(f,true) from rfl];exact Iff.rfl
    cases c
    ·simp[e1]
    ·simp[e2]
def ig {w:AJ} (hw:It w) {f:Fact} (hn:Al w f=true):XG w f=true↔ ∃M:Int→Hs,(∀a,Fo w (M a))∧HO w M f=true:=by
 rw[XG,JR];constructor
 ·rintro⟨l,h1,h2⟩
  obtain⟨M,h3,h4⟩:=(VO hw fun x hx=>Zp (F5 f hn false l h1 x hx)).1 h2;exact⟨M,h3,(SJ f hn false).1 ⟨l,h1,h4⟩⟩
 ·rintro⟨M,h1,h2⟩
  obtain⟨l,h3,h4⟩:=(SJ f hn false).2 h2;exact⟨l,h3,(VO hw fun x hx=>Zp (F5 f hn false l h3 x hx)).2 ⟨M,h1,h4⟩⟩
def Vv {w:AJ} (hw:It w) {a b:Fact} (ha:Al w a=true) (hb:Al w b=true):XK w a b=true↔ ∀M:Int→Hs,(∀x,Fo w (M x))→HO w M a=true→HO w M b=true:=by
 have he: ∀M,HO w M (Qx a (C9 b))=(HO w M a&& !HO w M b):=fun M=>by
  rw[Mf];simp only[XB,Qx,Fact.op,Fact.kids,Ct,List.map_nil,List.getD_cons_zero,List.getD_cons_succ];rw[Mf w M (C9 b)];simp[XB,C9,Fact.op,Fact.kids]
 rw[XK,Bool.not_eq_true',←Bool.not_eq_true,ig hw (Vk ha hb)];constructor
 ·intro h M h1 h2
  rw[←Bool.not_eq_false];exact fun h3=>h ⟨M,h1,by rw[he,h2,h3];rfl⟩
 ·rintro h ⟨M,h1,h2⟩
  rw[he,A9]at h2;rw[h M h1 h2.1]at h2;simp at h2
end Go.Gl
namespace Go.Gl
open Go.Proofs
attribute [local irreducible] A7 Ap Af AT AM Ae AS AU AL Ad AO AP Aw A1 Sat AX Az Ah W
end Go.Gl
namespace Go.Gl
variable {P:Program} {σ:AH}
def vo {L:Nat} {args:List V} {Q:R→AH→Prop} (h:N7 P L args σ Q):Aw P (.f (.yield L) [] []) args σ Q:=h
def WV {L:Nat} {E:Env} {ps:List Nat} {a b:AY} {args:List V} {l:List At} (hl:args.length=ps.length) (hs:Sat σ (.obj L (.loop .ready E (B6 P ps a b))::l)) {Q:R→AH→Prop}
    (h: ∀σ,Sat σ l→W P a (Ck (W P b fun ex env' σ'=>σ' L=none→TK L E (B6 P ps a b) Q ex env' σ')) (E7 ps args E) σ):N7 P L args σ Q:=
 QZ (hs.get (i:=0) rfl) hl (h _ hs.del)
end Go.Gl
namespace Go.Gl
open Go.Proofs
attribute [local irreducible] A7 Ap Af AT AM Ae AS AU AL Ad AO AP Aw A1 Sat AX Az Ah W
def C8 (p:Prog) (os:List Ob) (gen:Int) (args:List (Int×Int)):Bool:=
 (Bd p).isSome&&(Fs (AR p) os&&(Ju p gen&&(decide ((args.length:Int)=p.C1.getD gen.toNat 0)&&args.all (Bz os.length))))
set_option maxHeartbeats 1000000 in
def oA (p:Prog) (os:List Ob) (f:Bool) (gen:Int) (args:List (Int×Int)) (g:Bool):Pure Tryz.prog 47 [.a (Be p),.l (os.map Gu) f,eI gen,.l (pP args) g] (.b (C8 p os gen args)):=by
 refine Pure.fit (by kernel_rfl) fun hf=>?_
 have⟨p1,p2,p3,p4⟩:=GD hf.1;have F:=I6 hf.1;have hM:=Mx;have c1:=qy p;cases h1:(Bd p).isSome<;>rw[h1]at c1
 ·refine VA kZ ?_
  have hs:=Sn
  conv=>whnf
  repeat'((first|apply st|(apply sq;intro K U)|(apply si;intro A B Y Z)|(apply Y;clear Z B Y A)|(apply U;clear U K)|refine⟨kZ,?_⟩|refine c1.use ?_|fail)<;>conv=>whnf)
  all_goals exact AI (by simp[C8,h1])
 have hok:=look_ok h1;have c2:=OC p F hok.ou hok.AK;have c3:=rG (AR p) os f hok.kT;cases h2:Fs (AR p) os<;>rw[h2]at c3
 ·refine VA kZ ?_
  have hs:=Sn
  conv=>whnf
  repeat'((first|apply st|(apply sq;intro K U)|(apply si;intro A B Y Z)|(apply Y;clear Z B Y A)|(apply U;clear U K)|refine⟨kZ,?_⟩|refine GS ?_|refine c1.use ?_|refine c2.use ?_|refine c3.use ?_|fail)<;>conv=>whnf)
  all_goals exact AI (by simp[C8,h1,h2])
 have c4:=xb p gen;cases h3:Ju p gen<;>rw[h3]at c4
 ·refine VA kZ ?_
  have hs:=Sn
  conv=>whnf
  repeat'((first|apply st|(apply sq;intro K U)|(apply si;intro A B Y Z)|(apply Y;clear Z B Y A)|(apply U;clear U K)|refine⟨kZ,?_⟩|refine Iw ?_|refine GS ?_|refine c1.use ?_|refine c2.use ?_|refine c3.use ?_|refine c4.use ?_|fail)<;>conv=>whnf)
  all_goals exact AI (by simp[C8,h1,h2,h3])
 have hg:=h3;simp only[Ju,A9,Cf]at hg;obtain⟨x,hx⟩: ∃x,p.C1[gen.toNat]? =some x:=⟨_,EN (by omega)⟩
 have hxd:p.C1.getD gen.toNat 0=x:=by rw[D9,hx];rfl
 have e3:((os.map Gu).length:Int)=os.length:=by simp
 have c5:Pure Tryz.prog 113 [.l (pP args) g,eI ((os.map Gu).length:Int)] (.b (args.all (Bz os.length))):=by rw[e3];exact fL args g os.length
 have e:C8 p os gen args=(decide ((args.length:Int)=x)&&args.all (Bz os.length)):=by simp only[C8,h1,h2,h3,hxd,EW]
 rw[e];by_cases he:(args.length:Int)=x
 ·rw[decide_eq_true he,EW]
  refine VA kZ ?_;have hs:=Sn
  conv=>whnf
  repeat'((first|apply st|(apply sq;intro K U)|(apply si;intro A B Y Z)|(apply Y;clear Z B Y A)|(apply U;clear U K)|refine⟨rfl,?_⟩|refine⟨kZ,?_⟩|refine MI ?_|refine Iw ?_|refine c1.use ?_|refine c2.use ?_|refine c3.use ?_|refine c4.use ?_|refine c5.use ?_|(constructor<;>intro hc<;>(try rw[hc])<;>(replace hc:=bp hc)<;>(try simp(disch:=omega) only[BT,wrap64,AN]at hc))|fail)<;>conv=>whnf)
  all_goals first
   | exact AI rfl
   | (exfalso;simp[he]at hc;done)
 ·rw[decide_eq_false he,Bool.false_and]
  refine VA kZ ?_;have hs:=Sn
  conv=>whnf
  repeat'((first|apply st|(apply sq;intro K U)|(apply si;intro A B Y Z)|(apply Y;clear Z B Y A)|(apply U;clear U K)|refine⟨rfl,?_⟩|refine⟨kZ,?_⟩|refine MI ?_|refine Iw ?_|refine c1.use ?_|refine c2.use ?_|refine c3.use ?_|refine c4.use ?_|refine c5.use ?_|(constructor<;>intro hc<;>(try rw[hc])<;>(replace hc:=bp hc)<;>(try simp(disch:=omega) only[BT,wrap64,AN]at hc))|fail)<;>conv=>whnf)
  all_goals first
   | (exfalso;simp[he]at hc;done)
   | exact AI rfl
def Jv (os:List Ob) (v:Int×Int):Int:=if v.1=1 then 1 else if v.1=2 then 2 else(os.getD v.2.toNat (0,[])).1
def dL (os:List Ob) (f:Bool) (v:Int×Int):Pure Tryz.prog 168 [.a (pI v),.rp [.l (os.map Gu) f]] (.b (Bz os.length v)):=by
 have e3:((os.map Gu).length:Int)=os.length:=by simp
 have c1:Pure Tryz.prog 169 [.a (pI v),eI ((os.map Gu).length:Int)] (.b (Bz os.length v)):=by rw[e3];exact lM v os.length
 refine um kZ ?_;have hs:=Sn
 conv=>whnf
 repeat'((first|apply st|(apply sq;intro K U)|(apply si;intro A B Y Z)|(apply Y;clear Z B Y A)|(apply U;clear U K)|refine⟨kZ,?_⟩|refine c1.use ?_|fail)<;>conv=>whnf)
 all_goals exact AI rfl
def nv (xs:List (Int×Int)) (v:V) (hl:xs.length≤Aj):B3 Tryz.prog 241 [v] [.own v 2 (pP xs)] fun r post=>r= .ret (.l (pP xs) true)∧post= []:=by
 intro σ hs;have hg:=Ep gD xs;refine tu kZ ?_
 conv=>whnf
 repeat'((first|(apply sq;intro K U)|(apply si;intro A B Y Z)|(apply Y;clear Z B Y A)|(apply U;clear U K)|refine lo ?_|fail)<;>conv=>whnf)
 refine fE (i:=0) hs rfl hg.1 (by simpa using hl) fun σ hs=>?_
 conv=>whnf
 repeat'((first|apply st|(apply Y;clear Z B Y A)|(apply U;clear U K)|fail)<;>conv=>whnf)
 exact A4 hs (List.Sublist.refl _) (.refl _) fun σ' hs'=>⟨_,⟨rfl,rfl⟩,hs'⟩
def jZ (os:List Ob) (f:Bool) (xs:List (Int×Int)) (g:Bool) (hxl:xs.length≤1000):Pure Tryz.prog 167 [.l (pP xs) g,.f (.func 168) [] [.rp [.l (os.map Gu) f]]] (.l (pP (xs.filter (Bz os.length))) true):=by
 refine Pure.of ?_;have hM:=Mx;refine uo kZ ?_;have hs:=Sn
 conv=>whnf
 repeat'((first|apply st|(apply sq;intro K U)|(apply si;intro A B Y Z)|(apply Y;clear Z B Y A)|(apply U;clear U K)|fail)<;>conv=>whnf)
 refine C3 xs.length (fun k v=>[(5,v),(10,eI (Bc k))]) (fun k v=>[.own v 2 (pP ((xs.take k).filter (Bz os.length)))]) (fun _ _=>True) (.l [] true) rfl trivial (GV hs 2) ?_;clear hs;rintro k v σ hk - hs;have hfl:=Q7 (Bz os.length) (xs.take k);rw[Ny]at hfl;rcases BU xs hk with⟨y,hy,hlt⟩|hke
 ·have hst:(xs.take (k+1)).filter (Bz os.length)=if Bz os.length y then(xs.take k).filter (Bz os.length)++[y]else(xs.take k).filter (Bz os.length):=by
   rw[Aa hy,List.filter_append];cases hp:Bz os.length y<;>simp[hp]
  generalize (xs.take k).filter (Bz os.length)=zs at *;have hll:zs.length<Aj∧(zs.length+1)*16≤140737488355328:=by omega
  have c1:=dL os f y;cases hvy:Bz os.length y<;>rw[hvy]at c1 hst
  ·conv=>whnf
   repeat'((first|apply st|(apply sq;intro K U)|(apply si;intro A B Y Z)|(apply Y;clear Z B Y A)|(apply U;clear U K)|refine⟨rfl,?_⟩|refine⟨kZ,?_⟩|refine ix ?_|refine ld ?_|refine Cg fun σ hs=>?_|(refine DR (fun hc=>?_)<;>(try rw[hc])<;>clear hc)|refine Bg (c1.use ?_)|(intro nn hnn;generalize hg:A5 _ nn _=σ;refine CN hg fun hs=>?_;clear hg)|clear U K)<;>conv=>whnf)
   exact⟨hlt,_,rfl,trivial,by rw[hst];exact hs.less (K0 _ _)⟩
  ·conv=>whnf
   repeat'((first|apply st|(apply sq;intro K U)|(apply si;intro A B Y Z)|(apply Y;clear Z B Y A)|(apply U;clear U K)|refine⟨rfl,?_⟩|refine⟨kZ,?_⟩|refine ix ?_|refine ld ?_|refine Cg fun σ hs=>?_|(refine DR (fun hc=>?_)<;>(try rw[hc])<;>clear hc)|refine Bg (c1.use ?_)|refine aq (enc:=pI) (x:=((_:Int),(_:Int))) (fun v σ hs hsl=>?_) (hg:=gD)|(intro nn hnn;generalize hg:A5 _ nn _=σ;refine CN hg fun hs=>?_;clear hg)|clear U K)<;>conv=>whnf)
   exact⟨hlt,_,rfl,trivial,by rw[hst];exact hs.less (K0 _ _)⟩
 ·rw[BI hke]at hs
  conv=>whnf
  repeat'((first|apply st|(apply sq;intro K U)|(apply si;intro A B Y Z)|(apply Y;clear Z B Y A)|(apply U;clear U K)|refine⟨rfl,?_⟩|(refine Ew (fun hc=>?_)<;>(try rw[hc])<;>clear hc)|clear U K)<;>conv=>whnf)
  refine(nv (xs.filter (Bz os.length)) v (by have:=Q7 (Bz os.length) xs;omega)).use (rest:=[]) (by simpa using hs) ?_;clear hs;rintro r post σ ⟨rfl,rfl⟩ hs
  conv=>whnf
  repeat'((first|apply st|(apply Y;clear Z B Y A)|(apply U;clear U K)|fail)<;>conv=>whnf)
  exact AW (by rfl)
def bb (f : Fact):O3 f=true→Pure Tryz.prog 120 [.a (xF f)] (eI (BQ f)):=by
 induction f using Fact.ind with
 | h f ih=>
   intro ha;refine Pure.fit (by kernel_rfl) fun hf=>?_
   have⟨h2,h3,h4⟩:=J5 hf.1;have hM:=Mx;rw[Lw]at ha;simp only[A9,Cf,List.all_map,Ev]at ha;have c1:=OP f;refine vJ kZ ?_;have hs:=Sn;by_cases hlf:Bj f=true
   ·rw [hlf]at c1
    have hw:IntKind.i64.wrap (f.arg+1)=f.arg+1:=wrap64 (by omega) (by omega)
    conv=>whnf
    repeat'((first|apply st|(apply sq;intro K U)|(apply si;intro A B Y Z)|(apply Y;clear Z B Y A)|(apply U;clear U K)|refine⟨rfl,?_⟩|refine⟨kZ,?_⟩|refine c1.use ?_|fail)<;>conv=>whnf)
    all_goals
     refine C3 f.kids.length (fun k (_:Unit)=>[(3,eI (((f.kids.take k).map BQ).foldl EY (if Bj f then f.arg+1 else 0))),(14,eI (Bc k))]) (fun _ _=>[]) (fun _ _=>True) () (by rw[hw,if_pos hlf];rfl) trivial hs ?_;clear hs;rintro k - σ hk - hs;rcases BU f.kids hk with⟨x,hx,hlt⟩|hke
     ·have hxs:=ih x (DL hx) (ha.2 x (DL hx))
      conv=>whnf
      repeat'((first|apply st|(apply sq;intro K U)|(apply si;intro A B Y Z)|(apply Y;clear Z B Y A)|(apply U;clear U K)|refine⟨rfl,?_⟩|refine⟨kZ,?_⟩|refine UR ?_|refine ld ?_|refine Cg fun σ hs=>?_|(refine DR (fun hc=>?_)<;>(try rw[hc])<;>clear hc)|(intro nn hnn;generalize hg:A5 _ nn _=σ;refine CN hg fun hs=>?_;clear hg)|refine Pure.use (by assumption) ?_|clear U K)<;>conv=>whnf)
      exact⟨hlt,(),by rw[Ee _ _ _ hx];rfl,trivial,hs.take 0⟩
     ·conv=>whnf
      repeat'((first|apply st|(apply sq;intro K U)|(apply si;intro A B Y Z)|(apply Y;clear Z B Y A)|(apply U;clear U K)|refine⟨rfl,?_⟩|(refine Ew (fun hc=>?_)<;>(try rw[hc])<;>clear hc)|clear U K)<;>conv=>whnf)
      exact AI (by rw[BI hke,←B4])
   ·rw [Bool.not_eq_true]at hlf
    rw[hlf]at c1;have hlf2: ¬Bj f=true:=by rw[hlf];decide
    conv=>whnf
    repeat'((first|apply st|(apply sq;intro K U)|(apply si;intro A B Y Z)|(apply Y;clear Z B Y A)|(apply U;clear U K)|refine⟨kZ,?_⟩|refine c1.use ?_|fail)<;>conv=>whnf)
    all_goals
     refine C3 f.kids.length (fun k (_:Unit)=>[(3,eI (((f.kids.take k).map BQ).foldl EY (if Bj f then f.arg+1 else 0))),(14,eI (Bc k))]) (fun _ _=>[]) (fun _ _=>True) () (by rw[if_neg hlf2];rfl) trivial hs ?_;clear hs;rintro k - σ hk - hs;rcases BU f.kids hk with⟨x,hx,hlt⟩|hke
     ·have hxs:=ih x (DL hx) (ha.2 x (DL hx))
      conv=>whnf
      repeat'((first|apply st|(apply sq;intro K U)|(apply si;intro A B Y Z)|(apply Y;clear Z B Y A)|(apply U;clear U K)|refine⟨rfl,?_⟩|refine⟨kZ,?_⟩|refine UR ?_|refine ld ?_|refine Cg fun σ hs=>?_|(refine DR (fun hc=>?_)<;>(try rw[hc])<;>clear hc)|(intro nn hnn;generalize hg:A5 _ nn _=σ;refine CN hg fun hs=>?_;clear hg)|refine Pure.use (by assumption) ?_|clear U K)<;>conv=>whnf)
      exact⟨hlt,(),by rw[Ee _ _ _ hx];rfl,trivial,hs.take 0⟩
     ·conv=>whnf
      repeat'((first|apply st|(apply sq;intro K U)|(apply si;intro A B Y Z)|(apply Y;clear Z B Y A)|(apply U;clear U K)|refine⟨rfl,?_⟩|(refine Ew (fun hc=>?_)<;>(try rw[hc])<;>clear hc)|clear U K)<;>conv=>whnf)
      exact AI (by rw[BI hke,←B4])
def VH (v:Int×Int) (n:Int):Pure Tryz.prog 179 [.a (pI v),eI n] (.b (Bz n v)):=by
 obtain⟨k,x⟩:=v;refine ua kZ ?_;have hs:=Sn
 conv=>whnf
 repeat'((first|apply st|(apply sq;intro K U)|(apply si;intro A B Y Z)|(apply Y;clear Z B Y A)|(apply U;clear U K)|refine⟨rfl,?_⟩|(constructor<;>intro hc<;>(try rw[hc])<;>(replace hc:=bp hc)<;>(try simp(disch:=omega) only[BT,wrap64,AN]at hc))|clear U K)<;>conv=>whnf)
 all_goals exact AI (by simp[Bz, *]<;>omega)
def Yn (os:List Ob) (f:Bool) (v:Int×Int):Pure Tryz.prog 178 [.a (pI v),.rp [.l (os.map Gu) f]] (.b (Bz os.length v)):=by
 have e3:((os.map Gu).length:Int)=os.length:=by simp
 have c1:Pure Tryz.prog 179 [.a (pI v),eI ((os.map Gu).length:Int)] (.b (Bz os.length v)):=by rw[e3];exact VH v os.length
 refine ub kZ ?_;have hs:=Sn
 conv=>whnf
 repeat'((first|apply st|(apply sq;intro K U)|(apply si;intro A B Y Z)|(apply Y;clear Z B Y A)|(apply U;clear U K)|refine⟨kZ,?_⟩|refine c1.use ?_|fail)<;>conv=>whnf)
 all_goals exact AI rfl
def O4 (g:FuncId) (fi ca:List V) (q:Int×Int→Bool):Prop:= ∀v,Pure Tryz.prog g (fi++[.a (pI v)]++ca) (.b (q v))
def O4.use {g:FuncId} {fi ca:List V} {q:Int×Int→Bool} (h:O4 g fi ca q) {v:Int×Int} {σ:AH} {k kp:V→AH→Prop} (hk:k (.b (q v)) σ):Aw Tryz.prog (.f (.func g) fi ca) [.a (pI v)] σ (qk k kp):=Bg ((h v).use hk)
def Yk {g:FuncId} {fi ca:List V} {q:Int×Int→Bool} (hpf:O4 g fi ca q) (v:Int×Int):Pure Tryz.prog 256 [.a (pI v),.rp [.f (.func g) fi ca]] (.b (!q v)):=by
 refine tg kZ ?_;have hs:=Sn
 conv=>whnf
 repeat'((first|apply st|(apply sq;intro K U)|(apply si;intro A B Y Z)|(apply Y;clear Z B Y A)|(apply U;clear U K)|refine⟨kZ,?_⟩|refine O4.use hpf ?_|fail)<;>conv=>whnf)
 all_goals exact AI rfl
def Om {α:Type} (q:α→Bool):List α→Nat→Int
 | [],_=> -1
 | v::r,k=>if q v then Om q r (k+1)else k
def Pq {α:Type} (q:α→Bool): ∀(l:List α) (k:Nat),decide (Om q l k≥0)= !l.all q
 | [],_=>rfl
 | v ::r,k=>by
   rw[Om,SZ];cases q v
   ·rw[if_neg (by decide),Bool.false_and]
    exact decide_eq_true (Int.natCast_nonneg k)
   ·rw[if_pos rfl,EW]
    exact Pq q r (k+1)
def jR {g:FuncId} {fi ca:List V} {q:Int×Int→Bool} (hpf:O4 g fi ca q) (l:List (Int×Int)) (b:Bool):Pure Tryz.prog 309 [.l (pP l) b,.f (.func 256) [] [.rp [.f (.func g) fi ca]]] (eI (Om q l 0)):=by
 refine Pure.fit (by kernel_rfl) fun hf=>?_
 have hl:l.length≤Aj:=by
  have:=hf.1;simp only[FY,BT]at this;exact this.1
 have hM:=Mx;refine s9 kZ ?_;have hs:=Sn
 conv=>whnf
 repeat'((first|apply st|(apply sq;intro K U)|(apply si;intro A B Y Z)|(apply Y;clear Z B Y A)|(apply U;clear U K)|fail)<;>conv=>whnf)
 refine C3 l.length (fun k (_:Unit)=>[(8,eI (Bc k))]) (fun _ _=>[]) (fun k _=>Om q l 0=Om q (l.drop k) k) () rfl rfl hs ?_;clear hs;rintro k - σ hk hn hs;have hck:Bc k=k:=AN (by omega);rcases BU l hk with⟨x,hx,hlt⟩|hke
 ·have c1:=Yk hpf x
  rw[drop_cons hx,Om]at hn;cases hv:q x<;>rw[hv]at c1 hn
  ·conv=>whnf
   repeat'((first|apply st|(apply sq;intro K U)|(apply si;intro A B Y Z)|(apply Y;clear Z B Y A)|(apply U;clear U K)|refine⟨rfl,?_⟩|refine⟨kZ,?_⟩|refine ix ?_|refine Iw ?_|(refine DR (fun hc=>?_)<;>(try rw[hc])<;>clear hc)|refine Bg (c1.use ?_)|clear U K)<;>conv=>whnf)
   exact AI (by rw[hn,if_neg (by decide),hck])
  ·conv=>whnf
   repeat'((first|apply st|(apply sq;intro K U)|(apply si;intro A B Y Z)|(apply Y;clear Z B Y A)|(apply U;clear U K)|refine⟨rfl,?_⟩|refine⟨kZ,?_⟩|refine ix ?_|refine GS ?_|(refine DR (fun hc=>?_)<;>(try rw[hc])<;>clear hc)|refine Bg (c1.use ?_)|clear U K)<;>conv=>whnf)
   exact⟨hlt,(),rfl,by rw[hn,if_pos rfl],hs⟩
 ·conv=>whnf
  repeat'((first|apply st|(apply sq;intro K U)|(apply si;intro A B Y Z)|(apply Y;clear Z B Y A)|(apply U;clear U K)|refine⟨rfl,?_⟩|(refine Ew (fun hc=>?_)<;>(try rw[hc])<;>clear hc)|clear U K)<;>conv=>whnf)
  exact AI (by rw[hn,Au hke];rfl)
def Ww {g:FuncId} {fi ca:List V} {q:Int×Int→Bool} (hpf:O4 g fi ca q) (l:List (Int×Int)) (b:Bool):Pure Tryz.prog 255 [.l (pP l) b,.f (.func 256) [] [.rp [.f (.func g) fi ca]]] (.b (!l.all q)):=by
 have c1:=jR hpf l b;refine th kZ ?_;have hs:=Sn
 conv=>whnf
 repeat'((first|apply st|(apply sq;intro K U)|(apply si;intro A B Y Z)|(apply Y;clear Z B Y A)|(apply U;clear U K)|refine⟨rfl,?_⟩|refine c1.use ?_|fail)<;>conv=>whnf)
 all_goals exact AI (by rw[←Pq q l 0])
def gp {g:FuncId} {fi ca:List V} {q:Int×Int→Bool} (hpf:O4 g fi ca q) (l:List (Int×Int)) (b:Bool):Pure Tryz.prog 177 [.l (pP l) b,.f (.func g) fi ca] (.b (l.all q)):=by
 have c1:=Ww hpf l b;refine uc kZ ?_;have hs:=Sn
 conv=>whnf
 repeat'((first|apply st|(apply sq;intro K U)|(apply si;intro A B Y Z)|(apply Y;clear Z B Y A)|(apply U;clear U K)|refine c1.use ?_|fail)<;>conv=>whnf)
 all_goals exact AI (by rw[Bool.not_not])
def fy (w:AJ) (hw:DH w) (c s:Int) (hc0:3≤c) (hc1:c<3+w.parents.length) (hs0:0≤s) (hs1:s<w.owner.length):Pure Tryz.prog 257 [.rp (wC w (B9 w.parents)),eI c,eI s] (.b (((B9 w.parents).getD c.toNat 0).testBit (CZ w s).toNat)):=by
 have hM:=Mx;have hwp:=hw.1.1;have hol:=hw.2.1;have hu:v7 (B9 w.parents):=Hb _ _ (by have:=hw.1.1;omega);have hul:(B9 w.parents).length=3+w.parents.length:=Eo _ _;obtain⟨o,ho⟩: ∃o,w.owner[s.toNat]? =some o:=⟨_,EN (by omega)⟩
 have hoi:CZ w s=o:=by rw[CZ,D9,ho];rfl
 have hor:=hw.2.2 o (DL ho);generalize B9 w.parents=us at *
 have hup:(List.drop (c.toNat*1) (List.drop 2 (wC w us)))[0]? =some (eU (us.getD c.toNat 0)):=by
  rw[kN,kN,←Yz w us (i:=c.toNat) (by omega)];congr 1;omega
 rw[hoi]
 have c1:Pure Tryz.prog 182 [eU (us.getD c.toNat 0),eI o] (.b ((us.getD c.toNat 0).testBit o.toNat)):=by
  have:=PC (us.getD c.toNat 0) o.toNat (Mb hu _) (by omega)
  rwa [Int.toNat_of_nonneg (by omega)]at this
 refine tf kZ ?_;have hs:=Sn
 conv=>whnf
 repeat'((first|apply st|(apply sq;intro K U)|(apply si;intro A B Y Z)|(apply Y;clear Z B Y A)|(apply U;clear U K)|apply dr|refine wN ?_|fail)<;>conv=>whnf)
 rw[hup]
 conv=>whnf
 repeat'((first|apply st|(apply Y;clear Z B Y A)|(apply U;clear U K)|apply dr|refine MI ?_|refine c1.use ?_|fail)<;>conv=>whnf)
 all_goals exact AI rfl
def Zv {w:AJ} (hw:DH w) (hw2:It w) {c s:Int} (hc0:3≤c) (hc1:c<3+w.parents.length) (hs0:0≤s) (hs1:s<w.owner.length):hasB w c s=((B9 w.parents).getD c.toNat 0).testBit (CZ w s).toNat:=by
 have ho:=O9 hw2 ⟨hs0,hs1⟩;rw[PR hw2.ord (by omega),hasB,decide_eq_true hc0,EW,I2,decide_eq_true hc0,EW];have e0:(CZ w s==0)=false:=by rw[beq_eq_false_iff_ne];omega
 have e1:((CZ w s).toNat==0)=false:=by rw[beq_eq_false_iff_ne];omega
 rw[e0,e1,Bool.false_or];by_cases h:c=CZ w s
 ·rw[←h,D2 hw2.ord];simp
 ·rw[beq_eq_false_iff_ne.2 h,Bool.false_or]
def VX (w:AJ) (c:Int) (hw:DH w) (hw2:It w) (hc0:3≤c) (hc1:c<3+w.parents.length):Pure Tryz.prog 253 [.rp (wC w (B9 w.parents)),eI c] (.l (iL (C5 w c)) false):=by
 have hM:=Mx;have hol:=hw2.qE;refine tj kZ ?_;have hs:=Sn
 conv=>whnf
 repeat'((first|apply st|(apply sq;intro K U)|(apply si;intro A B Y Z)|(apply Y;clear Z B Y A)|(apply U;clear U K)|fail)<;>conv=>whnf)
 refine C3 w.owner.length (fun k v=>[(5,v),(13,eI (Bc k))]) (fun k v=>[.own v 1 (iL ((Bk k).filter (hasB w c)))]) (fun _ _=>True) (.l [] true) rfl trivial (GV Sat.nil 1) ?_;clear hs;rintro k v σ hk - hs;have hfl:=Q7 (hasB w c) (Bk k);rw[IJ]at hfl;rcases BU w.owner hk with⟨s,hso,hlt⟩|hke
 ·have hck:Bc k=k:=AN (by omega)
  have c1:Pure Tryz.prog 257 [.rp (wC w (B9 w.parents)),eI c,eI (Bc k)] (.b (hasB w c k)):=by rw[hck,Zv hw hw2 hc0 hc1 (by omega) (by omega)];exact fy w hw c k hc0 hc1 (by omega) (by omega)
  have hst:(Bk (k+1)).filter (hasB w c)=if hasB w c k then(Bk k).filter (hasB w c)++[(k:Int)]else(Bk k).filter (hasB w c):=by
   rw[G5,List.filter_append];cases hp:hasB w c k<;>simp[hp]
  generalize (Bk k).filter (hasB w c)=zs at *;have hll:zs.length<Aj∧(zs.length+1)*8≤140737488355328:=by omega
  cases hh:hasB w c k<;>rw[hh]at c1 hst
  ·conv=>whnf
   repeat'((first|apply st|(apply sq;intro K U)|(apply si;intro A B Y Z)|(apply Y;clear Z B Y A)|(apply U;clear U K)|refine⟨rfl,?_⟩|(refine DR (fun hc=>?_)<;>(try rw[hc])<;>clear hc)|refine c1.use ?_|clear U K)<;>conv=>whnf)
   exact⟨hlt,_,rfl,trivial,by rw[hst];exact hs⟩
  ·conv=>whnf
   repeat'((first|apply st|(apply sq;intro K U)|(apply si;intro A B Y Z)|(apply Y;clear Z B Y A)|(apply U;clear U K)|refine⟨rfl,?_⟩|refine aq fun v σ hs hsl=>?_|(refine DR (fun hc=>?_)<;>(try rw[hc])<;>clear hc)|refine c1.use ?_|clear U K)<;>conv=>whnf)
   exact⟨hlt,_,rfl,trivial,by rw[hst,←hck];exact hs⟩
 ·rw[hke]at hs
  conv=>whnf
  repeat'((first|apply st|(apply sq;intro K U)|(apply si;intro A B Y Z)|(apply Y;clear Z B Y A)|(apply U;clear U K)|refine⟨rfl,?_⟩|(refine Ew (fun hc=>?_)<;>(try rw[hc])<;>clear hc)|clear U K)<;>conv=>whnf)
  exact A8 (hs.IV 0 rfl)
end Go.Gl
namespace Go.Gl
variable {P:Program} {σ:AH}
def A7.oz {f:FuncId} {args args':List V} {σ σ2:AH} {Q:R→AH→Prop} (h:A7 P f args' σ2 Q) (hsub:Sub σ2 σ) (hf:Da σ σ2 args args'):A7 P f args σ Q:=by
 refine⟨h.1,fun Λ w cs G hv=>?_⟩;exact Calls.mono (h.2 Λ w cs (G.drop hsub) ⟨by rw[hf.length];exact hv.1,hf.rel G hsub (fun _ _ e=>e) hv.2⟩) fun e w' ⟨r,σ',hr,h1,h2,h3⟩=>⟨r,σ',hr,h1,h2,(B8.drop w hsub).trans h3⟩
def Pure.arg {f:FuncId} {args args':List V} {v:V} (h:Pure P f args' v) (hf:Da emp emp args args'):Pure P f args v:=A7.oz h (Sub.refl _) hf
def Own.qN {v:V} {sz:Nat} {es es':List (List V)} (h:Own σ v sz es) (G:Fp σ emp es es'):Fj σ emp v (.l es' false):=by
 rcases h with⟨rfl,_⟩|⟨n,cap,rfl,hn⟩
 ·exact .l (fun h=>(by cases h)) G
 ·exact .arr hn rfl rfl G
inductive XU (σ σ':AH):Env→Env→Prop
 | nil:XU σ σ' [] []
 | cons {k:Nat} {v v':V} {e e':Env}:Fj σ σ' v v'→XU σ σ' e e'→XU σ σ' ((k,v)::e) ((k,v')::e')
def XU.efz {σ σ':AH} {e e':Env} (h:XU σ σ' e e'):ym σ σ' e e':=by
 induction h with
 | nil=>intro j v2 hv;cases hv
 | cons h1 h2 ih=>
   rename_i k v v' e e';intro j v2 hv;simp only[get]at hv ⊢;cases hb:Nat.beq k j with
   | true=>
     rw[hb]at hv;simp only[cond_true,IU]at hv ⊢;subst hv;exact⟨v,rfl,h1⟩
   | false=>
     rw[hb]at hv;simp only[cond_false]at hv ⊢;exact ih j v2 hv
def wO {env:Env} {K:Env→AH→Prop} (h:K env σ):Fz env σ K:= .inl h
def xd {env env2:Env} {K:Env→AH→Prop} {l:List At} (hs:Sat σ l) (i:Nat) {v:V} {sz:Nat} {es:List (List V)} (hi:l[i]? =some (.own v sz es))
    (he: ∀σ2,Fj σ σ2 v (.l es false)→XU σ σ2 env env2) (hk: ∀σ2,Sat σ2 (l.eraseIdx i)→K env2 σ2):Fz env σ K:=by
 obtain⟨σ2,h1,h2,h3⟩:=NX hs i hi;exact .inr ⟨env2,σ2,⟨fun n o2 ho=> .inl (h1 n o2 ho)⟩,(he σ2 h2).efz,hk σ2 h3⟩
def xe {env env2:Env} {K:Env→AH→Prop} {l:List At} (hs:Sat σ l) (i j:Nat) {v:V} {sz n:Nat} {es:List (List V)} {vs vs2:List V} (hi:l[i]? =some (.own v sz es)) (hj:l[j]? =some (.box n vs))
    (hv: ∀σ2,Fj σ σ2 v (.l es false)→Da σ σ2 vs vs2) (he: ∀σ2,Fj σ σ2 v (.l es false)→XU σ σ2 env env2) (hk: ∀σ2,Sat σ2 ((l.set j (.box n vs2)).eraseIdx i)→K env2 σ2):Fz env σ K:=by
 have hn:σ n=some (.cs vs):=hs.get hj;have hij:j≠i:=fun e=>by subst e;rw[hj]at hi;cases hi
 have hi2:(l.set j (.box n vs2))[i]? =some (.own v sz es):=by rw[List.getElem?_set_ne hij];exact hi
 obtain⟨σ2,h1,h2,h3⟩:=NX (lC hs hj (.cs vs2)) i hi2
 have hf:Fj σ σ2 v (.l es false):=by
  rcases hs.get hi with⟨rfl,_⟩|⟨m,cap,rfl,hm⟩
  ·exact .l (fun h=>(by cases h)) (.refl _ _ _)
  ·have hmn:m≠n:=fun e=>by
    subst e;rw[hm]at hn;cases hn
   refine .arr hm ?_ rfl (.refl _ _ _);cases h2 with
   | arr _ q _ _=>exact q
 refine .inr ⟨env2,σ2,⟨fun m o2 ho=>?_⟩,(he σ2 hf).efz,hk σ2 h3⟩;have:=h1 m o2 ho;by_cases hmn:m=n
 ·subst hmn
  rw[DQ]at this;cases this;exact .inr ⟨vs,vs2,hn,rfl,hv σ2 hf⟩
 ·rw[Cl _ _ hmn]at this
  exact .inl this
def pg {l:List Nat} {a b:AY} {Q:Ag→Env→AH→Prop} {env:Env} (h: ∀K:Env→AH→Prop,(∀env σ,(pk l env fun E=>Fz E σ (W P b Q))→K env σ)→W P a (Ag.andThen K Q) env σ):W P (.seq l a b) Q env σ:=vg h
end Go.Gl
namespace Go.Gl
open Go.Proofs
structure Qt (w:AJ) (os:List Ob):Prop where
 len:os.length≤40
 own: ∀o∈os,(3:Int)≤o.1∧o.1<3+(w.parents.length:Int)
 num: ∀o∈os,o.2.length=(C5 w o.1).length
 val: ∀o∈os,∀v∈o.2,Bz os.length v=true
def Ze {w:AJ} {os:List Ob} (h:Fs w os=true):Qt w os:=by
 simp only[Fs,A9,Cf,Ev,MR,Sf,DK]at h;exact⟨h.1,fun o ho=>(h.2 o ho).1,fun o ho=>(h.2 o ho).2.1,fun o ho=>(h.2 o ho).2.2⟩
def X4 {w:AJ} {c s:Int}:s∈C5 w c↔(0≤s∧s<(w.owner.length:Int))∧hasB w c s=true:=by
 rw[C5,JS,Eh]
abbrev XI (os:List Ob) (v:Int×Int):Ob:=os.getD v.2.toNat (0,[])
def NO (w:AJ) (os:List Ob) (s:Int) (v:Int×Int):Int×Int:=(XI os v).2.getD ((C5 w (XI os v).1).idxOf s) (0,0)
def bA (w:AJ) (os:List Ob):List Int→Int×Int→Option (Int×Int)
 | [],v=>some v
 | s::r,v=>if v.1==3&&hasB w (XI os v).1 s then bA w os r (NO w os s v)else none
def PQ {n:Int} {v:Int×Int} (h:Bz n v=true) (h3:v.1=3):0≤v.2∧v.2<n:=by
 rw[Bz,if_neg (by omega),if_neg (by omega),if_pos h3]at h;simpa using h
def JW {os:List Ob} {v:Int×Int} (hv:Bz os.length v=true) (h3:v.1=3): ∃o,os[v.2.toNat]? =some o∧XI os v=o∧o∈os:=by
 have:=PQ hv h3;have hl:v.2.toNat<os.length:=by omega
 exact⟨os[v.2.toNat],EN hl,by rw[XI,D9,EN hl];rfl,List.getElem_mem hl⟩
def PU {w:AJ} {os:List Ob} {s:Int} {v:Int×Int} {o:Ob} (hos:Qt w os) (ho:XI os v=o) (hm:o∈os) (hs:0≤s∧s<(w.owner.length:Int)) (hh:hasB w o.1 s=true) :
    ∃i,i<(C5 w o.1).length∧(C5 w o.1).idxOf s=i∧(C5 w o.1)[i]? =some s∧(∀j x,j<i→(C5 w o.1)[j]? =some x→x≠s)∧o.2[i]? =some (NO w os s v)∧Bz os.length (NO w os s v)=true:=by
 have hmem:s∈C5 w o.1:=X4.2 ⟨hs,hh⟩;have hlt:=List.idxOf_lt_length_of_mem hmem;have hn:=hos.num o hm
 have hx:o.2[(C5 w o.1).idxOf s]? =some (NO w os s v):=by
  rw[NO,ho,D9];rw[EN (by omega)];rfl
 refine⟨_,hlt,rfl,?_,fun j x hj hjx e=>?_,hx,hos.val o hm _ (DL hx)⟩
 ·rw[EN hlt,List.getElem_idxOf hlt]
 ·have hjl:=(MK.1 hjx).1
  have:=List.not_of_lt_findIdx (p:=(· ==s)) (xs:=C5 w o.1) (by simpa[List.idxOf]using hj);rw[EN hjl]at hjx;have h2:=Option.some.inj hjx;rw[h2,e]at this;simp at this
def Xs {w:AJ} {os:List Ob} (hos:Qt w os): ∀ {l:List Int} {v u:Int×Int},(∀s∈l,0≤s∧s<(w.owner.length:Int))→Bz os.length v=true→bA w os l v=some u→Bz os.length u=true
 | [],v,u,_,hv,h=>by cases h;exact hv
 | s ::r,v,u,hl,hv,h=>by
   rw[bA]at h;split at h
   ·rename_i hc
    simp only[A9,DK]at hc;obtain⟨o,h1,h2,h3⟩:=JW hv hc.1;obtain⟨i,q1,q2,q3,q4,q5,q6⟩:=PU hos h2 h3 (hl s (.head _)) (h2 ▸ hc.2);exact Xs hos (fun s hs=>hl s (.tail _ hs)) q6 h
   ·cases h
def Y5 (w:AJ) (os:List Ob) (args:List (Int×Int)) (f:Fact):Bool:=match bA w os f.path (args.getD f.arg.toNat (0,0))with
 | none=>false
 | some v=>if f.op=2 then I2 w.parents (Jv os v) f.cls else v.1==1&&(if f.op=3 then decide (v.2<f.n)else v.2==f.n)
def HX (w:AJ) (os:List Ob) (args:List (Int×Int)) (f:Fact) (l:List Bool):Bool:=
 if f.op=1 then true else if f.op=5 then !l.getD 0 false else if f.op=6 then l.getD 0 false&&l.getD 1 false else if f.op=7 then l.getD 0 false||l.getD 1 false else Y5 w os args f
def Ci (w:AJ) (os:List Ob) (args:List (Int×Int)) (f:Fact):Bool:=f.FL (HX w os args)
def JI (w:AJ) (os:List Ob) (args:List (Int×Int)) (f:Fact):Ci w os args f=HX w os args f (f.kids.map (Ci w os args)):=Fact.CG (HX w os args) f
end Go.Gl
namespace Go.Gl
open Go.Proofs
attribute [local irreducible] A7 Ap Af AT AM Ae AS AU AL Ad AO AP Aw A1 Sat AX Az Ah W
abbrev atE (o:Option (Int×Int)):V:= .t [.a (pI (o.getD (0,0))),.b o.isSome]
def we {α:Type} {l:List α} (h:l.length=2): ∃a b,l= [a,b]:=by
 match l,h with
 | [a,b],_=>exact⟨a,b,rfl⟩
def QF {w:AJ} {f:Fact} (h:Al w f=true) :
    f.op=1∨(f.op=5∧ ∃a,f.kids= [a]∧Al w a=true)∨(f.op=6∧ ∃a b,f.kids= [a,b]∧Al w a=true∧Al w b=true)∨(f.op=7∧ ∃a b,f.kids= [a,b]∧Al w a=true∧Al w b=true)∨
     ((f.op=2∨f.op=3∨f.op=4)∧Bj f=true∧(∀s∈f.path,0≤s∧s<(w.owner.length:Int))∧(f.op=2→0≤f.cls∧f.cls<3+(w.parents.length:Int))∧0≤f.arg):=by
 rw[Bs]at h;simp only[Cq,A9,Ev,DK,Cf]at h;obtain⟨⟨ho,hk,ha0,ha3,hp,-⟩,hks⟩:=h;simp only[EH,A9,Ev,HT,Cf]at hp;by_cases h2:f.op=2
 ·rw[Qp,if_pos h2]at ho
  simp only[Oj,A9,Cf]at ho;exact .inr (.inr (.inr (.inr ⟨.inl h2,by simp[Bj,h2],hp.1,fun _=>ho.2,ha0⟩)))
 by_cases h34:f.op=3∨f.op=4
 ·exact .inr (.inr (.inr (.inr ⟨.inr h34,by rcases h34 with h|h<;>simp[Bj,h],hp.1,fun h=>absurd h h2,ha0⟩)))
 rw[Qp,if_neg h2,if_neg h34]at ho;simp only[F6,DK]at ho;rcases ho with((h1|h5)|h6)|h7
 ·exact .inl h1
 ·rw[Bp,if_pos h5]at hk
  obtain⟨a,ha⟩:=List.length_eq_one_iff.1 hk;exact .inr (.inl ⟨h5,a,ha,hks a (by rw[ha];exact .head _)⟩)
 ·rw[Bp,if_neg (by omega),if_pos (.inl h6)]at hk
  obtain⟨a,b,ha⟩:=we hk;exact .inr (.inr (.inl ⟨h6,a,b,ha,hks a (by rw[ha];exact .head _),hks b (by rw[ha];exact .tail _ (.head _))⟩))
 ·rw[Bp,if_neg (by omega),if_pos (.inr h7)]at hk
  obtain⟨a,b,ha⟩:=we hk;exact .inr (.inr (.inr (.inl ⟨h7,a,b,ha,hks a (by rw[ha];exact .head _),hks b (by rw[ha];exact .tail _ (.head _))⟩)))
def FI: ∀(l:List Int) (a:Int) {x:Int},x∈l→x≤l.foldl EY a
 | y ::r,a,x,h=>by
   rcases F7.1 h with rfl|h
   ·refine Int.le_trans ?_ (Cr r _)
    unfold EY;split<;>omega
   ·exact FI r _ h
def EE {f a:Fact} (h:a∈f.kids):BQ a≤BQ f:=by
 rw[B4 f];exact FI _ _ (List.mem_map_of_mem h)
def P3 {f:Fact} (h:Bj f=true):f.arg+1≤BQ f:=by
 rw[B4 f,if_pos h];exact Cr _ _
structure Ask (p:Prog) (os:List Ob) (gen:Int) (args:List (Int×Int)):Prop where
 look:(Bd p).isSome=true
 lA:Qt (AR p) os
 ew:Ju p gen=true
 len:(args.length:Int)=p.C1.getD gen.toNat 0
 wT: ∀v∈args,Bz os.length v=true
def Xt {p:Prog} {os:List Ob} {gen:Int} {args:List (Int×Int)} (h:C8 p os gen args=true):Ask p os gen args:=by
 simp only[C8,A9,Cf,Ev]at h;exact⟨h.1,Ze h.2.1,h.2.2.1,h.2.2.2.1,h.2.2.2.2⟩
def Zm {p:Prog} (h:(Bd p).isSome=true) {x:MX} (hx:x∈p.methods):(1≤x.kind∧x.kind≤4)∧CA (AR p) x.fact=true∧Al (AR p) x.fact=true∧BQ x.fact≤p.C1.getD x.gen.toNat 0:=by
 have:=(Es h).2 x hx;simp only[Qj,A9,Cf]at this;have hf:=this.2.2.2.2.1;simp only[CA,A9,Cf]at hf;exact⟨⟨this.1,this.2.1⟩,this.2.2.2.2.1,hf.2.2,this.2.2.2.2.2⟩
def qS (p:Prog) (os:List Ob) (gen:Int) (args:List (Int×Int)) (k:Nat):List Int:=(Bk k).filter fun m=>(BG p m).gen==gen&&Ci (AR p) os args (BG p m).fact
def Su (p:Prog) (os:List Ob) (gen:Int) (args:List (Int×Int)):List Int:=qS p os gen args p.methods.length
def Lx (p:Prog) (os:List Ob) (gen:Int) (args:List (Int×Int)):List Int×Int:=if C8 p os gen args then(Su p os gen args,0)else([],2)
def yN (p:Prog) (l:List Int) (k:Int):List Int:=l.filter fun m=>(BG p m).kind==k
end Go.Gl
namespace Go.Gl
open Go.Proofs
structure oy (p:Prog) (l:List Int):Prop where
 ot: ∀x∈l,Dq p x=true
 gen: ∀x∈l,∀y∈l,(BG p x).gen=(BG p y).gen
 nodup:l.Nodup
 many:l.length≤16
def LP {p:Prog} {l:List Int} {k x:Int} (h:x∈yN p l k):x∈l∧(BG p x).kind=k:=by
 have:=JS.1 h;exact⟨this.1,by simpa using this.2⟩
def mJ {p:Prog} {l:List Int} {k:Int}:(yN p l k).length≤l.length:=Q7 _ _
def oy.of {p:Prog} {l:List Int} (h:oy p l) (k:Int):rj p (yN p l k)∧(yN p l k).Nodup:=by
 refine⟨⟨fun x hx=>h.ot x (LP hx).1,fun x hx y hy=>?_,Nat.le_trans mJ h.many⟩,h.nodup.sublist (List.filter_sublist ..)⟩;rw[gq,h.gen x (LP hx).1 y (LP hy).1,(LP hx).2,(LP hy).2];simp
def bD.sub {T:List (List Bool)} {l l':List Int} (h:bD T l) (hs: ∀x∈l',x∈l) (hl:l'.length≤l.length):bD T l':=⟨h.len,h.sq,fun x hx=>h.ins x (hs x hx),Nat.le_trans hl h.many⟩
attribute [local irreducible] A7 Ap Af AT AM Ae AS AU AL Ad AO AP Aw A1 Sat AX Az Ah W
end Go.Gl
namespace Go.Gl
open Go.Proofs
attribute [local irreducible] A7 Ap Af AT AM Ae AS AU AL Ad AO AP Aw A1 Sat AX Az Ah W
end Go.Gl
