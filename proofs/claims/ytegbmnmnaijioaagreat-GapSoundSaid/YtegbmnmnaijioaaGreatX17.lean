import Derived.Test.YtegbmnmnaijioaaGreatX5
import Derived.Test.YtegbmnmnaijioaaGreatX6
import Derived.Test.YtegbmnmnaijioaaGreatX12
import Derived.Test.YtegbmnmnaijioaaGreatX14
import Derived.Test.YtegbmnmnaijioaaGreatX15
import Derived.Test.YtegbmnmnaijioaaGreatX16
set_option linter.all false
set_option linter.defProp false
set_option maxHeartbeats 8000000
noncomputable section
namespace Go.Gl
open Go.Proofs
attribute [local irreducible] Ar Aj AZ AQ AL AX AP AR AJ AW AM AN Am Av Sat AT As Aa W
def rb (p:Prog) (c:Int):Bool:=decide (1<=c)&&decide (c<3+(p.AO.length:Int))
def SO (p:Prog) (gen:Int) (cs:List Int):Bool:=((cs.length:Int)==p.Cb.getD gen.toNat 0)&&cs.all (rb p)
def VC {p:Prog} {gen:Int} {cs:List Int} (h:FI p gen=true) (hc:SO p gen cs=true):(∀c∈cs,1<=c/\c<3+((AK p).parents.length:Int))/\cs.length<=3:=by
 rw[FI,A0,Ja,A0,CC,CC]at h;rw[SO,A0,Cd,DJ]at hc;have hl:(AK p).parents.length=p.AO.length:=by simp[AK,Az]
 refine⟨fun c hm=>?_,?_⟩
 .have:=hc.2 c hm
  rw[rb,A0,CC,CC]at this;rw[hl];exact this
 .obtain⟨hh,-⟩:=EF h.1
  simp only[C2,A0,CC,DJ]at hh;have hlt:gen.toNat<p.Cb.length:=by omega
  have:=hh.2.2.2.2.2 _ (List.getElem_mem hlt);have e:p.Cb.getD gen.toNat 0=p.Cb[gen.toNat]:=by rw[C6,DC hlt];rfl
  rw[e]at hc;omega
def rF (p:Prog) (h10:p.AO.length<=10) (c:Int):Pure zP 79 [eI c,.rp (BR p)] (.b (!rb p c)):=by
 have ec:((p.AO.map UF).length:Int)=p.AO.length:=by simp
 have hw:IntKind.i64.wrap (3+(p.AO.length:Int))=3+(p.AO.length:Int):=wrap64 (by omega) (by omega);rw[rb];refine ABH kZ ?_;have hs:=Sn
 conv=>whnf
 repeat'((first|clear U K|apply st|(apply zk;intro K U)|refine zY ?_|refine za (fun hc=>?_) fun hc=>?_|fail)<;>conv=>whnf)
 .refine AG ?_
  rw[ec,hw,decide_eq_true (show 1<=c by omega),Cm];show V.b (decide (c≥3+(p.AO.length:Int)))=_;congr 1;rw[G3];simp
 .exact AG (by rw[decide_eq_false (show¬1<=c by omega)];rfl)
def rG (p:Prog) (gen:Int) (cs:List Int) (f:Bool) (h:FI p gen=true):Pure zP 78 [.a (na p gen),.rp [.l (iL cs) f],.rp (BR p),.rp [eI gen]] (.b (SO p gen cs)):=by
 have h2:=h;rw[FI,A0,Ja,A0,CC,CC]at h2;have c1:Pure zP 49 [.l (iL cs) f,.f (.func 79) [] [.rp (BR p)]] (.b (cs.any fun c=> !rb p c)):=JM f fun y _=>rF p (kI h2.1) y
 have hlt:gen.toNat<p.Cb.length:=by omega
 have hg:p.Cb[gen.toNat]? =some (p.Cb.getD gen.toNat 0):=by rw[C6,DC hlt];rfl
 have ecs:((iL cs).length:Int)=cs.length:=by simp
 have hn:cs.all (rb p)= !cs.any fun c=> !rb p c:=List.all_eq_not_any_not
 rw[SO,hn];generalize p.Cb.getD gen.toNat 0=n at *;refine ABI kZ ?_;have hs:=Sn
 conv=>whnf
 repeat'((first|clear U K|apply st|(apply zk;intro K U)|refine zY ?_|refine zC ?_|(refine zd (fun hc=>?_) (fun hc=>?_)<;>try exact⟨⟩)|fail)<;>conv=>whnf)
 .exact AG (by rw[Cd.2 (show(cs.length:Int)=n by omega)];rfl)
 .exact AG (by rw[beq_eq_false_iff_ne.2 (show(cs.length:Int)≠n by omega)];rfl)
abbrev tW (p:Prog) (gen:Int) (cs:List Int):V:= .t [if NZ p gen (SO p gen cs)=0 then .l ((G4 p gen (T7 (AK p) cs)).map gM) false else .l [] true,eI (NZ p gen (SO p gen cs))]
def Of23 (p:Prog) (gen:Int) (cs:List Int) (f:Bool):Pure zP 23 [.a (BR p),eI gen,.l (iL cs) f] (tW p gen cs):=by
 have c1:=Ui p gen 78 [.rp [.l (iL cs) f],.rp (BR p),.rp [eI gen]] (SO p gen cs) (fun h=>rG p gen cs f h);rw[tW];cases h1:FI p gen
 .rw[(H8 h1 _).1,(H8 h1 _).2]at c1
  rw[(H8 h1 _).2];refine aP kZ ?_;have hs:=Sn;exact zW
 cases h2:SO p gen cs
 .rw[h2,QH.1,QH.2]at c1
  rw[QH.2];refine aP kZ ?_;have hs:=Sn;exact zW
 rw[h2,(Ga h1).1,(Ga h1).2]at c1;rw[(Ga h1).2];by_cases h8:(Gw p gen).length<=8
 .have hl:=h1
  rw[FI,A0]at hl;have hw:=(look_ok hl.1).nY;have hcs:=VC h1 h2;have c2:=jC (gen:=gen) (ms:=Gw p gen) hl.1 cs f;have c3:=U8 (fun l hl=>Qe hw fun x hx=>GK (hl x hx)) (aL hw hcs.1) h1 h8 (aj _ (QB hl.1) cs f hcs.2);rw[if_pos h8]at c1 ⊢;rw[if_pos rfl];refine aP kZ ?_;have hs:=Sn
  conv=>whnf
  repeat'((first|clear U K|apply st|(apply zk;intro K U)|refine zY ?_|refine rk ?_ ?_|exact fun s e=>by cases e;rfl|refine zs fun Z hs=>?_|refine zC ?_|(refine zb (fun hc=>?_) (fun hc=>?_)<;>try exact⟨⟩)|refine zo fun nn hnn Z hs=>?_|fail)<;>conv=>whnf)
  all_goals exact AG rfl
 .rw[if_neg h8]at c1 ⊢
  rw[if_neg (by decide)];refine aP kZ ?_;have hs:=Sn;exact zW
end Go.Gl
namespace Go.Gl
open Go.Proofs
section
variable {g:FuncId} {fi ca:List V} {p:Prog} {gen:Int} {ms:List Int} {tog:List Fact->Bool}
attribute [local irreducible] Ar Aj AZ AQ AL AX AP AR AJ AW AM AN Am Av Sat AT As Aa W
end
attribute [local irreducible] Ar Aj AZ AQ AL AX AP AR AJ AW AM AN Am Av Sat AT As Aa W
end Go.Gl
namespace Go.Gl
open Go.Proofs
attribute [local irreducible] Ar Aj AZ AQ AL AX AP AR AJ AW AM AN Am Av Sat AT As Aa W
end Go.Gl
namespace Go.Gl
open Go.Proofs
end Go.Gl
namespace Go.Gl
open Go.Proofs
attribute [local irreducible] Ar Aj AZ AQ AL AX AP AR AJ AW AM AN Am Av Sat AT As Aa W
def memG (xs:List (List Int×Int)) (l:List Int):Bool:=xs.any fun x=>x.1==l
def find33 (s0:List Int->Int) (xs:List (List Int×Int)) (hxs: ∀x∈xs,x.2=s0 x.1) (hxl:xs.length<=256) (f:Bool) (l:List Int) (g:Bool) :
    Pure zP 33 [.l (xs.map gM) f,.l (iL l) g] (.t [.a (if memG xs l then gM (l,s0 l)else [.l [] true,eI 0]),.b (memG xs l)]):=by
 have hM:=Mx;refine Pure.of ?_;refine ABV kZ ?_;have hs:=Sn
 conv=>whnf
 repeat'((first|clear U K|apply st|(apply zk;intro K U)|refine zY ?_|refine rk ?_ ?_|exact fun s e=>by cases e;rfl|refine ze fun x hx=>?_|refine zs fun Z hs=>?_|refine zC ?_|(refine zb (fun hc=>?_) (fun hc=>?_)<;>try exact⟨⟩)|refine zo fun nn hnn Z hs=>?_|fail)<;>conv=>whnf)
 generalize nn=n4 at *;refine CZ xs.length (fun k (_:Unit)=>[(10,eI (BL k))]) (fun _ _=>[.box n4 [.l [] true,eI 0]]) (fun k _=>memG xs l=memG (xs.drop k) l) () rfl rfl hs ?_;clear hs;rintro k - Z hk hR hs;have hck:BL k=k:=Ag (by omega);rcases BF xs hk with⟨x,hx,hlt⟩|hke
 .rw [drop_cons hx,memG,memG,SA,<-memG,<-memG]at hR
  have c1:=az x.1 l false g;have hx2:=hxs x (CY hx);cases hq:(x.1==l)<;>rw[hq]at c1 hR
  .rw[Bool.false_or]at hR
   conv=>whnf
   repeat'((first|clear U K|apply st|(apply zk;intro K U)|refine zY ?_|refine rk ?_ ?_|exact fun s e=>by cases e;rfl|refine ze fun x hx=>?_|refine zs fun Z hs=>?_|refine zC ?_|(refine zb (fun hc=>?_) (fun hc=>?_)<;>try exact⟨⟩)|refine zo fun nn hnn Z hs=>?_|fail)<;>conv=>whnf)
   exact⟨hlt,(),rfl,hR,hs.less (by simp)⟩
  .rw[Bool.true_or]at hR
   have e:x=(l,s0 l):=by
    have:=Cd.1 hq;rw[<-this,<-hx2]
   subst e
   conv=>whnf
   repeat'((first|clear U K|apply st|(apply zk;intro K U)|refine zY ?_|refine rk ?_ ?_|exact fun s e=>by cases e;rfl|refine ze fun x hx=>?_|refine zs fun Z hs=>?_|refine zC ?_|(refine zb (fun hc=>?_) (fun hc=>?_)<;>try exact⟨⟩)|refine zo fun nn hnn Z hs=>?_|fail)<;>conv=>whnf)
   exact AI (by rw[hR];rfl)
 .rw[Ao hke]at hR
  conv=>whnf
  repeat'((first|clear U K|apply st|(apply zk;intro K U)|refine zY ?_|refine rk ?_ ?_|exact fun s e=>by cases e;rfl|refine ze fun x hx=>?_|refine zs fun Z hs=>?_|refine zC ?_|(refine zb (fun hc=>?_) (fun hc=>?_)<;>try exact⟨⟩)|refine zo fun nn hnn Z hs=>?_|fail)<;>conv=>whnf)
  all_goals exact AI (by rw[hR];rfl)
end Go.Gl
namespace Go.Gl
open Go.Proofs
variable {w w':AF} {ps:List Int}
def holdG_5 {w:AF} {os:List Ob} {args:List (Int×Int)} {f:Fact} {l:List Bool} (h:f.op=5):H5 w os args f l= !l.getD 0 false:=by rw[H5,if_neg (by omega),if_pos h]
def holdG_6 {w:AF} {os:List Ob} {args:List (Int×Int)} {f:Fact} {l:List Bool} (h:f.op=6):H5 w os args f l=(l.getD 0 false&&l.getD 1 false):=by rw[H5,if_neg (by omega),if_neg (by omega),if_pos h]
def holdG_7 {w:AF} {os:List Ob} {args:List (Int×Int)} {f:Fact} {l:List Bool} (h:f.op=7):H5 w os args f l=(l.getD 0 false||l.getD 1 false):=by rw[H5,if_neg (by omega),if_neg (by omega),if_neg (by omega),if_pos h]
def holdG_l {w:AF} {os:List Ob} {args:List (Int×Int)} {f:Fact} {l:List Bool} (h:f.op=2\/f.op=3\/f.op=4):H5 w os args f l=aI w os args f:=by rw[H5,if_neg (by omega),if_neg (by omega),if_neg (by omega),if_neg (by omega)]
def trN (w:AF) (os:List Ob) (v:Int×Int) (kid:Int->GQ):GQ:=
 if Bi os.length v then(if v.1=1 then .int v.2 else if v.1=2 then .JV else .obj (fun c=>GC w.parents (Ve os v).1.toNat c) kid)else .JV
def trV (w:AF) (os:List Ob):Nat->Int×Int->GQ
 | 0,v=>trN w os v fun _=> .JV
 | d+1,v=>trN w os v fun s=>trV w os d (OS w os s v)
def trN_ok {w:AF} (hw:GP w) (os:List Ob) (v:Int×Int) {kid:Int->GQ} (hk: ∀s,FG w (kid s)):FG w (trN w os v kid):=by
 unfold trN;split
 .rename_i hv
  split
  .rename_i h1
   simp only[Bi,if_pos h1,A0,CC]at hv;exact hv
  .split
   .trivial
   .refine⟨fun c _ hc q hq=>?_,hk⟩
    refine IM hw.ord _ c _ hc ?_;rw[EI hw.ord,Ea,Hn];exact .inr ⟨q,hq,C9 hw.ord _⟩
 .trivial
def trV_ok {w:AF} (hw:GP w) (os:List Ob): ∀(d:Nat) (v:Int×Int),FG w (trV w os d v)
 | 0,v=>trN_ok hw os v fun _=>trivial
 | d+1,v=>trN_ok hw os v fun s=>trV_ok hw os d _
def trV_leaf {w:AF} (hw:GP w) {os:List Ob} (hos:K9 w os) (d:Nat) {u:Int×Int} (hu:Bi os.length u=true) {f:Fact} (hc:f.op=2->0<=f.cls) :
    DK (trV w os d u) f=if f.op=2 then G0 w.parents (Cs os u) f.cls else u.1==1&&(if f.op=3 then decide (u.2<f.n)else u.2==f.n):=by
 obtain⟨kid,e⟩: ∃kid,trV w os d u=trN w os u kid:=by cases d<;>exact⟨_,rfl⟩
 rw[e,trN,if_pos hu];rcases Nc hu with h1|h2|h3
 .have hcv:Cs os u=1:=by rw[Cs,if_pos h1]
  rw[if_pos h1];simp only[DK];by_cases h:f.op=2
  .rw[if_pos h,if_pos h,hcv,G0,G3]
   have:=hc h;simp;omega
  .rw[if_neg h,if_neg h,Cd.2 h1,Cm]
   split
   .rfl
   .rw[G3,CC,Cd]
 .have hcv:Cs os u=2:=by rw[Cs,if_neg (by omega),if_pos h2]
  rw[if_neg (by omega),if_pos h2];simp only[DK];by_cases h:f.op=2
  .rw[if_pos h,hcv,G0,G3]
   have:=hc h;simp[h];omega
  .rw[if_neg h,beq_eq_false_iff_ne.2 (show u.1≠1 by omega),beq_eq_false_iff_ne.2 h]
   rfl
 .obtain⟨o,q1,q2,q3⟩:=GI hu h3
  have hoo:=hos.own o q3;have hcv:Cs os u=o.1:=by rw[Cs,if_neg (by omega),if_neg (by omega)];exact congrArg Prod.fst q2
  rw[if_neg (by omega),if_neg (by omega),q2];simp only[DK];by_cases h:f.op=2
  .have h0:=hc h
   rw[if_pos h,hcv,G0,Cd.2 h,Cm,decide_eq_true hoo.1,Cm];by_cases hz:f.cls=0
   .rw[hz];simp
   rw[beq_eq_false_iff_ne.2 hz,Bool.false_or,Bool.false_or];by_cases h3c:3<=f.cls
   .rw[decide_eq_true h3c,Cm]
    by_cases he:o.1=f.cls
    .rw[he,C9 hw.ord];simp
    .rw[beq_eq_false_iff_ne.2 he,Bool.false_or]
   .rw[decide_eq_false h3c,Bool.false_and,beq_eq_false_iff_ne.2 (show o.1≠f.cls by omega),Bool.false_or]
    cases hb:GC w.parents o.1.toNat f.cls.toNat
    .rfl
    .have:=Jn hw.ord _ _ (by omega) hb
     omega
  .rw[if_neg h,beq_eq_false_iff_ne.2 (show u.1≠1 by omega),beq_eq_false_iff_ne.2 h]
   rfl
def lfT_nil (w:AF) (t:GQ) (f:Fact):Ko w t [] f=DK t f:=by cases t<;>rfl
def has_up {w:AF} (hw:GP w) {c s:Int} (hc:3<=c) (hs:0<=s/\s<(w.owner.length:Int)):hasB w c s=GC w.parents c.toNat (Bc w s).toNat:=by
 have ho:=Ih hw hs;rw[hasB,G0,decide_eq_true hc,Cm,beq_eq_false_iff_ne.2 (show Bc w s≠0 by omega),Bool.false_or,Cm];by_cases he:c=Bc w s
 .rw[<-he,C9 hw.ord];simp
 .rw[beq_eq_false_iff_ne.2 he,Bool.false_or]
def trV_at {w:AF} (hw:GP w) {os:List Ob} (hos:K9 w os) (f:Fact): ∀(l:List Int) (d:Nat) (v:Int×Int),l.length<=d->(∀s∈l,0<=s/\s<(w.owner.length:Int))->Bi os.length v=true->
    Ko w (trV w os d v) l f=match cz w os l v with|none=>false|some u=>DK (trV w os (d - l.length) u) f
 | [],d,v,_,_,_=>by rw[lfT_nil];rfl
 | s::r,0,v,h,_,_=>by simp at h
 | s ::r,d+1,v,h,hl,hv=>by
   have hs:=hl s (.head _);rw[cz,trV,trN,if_pos hv];rcases Nc hv with h1|h2|h3
   .rw[if_pos h1,beq_eq_false_iff_ne.2 (show v.1≠3 by omega)];rfl
   .rw[if_neg (by omega),if_pos h2,beq_eq_false_iff_ne.2 (show v.1≠3 by omega)];rfl
   .obtain⟨o,q1,q2,q3⟩:=GI hv h3
    have hoo:=hos.own o q3;rw[if_neg (by omega),if_neg (by omega),Ko,Cd.2 h3,Cm,q2,has_up hw hoo.1 hs];cases hh:GC w.parents o.1.toNat (Bc w s).toNat
    .rfl
    .obtain⟨i,_,_,_,_,_,hv2⟩:=Qf hos q2 q3 hs (by rw[has_up hw hoo.1 hs,hh])
     rw[Cm,if_pos rfl,trV_at hw hos f r d _ (by simpa using h) (fun x hx=>hl x (.tail _ hx)) hv2];rw[Lr,Nat.add_sub_add_right]
def mdO (w:AF) (os:List Ob) (args:List (Int×Int)) (a:Int):GQ:=trV w os 2 (args.getD a.toNat (0,0))
def mdO_ok {w:AF} (hw:GP w) (os:List Ob) (args:List (Int×Int)) (a:Int):FG w (mdO w os args a):=trV_ok hw os 2 _
def node_path {w:AF} {f:Fact} (h:BN w f=true):f.path.length<=2:=by
 rw[By,A0]at h;have h1:=h.1;simp only[C8,Eo,A0,CC]at h1;exact h1.2.2.2.2.1.2
def ev_hold {w:AF} (hw:GP w) {os:List Ob} (hos:K9 w os) {args:List (Int×Int)} (hv: ∀v∈args,Bi os.length v=true) (f:Fact):BN w f=true->DE f<=args.length->Sd w (mdO w os args) f=Dr w os args f:=by
 induction f using Fact.ind with
 | h f ih=>
   intro hn hsp;rw[Ua,XD];have hk1: ∀x∈f.kids,DE x<=args.length:=fun x hx=>Int.le_trans (GR hx) hsp
   have hpl:=node_path hn;rcases RY hn with h1|⟨h5,x,hk,hx⟩|⟨h6,x,y,hk,hx,hy⟩|⟨h7,x,y,hk,hx,hy⟩|⟨hop,hlf,hp,hcl,ha0⟩
   .simp only[YQ,H5,if_pos h1]
   .have e1:=ih x (by rw[hk];exact .head _) hx (hk1 x (by rw[hk];exact .head _))
    rw[AA9 h5,holdG_5 h5,hk];simp only[EW,List.map_nil,e1]
   .have e1:=ih x (by rw[hk];exact .head _) hx (hk1 x (by rw[hk];exact .head _))
    have e2:=ih y (by rw[hk];exact .tail _ (.head _)) hy (hk1 y (by rw[hk];exact .tail _ (.head _)));rw[AA8 h6,holdG_6 h6,hk];simp only[EW,List.map_nil,e1,e2]
   .have e1:=ih x (by rw[hk];exact .head _) hx (hk1 x (by rw[hk];exact .head _))
    have e2:=ih y (by rw[hk];exact .tail _ (.head _)) hy (hk1 y (by rw[hk];exact .tail _ (.head _)));rw[AA7 h7,holdG_7 h7,hk];simp only[EW,List.map_nil,e1,e2]
   .rw[AA6 hop,holdG_l hop]
    have hsl:=RH hlf
    have hva:Bi os.length (args.getD f.arg.toNat (0,0))=true:=by
     have hl:f.arg.toNat<args.length:=by omega
     rw[C6,DC hl];exact hv _ (List.getElem_mem hl)
    rw[aI,mdO,trV_at hw hos f _ 2 _ hpl hp hva];cases hu:cz w os f.path (args.getD f.arg.toNat (0,0))with
    | none=>rfl
    | some u=>exact trV_leaf hw hos _ (Y5 hos hp hva hu) fun h=>(hcl h).1
def trN_okC {w:AF} {os:List Ob} (hos:K9 w os) (v:Int×Int) {kid:Int->GQ} (hk: ∀s,Sc w (kid s)):Sc w (trN w os v kid):=by
 unfold trN;split
 .rename_i hv
  split
  .rename_i h1
   simp only[Bi,if_pos h1,A0,CC]at hv;exact hv
  .split
   .trivial
   .have h3:v.1=3:=by
     rcases Nc hv with h|h|h
     .contradiction
     .contradiction
     .exact h
    obtain⟨o,-,q2,q3⟩:=GI hv h3;have:=hos.own o q3;exact⟨⟨(Ve os v).1.toNat,by rw[q2];omega,by rw[q2];omega,fun b=>rfl⟩,hk⟩
 .trivial
def trV_okC {w:AF} {os:List Ob} (hos:K9 w os): ∀(d:Nat) (v:Int×Int),Sc w (trV w os d v)
 | 0,v=>trN_okC hos v fun _=>trivial
 | d+1,v=>trN_okC hos v fun s=>trV_okC hos d _
def trV_top {w:AF} {os:List Ob} (hos:K9 w os) (d:Nat) {v:Int×Int} (hv:Bi os.length v=true):SL w (trV w os d v) (Cs os v).toNat/\0<=Cs os v:=by
 obtain⟨kid,e⟩: ∃kid,trV w os d v=trN w os v kid:=by cases d<;>exact⟨_,rfl⟩
 rw[e,trN,if_pos hv];rcases Nc hv with h1|h2|h3
 .rw[if_pos h1,Cs,if_pos h1]
  exact⟨rfl,by decide⟩
 .rw[if_neg (by omega),if_pos h2,Cs,if_neg (by omega),if_pos h2]
  exact⟨rfl,by decide⟩
 .obtain⟨o,q1,q2,q3⟩:=GI hv h3
  have:=hos.own o q3;have hcv:Cs os v=o.1:=by rw[Cs,if_neg (by omega),if_neg (by omega)];exact congrArg Prod.fst q2
  rw[if_neg (by omega),if_neg (by omega),hcv,q2];exact⟨⟨by omega,by omega,fun b=>rfl⟩,by omega⟩
def clsV_in {w:AF} {os:List Ob} (hos:K9 w os) {v:Int×Int} (hv:Bi os.length v=true):1<=Cs os v/\Cs os v<3+(w.parents.length:Int):=by
 rcases Nc hv with h1|h2|h3
 .rw[Cs,if_pos h1];omega
 .rw[Cs,if_neg (by omega),if_pos h2];omega
 .obtain⟨o,q1,q2,q3⟩:=GI hv h3
  have:=hos.own o q3;have hcv:Cs os v=o.1:=by rw[Cs,if_neg (by omega),if_neg (by omega)];exact congrArg Prod.fst q2
  rw[hcv];omega
def mdO_okMC {w:AF} {os:List Ob} (hos:K9 w os) {args:List (Int×Int)} (hv: ∀v∈args,Bi os.length v=true):gm w (args.map (Cs os)) (mdO w os args):=fun a=>⟨trV_okC hos 2 _,fun h0 _=>by
 rcases Nat.lt_or_ge a.toNat args.length with hl|hl
 .have hva:=hv _ (List.getElem_mem hl)
  have e:args.getD a.toNat (0,0)=args[a.toNat]:=by rw[C6,DC hl];rfl
  obtain⟨t1,t2⟩:=trV_top hos 2 hva;refine⟨(Cs os args[a.toNat]).toNat,by rw[mdO,e];exact t1,?_⟩;have e2:(args.map (Cs os)).getD a.toNat 0=Cs os args[a.toNat]:=by rw[C6,OR,DC hl];rfl
  rw[Hu,e2,Int.toNat_of_nonneg t2,beq_self_eq_true,Bool.or_true]
 .obtain⟨c,k,_⟩:=Yj (mdO w os args a) (trV_okC hos 2 _)
  exact⟨c,k,by rw[Hu,Ca,decide_eq_true (by omega)];rfl⟩⟩
def sound_can {p:Prog} {os:List Ob} {gen:Int} {args:List (Int×Int)} (h:Ask p os gen args) {tog:List Fact->Bool} {OK:(Int->GQ)->Prop} (htog: ∀l,(∀x∈l,DY (AK p) x)->(tog l=true↔ ∃M,OK M/\ ∀x∈l,FH (AK p) M x))
    (hM:OK (mdO (AK p) os args)):(G1 p os gen args,cn p (G1 p os gen args))∈G4 p gen tog:=by
 have hok:=look_ok h.look
 have hm: ∀m∈Gw p gen,Bb p m=true/\(BO p m).gen=gen:=fun m hm=>by
  have:=Pe p gen m;rw[List.contains_iff_mem.2 hm]at this;have:=zrH.1 this.symm;exact⟨this.1,Cd.1 this.2⟩
 have hn: ∀f∈Jr p gen,BN (AK p) f=true:=fun f hf=>by
  obtain⟨m,hmm,rfl⟩:=Hp.1 hf;exact(hok.facts _ (CY (CX (hm m hmm).1))).1
 have hE:Yc tog (Jr p gen) (Sq p gen (AK p) os args)=true:=by
  refine(Mv htog hn _).2 ⟨mdO (AK p) os args,hM,fun x hx=>?_⟩;rw[Jr,Sq,List.zip_map',Hp]at hx;obtain⟨m,hmm,rfl⟩:=hx;obtain⟨-,-,hnn,hsp⟩:=Ux h.look (CY (CX (hm m hmm).1));rw[(hm m hmm).2,<-h.len]at hsp;exact ev_hold hok.nY h.gp h.nz _ hnn hsp
 have hmem:=XJ (E:=Yc tog (Jr p gen)) (fun a b hab=>m7 htog hn a b hab) (Gw p gen).length [] (Sq p gen (AK p) os args) (by rw[Sq,Ca]) hE;rw[G4,Hp];exact⟨_,hmem,by rw[Xd];rfl⟩
structure Cal where
 p:Prog
 gen:Int
 os:List Ob
 args:List (Int×Int)
abbrev eCal (c:Cal):List V:=BR c.p++([eI c.gen]++([.l (c.os.map Gt) false]++([.l (pP c.args) false]++[])))
section
variable {H:Type} {enc:TypeId×Value->H} {W:World}
def rdCal:SJ enc Tryz.prog W 76 eCal:=fun n=>
 GG (Er Tryz.underlying76
  (fun n=>BH (c:=6) rfl (by kernel_rfl) (fun _=>rfl) (tn n)
   (BH (c:=1) rfl (by kernel_rfl) (fun _=>rfl) (Lv n) (BH (c:=1) rfl (by kernel_rfl) (fun _=>rfl) (AAX n)
    (BH (c:=1) rfl (by kernel_rfl) (fun _=>rfl) (jF n) GH)))) (fun _=>(show _=9 from rfl).trans (by kernel_rfl)) n) (fun x=>⟨x.1,x.2.1,x.2.2.1,x.2.2.2.1⟩) fun _=>rfl
end
def plan_len {A:Int->Int->Bool} {p:Prog} {l:List Int}:(EH A p l).1.ar.length<=l.length/\(EH A p l).1.pr.length<=l.length:=by
 have hk: ∀k,(Du p l k).length<=l.length:=fun k=>Pr _ _
 rw[EH];split
 .exact⟨Nat.zero_le _,Nat.zero_le _⟩
 .exact⟨Nat.le_trans (I1 A _ _ rfl).1 (hk 4),Nat.le_trans (I1 A _ _ rfl).1 (hk 1)⟩
attribute [local irreducible] Ar Aj AZ AQ AL AX AP AR AJ AW AM AN Am Av Sat AT As Aa W
def classes54 (c:Cal) (hv: ∀v∈c.args,Bi c.os.length v=true) (hal:c.args.length<=3):Pure zP 54 [.a (eCal c)] (.l (iL (c.args.map (Cs c.os))) false):=by
 have hM:=Mx;refine ABQ kZ ?_;have hs:=Sn
 conv=>whnf
 repeat'((first|clear U K|apply st|(apply zk;intro K U)|refine zY ?_|refine rk ?_ ?_|exact fun s e=>by cases e;rfl|refine ze fun x hx=>?_|refine zs fun Z hs=>?_|refine aq (enc:=fun x:Int=>[eI x]) (x:=(_:Int)) (fun v Z hs hsl=>?_)|refine zC ?_|(refine zb (fun hc=>?_) (fun hc=>?_)<;>try exact⟨⟩)|refine zo fun nn hnn Z hs=>?_|fail)<;>conv=>whnf)
 refine CZ c.args.length (fun k v=>[(3,v),(9,eI (BL k))]) (fun k v=>[.own v 1 (iL ((c.args.take k).map (Cs c.os)))]) (fun _ _=>True) (.l [] true) rfl trivial (Gy hs 1) ?_;clear hs;rintro k v Z hk - hs;have hck:BL k=k:=Ag (by omega);rcases BF c.args hk with⟨x,hx,hlt⟩|hke
 .have c1:=Z3 c.os false x (hv x (CY hx))
  have hx2:c.args[(BL k).toNat]? =some x:=by rw[hck,HP];exact hx
  have hst:(c.args.take (k+1)).map (Cs c.os)=(c.args.take k).map (Cs c.os)++[Cs c.os x]:=by rw[AU hx,VV];rfl
  have hal2:((c.args.take k).map (Cs c.os)).length<=3:=by rw[Ca,Lq];omega
  generalize (c.args.take k).map (Cs c.os)=zl at *;have hll:zl.length<Ae/\(zl.length+1)*8<=140737488355328:=by omega
  conv=>whnf
  repeat'((first|clear U K|apply st|(apply zk;intro K U)|refine zY ?_|refine rk ?_ ?_|exact fun s e=>by cases e;rfl|refine ze fun x hx=>?_|refine zs fun Z hs=>?_|refine aq (enc:=fun x:Int=>[eI x]) (x:=(_:Int)) (fun v Z hs hsl=>?_)|refine zC ?_|(refine zb (fun hc=>?_) (fun hc=>?_)<;>try exact⟨⟩)|refine zo fun nn hnn Z hs=>?_|fail)<;>conv=>whnf)
  exact⟨hlt,_,rfl,trivial,by rw[hst];exact hs.less (K7 _ _)⟩
 .rw[BC hke]at hs
  conv=>whnf
  repeat'((first|clear U K|apply st|(apply zk;intro K U)|refine zY ?_|refine rk ?_ ?_|exact fun s e=>by cases e;rfl|refine ze fun x hx=>?_|refine zs fun Z hs=>?_|refine aq (enc:=fun x:Int=>[eI x]) (x:=(_:Int)) (fun v Z hs hsl=>?_)|refine zC ?_|(refine zb (fun hc=>?_) (fun hc=>?_)<;>try exact⟨⟩)|refine zo fun nn hnn Z hs=>?_|fail)<;>conv=>whnf)
  exact BZ (hs.HQ 0 rfl)
end Go.Gl
namespace Go.Gl
open Go.Proofs
def setsV_st {p:Prog} {gen:Int} {tog:List Fact->Bool}: ∀x∈G4 p gen tog,x.2=cn p x.1:=fun x hx=>by
 rw[G4,Hp]at hx;obtain⟨bs,-,rfl⟩:=hx;rfl
attribute [local irreducible] Ar Aj AZ AQ AL AX AP AR AJ AW AM AN Am Av Sat AT As Aa W
end Go.Gl
namespace Go.Gl
open Go.Proofs
def memG_of {p:Prog} {xs:List (List Int×Int)} {l:List Int} (h:(l,cn p l)∈xs):memG xs l=true:=Hn.2 ⟨_,h,beq_self_eq_true _⟩
def clsG_of {p:Prog} {os:List Ob} {gen:Int} {args:List (Int×Int)} (h:Ask p os gen args):SO p gen (args.map (Cs os))=true:=by
 have hl:(AK p).parents.length=p.AO.length:=by simp[AK,Az]
 rw[SO,Ca,h.len,beq_self_eq_true,Cm,DJ];intro c hc;obtain⟨v,hv,rfl⟩:=Hp.1 hc;have:=clsV_in h.gp (h.nz v hv);rw[hl]at this;rw[rb,decide_eq_true this.1,decide_eq_true this.2];rfl
attribute [local irreducible] Ar Aj AZ AQ AL AX AP AR AJ AW AM AN Am Av Sat AT As Aa W
def gapSound13 (c:Cal) (c0:Pure zP 17 [] (.b true)):Pure zP 13 [.a (eCal c)] (.b true):=by
 have hM:=Mx;have c1:=rM c.p c.os false c.gen c.args false;cases h1:Ch c.p c.os c.gen c.args<;>rw[h1]at c1
 .refine iZ kZ ?_
  have hs:=Sn
  conv=>whnf
  repeat'((first|clear U K|apply st|(apply zk;intro K U)|refine zY ?_|refine rk ?_ ?_|exact fun s e=>by cases e;rfl|refine ze fun x hx=>?_|refine zs fun Z hs=>?_|refine d1.use ?_|refine d2.use ?_|refine d3.use ?_|refine d4.use ?_|refine zC ?_|(refine zb (fun hc=>?_) (fun hc=>?_)<;>try exact⟨⟩)|refine zo fun nn hnn Z hs=>?_|fail)<;>conv=>whnf)
  all_goals exact AG rfl
 have ha:=Y6 h1;have hok:=look_ok ha.look;have c2:=gF c.p c.os false c.gen c.args false;rw[Mz,h1,if_pos rfl]at c2;dsimp only at c2;have hgen:FI c.p c.gen=true:=by rw[FI,ha.look,ha.sG];rfl
 have hcg:=clsG_of ha;have hal:=(VC hgen hcg).2;rw[Ca]at hal;have c3:=zA c.p c.gen;have c4:=nT c.p c.gen;have c5:=classes54 c ha.nz hal;have c6:=Of23 c.p c.gen (c.args.map (Cs c.os)) false;rw[Yf]at c3 c4;rw[tW,hcg]at c6;by_cases h8:(Gw c.p c.gen).length<=8
 .have h0:NZ c.p c.gen true=0:=by rw[(Ga hgen).2,if_pos h8]
  rw[h0,if_pos rfl]at c3 c4 c6;have hw:=hok.nY;have m1:=memG_of (sound_can ha (sI hw) (mdO_ok hw c.os c.args));have hcs:=(VC hgen hcg).1;have hMC:=mdO_okMC ha.gp ha.nz;have m2:=memG_of (sound_can ha (aL hw bQ) (lq hMC));have m3:=memG_of (sound_can ha (aL hw hcs) hMC);have d1:=find33 (cn c.p) _ setsV_st (N3 (tog:=HR (AK c.p)) h8) false (G1 c.p c.os c.gen c.args) true;have d2:=find33 (cn c.p) _ setsV_st (N3 (tog:=T7 (AK c.p) []) h8) false (G1 c.p c.os c.gen c.args) true;have d3:=find33 (cn c.p) _ setsV_st (N3 (tog:=T7 (AK c.p) (c.args.map (Cs c.os))) h8) false (G1 c.p c.os c.gen c.args) true;rw[m1,if_pos rfl]at d1;rw[m2,if_pos rfl]at d2;rw[m3,if_pos rfl]at d3;have hsub:(G1 c.p c.os c.gen c.args).Sublist (Gw c.p c.gen):=by rw[Xd];exact Ri _ _
  have d4:=y9 c.p c.gen (G1 c.p c.os c.gen c.args) true;rw[UL,hgen,if_pos rfl,au hsub,if_pos rfl,if_pos h8]at d4;dsimp only at d4;have c9':=zE c.p c.os false c.gen c.args false;rw[aS,h1,if_pos rfl]at c9';have c9:=fun _:Unit=>c9'
  clear c9';have hpl:=plan_len (A:=Au c.p) (p:=c.p) (l:=G1 c.p c.os c.gen c.args);have hst:=AAS (A:=Au c.p) (p:=c.p) (l:=G1 c.p c.os c.gen c.args);have hll:(G1 c.p c.os c.gen c.args).length<=8:=Nat.le_trans hsub.length_le h8;rw[cn]at d1 d2 d3 d4;generalize G4 c.p c.gen (HR (AK c.p))=S1 at *;generalize G4 c.p c.gen (T7 (AK c.p) [])=S2 at *;generalize G4 c.p c.gen (T7 (AK c.p) (c.args.map (Cs c.os)))=S3 at *;generalize G1 c.p c.os c.gen c.args=l at *;generalize EH (Au c.p) c.p l=x at *;generalize T2 x=s at *;clear m1 m2 m3 hMC hcs hw hcg hok ha;refine Pure.of ?_;refine iZ kZ ?_;have hs:=Sn
  conv=>whnf
  repeat'((first|clear U K|apply st|(apply zk;intro K U)|refine zY ?_|refine rk ?_ ?_|exact fun s e=>by cases e;rfl|refine ze fun x hx=>?_|refine zs fun Z hs=>?_|refine d1.use ?_|refine d2.use ?_|refine d3.use ?_|refine d4.use ?_|refine zC ?_|(refine zb (fun hc=>?_) (fun hc=>?_)<;>try exact⟨⟩)|refine zo fun nn hnn Z hs=>?_|fail)<;>conv=>whnf)
  all_goals try(exfalso;simp at hc;done)
  obtain⟨i4,hlack,hhas,htorn,hmay,hfine⟩:=hst;obtain⟨⟨ar,NP,be,pr,prt,af⟩,b⟩:=x;dsimp only at hlack hhas htorn hmay hfine hpl;have hlen:(((iL ar).length:Nat):Int)=ar.length/\(((iL pr).length:Nat):Int)=pr.length:=by simp
  have c9u:=c9 ();clear c9;rcases i4 with rfl|rfl|rfl|rfl
  .obtain rfl:=hhas (by decide)
   obtain⟨rfl,rfl,hp⟩:=hfine rfl;rw[show OW (⟨ar,false,be,pr,false,af⟩,true)=(⟨ar,false,be,pr,false,af⟩,0) from rfl]at c9u;refine c9u.use ?_
   conv=>whnf
   repeat'((first|clear U K|apply st|(apply zk;intro K U)|refine zY ?_|refine rk ?_ ?_|exact fun s e=>by cases e;rfl|refine ze fun x hx=>?_|refine zs fun Z hs=>?_|refine d1.use ?_|refine d2.use ?_|refine d3.use ?_|refine d4.use ?_|refine zC ?_|(refine zb (fun hc=>?_) (fun hc=>?_)<;>try exact⟨⟩)|refine zo fun nn hnn Z hs=>?_|fail)<;>conv=>whnf)
   all_goals first|exact AI rfl|(exfalso;omega)|(exfalso;rw[decide_eq_true (show((pr.length:Nat):Int) > 0 by omega)]at hc;cases hc)|(exfalso;simp at *;done)|(refine AI ?_;simp;done)
  .obtain rfl:=hhas (by decide)
   obtain⟨ht,hp⟩:=hmay rfl;rw[show OW (⟨ar,NP,be,pr,prt,af⟩,true)=(⟨ar,NP,be,pr,prt,af⟩,0) from rfl]at c9u;have hw:IntKind.i64.wrap ((ar.length:Int)+pr.length)=(ar.length:Int)+pr.length:=wrap64 (by omega) (by omega);cases NP<;>cases prt
   .rcases ht with h|h<;>cases h
   all_goals
    refine c9u.use ?_
    conv=>whnf
    repeat'((first|clear U K|apply st|(apply zk;intro K U)|refine zY ?_|refine rk ?_ ?_|exact fun s e=>by cases e;rfl|refine ze fun x hx=>?_|refine zs fun Z hs=>?_|refine d1.use ?_|refine d2.use ?_|refine d3.use ?_|refine d4.use ?_|refine zC ?_|(refine zb (fun hc=>?_) (fun hc=>?_)<;>try exact⟨⟩)|refine zo fun nn hnn Z hs=>?_|fail)<;>conv=>whnf)
    all_goals first|exact AI rfl|(exfalso;omega)|(exfalso;simp at *;done)|(exfalso;simp at *;omega)|(refine AI ?_;simp;done)|(refine AI ?_;simp;omega)
  .obtain rfl:=hhas (by decide)
   obtain⟨rfl,ht⟩:=htorn rfl;rw[show OW (⟨[],NP,be,pr,prt,af⟩,true)=(⟨[],NP,be,pr,prt,af⟩,0) from rfl]at c9u;cases NP
   .rcases ht with h|⟨rfl,rfl⟩
    .cases h
    refine c9u.use ?_
    conv=>whnf
    repeat'((first|clear U K|apply st|(apply zk;intro K U)|refine zY ?_|refine rk ?_ ?_|exact fun s e=>by cases e;rfl|refine ze fun x hx=>?_|refine zs fun Z hs=>?_|refine d1.use ?_|refine d2.use ?_|refine d3.use ?_|refine d4.use ?_|refine zC ?_|(refine zb (fun hc=>?_) (fun hc=>?_)<;>try exact⟨⟩)|refine zo fun nn hnn Z hs=>?_|fail)<;>conv=>whnf)
    all_goals first|exact AI rfl|(exfalso;omega)|(exfalso;simp at *;done)|(exfalso;simp at *;omega)|(refine AI ?_;simp;done)|(refine AI ?_;simp;omega)
   .refine c9u.use ?_
    conv=>whnf
    repeat'((first|clear U K|apply st|(apply zk;intro K U)|refine zY ?_|refine rk ?_ ?_|exact fun s e=>by cases e;rfl|refine ze fun x hx=>?_|refine zs fun Z hs=>?_|refine d1.use ?_|refine d2.use ?_|refine d3.use ?_|refine d4.use ?_|refine zC ?_|(refine zb (fun hc=>?_) (fun hc=>?_)<;>try exact⟨⟩)|refine zo fun nn hnn Z hs=>?_|fail)<;>conv=>whnf)
    all_goals first|exact AI rfl|(exfalso;omega)|(exfalso;simp at *;done)|(exfalso;simp at *;omega)|(refine AI ?_;simp;done)|(refine AI ?_;simp;omega)
  .obtain rfl:=hlack rfl
   rw[show OW (⟨ar,NP,be,pr,prt,af⟩,false)=(sh,5) from rfl]at c9u;refine c9u.use ?_
   conv=>whnf
   repeat'((first|clear U K|apply st|(apply zk;intro K U)|refine zY ?_|refine rk ?_ ?_|exact fun s e=>by cases e;rfl|refine ze fun x hx=>?_|refine zs fun Z hs=>?_|refine d1.use ?_|refine d2.use ?_|refine d3.use ?_|refine d4.use ?_|refine zC ?_|(refine zb (fun hc=>?_) (fun hc=>?_)<;>try exact⟨⟩)|refine zo fun nn hnn Z hs=>?_|fail)<;>conv=>whnf)
   all_goals first|exact AI rfl|(exfalso;omega)|(exfalso;simp at *;done)|(exfalso;simp at *;omega)|(refine AI ?_;simp;done)|(refine AI ?_;simp;omega)
 .have h0:NZ c.p c.gen true=3:=by rw[(Ga hgen).2,if_neg h8]
  rw[h0,if_neg (by decide)]at c3 c4 c6;refine iZ kZ ?_;have hs:=Sn
  conv=>whnf
  repeat'((first|clear U K|apply st|(apply zk;intro K U)|refine zY ?_|refine rk ?_ ?_|exact fun s e=>by cases e;rfl|refine ze fun x hx=>?_|refine zs fun Z hs=>?_|refine d1.use ?_|refine d2.use ?_|refine d3.use ?_|refine d4.use ?_|refine zC ?_|(refine zb (fun hc=>?_) (fun hc=>?_)<;>try exact⟨⟩)|refine zo fun nn hnn Z hs=>?_|fail)<;>conv=>whnf)
  all_goals first
   | exact AG rfl
   | (exfalso;simp at hc;done)
end Go.Gl
namespace Go.Gl
variable {P:Program} {F:Nat->Prop} {Z:AE} {pu:List FuncId} {fz:List Nat}
end Go.Gl
namespace Go.Gl
def F2 {α β:Type} (R:α->β->Prop):List α->List β->Prop
 | [],l=>l= []
 | x::xs,l=> ∃y ys,R x y/\F2 R xs ys/\l=y::ys
section
variable {α β:Type} {R R':α->β->Prop}
def F2.nil:F2 R [] []:=rfl
def F2.cons {x:α} {y:β} {xs:List α} {ys:List β} (h:R x y) (h':F2 R xs ys):F2 R (x::xs) (y::ys):=⟨y,ys,h,h',rfl⟩
def F2.len: ∀ {xs:List α} {ys:List β},F2 R xs ys->ys.length=xs.length
 | [],_,h=>by cases h;rfl
 | _::_,_,⟨_,_,_,h,e⟩=>by subst e;simp[F2.len h]
def F2.get: ∀ {xs:List α} {ys:List β},F2 R xs ys-> ∀ {i:Nat} {x:α},xs[i]? =some x-> ∃y,ys[i]? =some y/\R x y
 | x::xs,_,⟨y,ys,h1,h2,e⟩,i,z,hi=>by
   subst e;cases i with
   | zero=>simp at hi;subst hi;exact⟨y,by simp,h1⟩
   | succ i=>simp at hi;simpa using F2.get h2 hi
def F2.mono (hm: ∀x y,R x y->R' x y): ∀ {xs:List α} {ys:List β},F2 R xs ys->F2 R' xs ys
 | [],_,h=>h
 | _::_,_,⟨y,ys,h1,h2,e⟩=>⟨y,ys,hm _ _ h1,F2.mono hm h2,e⟩
def F2.app: ∀ {xs xs':List α} {ys ys':List β},F2 R xs ys->F2 R xs' ys'->F2 R (xs++xs') (ys++ys')
 | [],_,_,_,h,h'=>by cases h;exact h'
 | _::_,_,_,_,⟨y,ys,h1,h2,e⟩,h'=>by subst e;exact⟨y,ys++_,h1,F2.app h2 h',rfl⟩
def F2.take: ∀ {xs:List α} {ys:List β},F2 R xs ys-> ∀n,F2 R (xs.take n) (ys.take n)
 | [],_,h,n=>by cases h;simp;rfl
 | _::_,_,⟨y,ys,h1,h2,e⟩,n=>by
   subst e;cases n with
   | zero=>exact rfl
   | succ n=>exact⟨y,_,h1,F2.take h2 n,rfl⟩
def F2.drop: ∀ {xs:List α} {ys:List β},F2 R xs ys-> ∀n,F2 R (xs.drop n) (ys.drop n)
 | [],_,h,n=>by cases h;simp;rfl
 | _::_,_,⟨y,ys,h1,h2,e⟩,n=>by
   subst e;cases n with
   | zero=>exact⟨y,ys,h1,h2,rfl⟩
   | succ n=>exact F2.drop h2 n
def F2.set: ∀ {xs:List α} {ys:List β},F2 R xs ys-> ∀(i:Nat) {x:α} {y:β},R x y->F2 R (xs.set i x) (ys.set i y)
 | [],_,h,i,_,_,_=>by cases h;simp;rfl
 | _::_,_,⟨y,ys,h1,h2,e⟩,i,_,_,h=>by
   subst e;cases i with
   | zero=>exact⟨_,_,h,h2,rfl⟩
   | succ i=>exact⟨_,_,h1,F2.set h2 i h,rfl⟩
def F2.rep {x:α} {y:β} (h:R x y): ∀n,F2 R (List.replicate n x) (List.replicate n y)
 | 0=>rfl
 | n+1=>⟨y,_,h,F2.rep h n,rfl⟩
def F2.mem: ∀ {xs:List α} {ys:List β},F2 R xs ys-> ∀ {y:β},y∈ys-> ∃x,x∈xs/\R x y
 | [],_,h,y,hy=>by cases h;cases hy
 | x ::_,_,⟨z,zs,h1,h2,e⟩,y,hy=>by
   subst e;rcases Fl.1 hy with rfl|hy
   .exact⟨x,.head _,h1⟩
   .obtain⟨u,hu,hr⟩:=F2.mem h2 hy
    exact⟨u,.tail _ hu,hr⟩
def F2.fn (hf: ∀x y z,R x y->R x z->y=z): ∀ {xs:List α} {ys zs:List β},F2 R xs ys->F2 R xs zs->ys=zs
 | [],_,_,h,h'=>by cases h;cases h';rfl
 | _::_,_,_,⟨y,ys,h1,h2,e⟩,⟨z,zs,h3,h4,e'⟩=>by
   subst e;subst e';rw[hf _ _ _ h1 h3,F2.fn hf h2 h4]
end
abbrev Ren:=Nat->Option (Nat×Nat)
def Ren.le (Y Y':Ren):Prop:= ∀i m,Y i=some m->Y' i=some m
def Ren.le.refl (Y:Ren):Y.le Y:=fun _ _ h=>h
def Ren.le.trans {a b c:Ren} (h:a.le b) (k:b.le c):a.le c:=fun i m e=>k i m (h i m e)
def c7 (Y:Ren):Fn->Fn->Prop
 | .yield i,f=> ∃m,Y i=some m/\f= .yield m.1
 | fn,f=>f=fn
mutual
def RV (Y:Ren):V->V->Prop
 | .p n off,v=> ∃m,Y n=some m/\v= .p m.1 off
 | .sl n len _,v=> ∃m,Y n=some m/\v= .sl m.1 len m.2
 | .sv n sz off len,v=> ∃m,Y n=some m/\v= .sv m.1 sz off len
 | .pe n sz i off,v=> ∃m,Y n=some m/\v= .pe m.1 sz i off
 | .m n,v=> ∃m,Y n=some m/\v= .m m.1
 | .rp cs,v=> ∃cs',RL Y cs cs'/\v= .rp cs'
 | .l es f,v=> ∃es',RR Y es es'/\v= .l es' f
 | .f fn first cap,v=> ∃fn' first' cap',c7 Y fn fn'/\RL Y first first'/\RL Y cap cap'/\v= .f fn' first' cap'
 | .FF t x,v=> ∃x',RV Y x x'/\v= .FF t x'
 | .a cs,v=> ∃cs',RL Y cs cs'/\v= .a cs'
 | .t cs,v=> ∃cs',RL Y cs cs'/\v= .t cs'
 | .b x,v=>v= .b x
 | .i k n,v=>v= .i k n
 | .s x,v=>v= .s x
 | .pn,v=>v= .pn
 | .mn,v=>v= .mn
 | .Lx,v=>v= .Lx
 | .Dv,v=>v= .Dv
 | .any,v=>v= .any
def RL (Y:Ren):List V->List V->Prop
 | [],l=>l= []
 | x::xs,l=> ∃y ys,RV Y x y/\RL Y xs ys/\l=y::ys
def RR (Y:Ren):List (List V)->List (List V)->Prop
 | [],l=>l= []
 | x::xs,l=> ∃y ys,RL Y x y/\RR Y xs ys/\l=y::ys
end
def Bf {Y:Ren}: ∀ {xs ys:List V},RL Y xs ys↔F2 (RV Y) xs ys
 | [],_=>by simp only[RL,F2]
 | x::xs,l=>by
   simp only[RL,F2];constructor
   .rintro⟨y,ys,h1,h2,rfl⟩;exact⟨y,ys,h1,Bf.1 h2,rfl⟩
   .rintro⟨y,ys,h1,h2,rfl⟩;exact⟨y,ys,h1,Bf.2 h2,rfl⟩
def Ft {Y:Ren}: ∀ {xs ys:List (List V)},RR Y xs ys↔F2 (F2 (RV Y)) xs ys
 | [],_=>by simp only[RR,F2]
 | x::xs,l=>by
   simp only[RR,F2];constructor
   .rintro⟨y,ys,h1,h2,rfl⟩;exact⟨y,ys,Bf.1 h1,Ft.1 h2,rfl⟩
   .rintro⟨y,ys,h1,h2,rfl⟩;exact⟨y,ys,Bf.2 h1,Ft.2 h2,rfl⟩
def c7.mono {Y Y':Ren} (h:Y.le Y') {f g:Fn} (k:c7 Y f g):c7 Y' f g:=by
 cases f<;>first|exact k|exact⟨_,h _ _ k.choose_spec.1,k.choose_spec.2⟩
mutual
def RV.mono {Y Y':Ren} (h:Y.le Y'): ∀(v v':V),RV Y v v'->RV Y' v v'
 | .p _ _,_,k| .sl _ _ _,_,k| .sv _ _ _ _,_,k| .pe _ _ _ _,_,k| .m _,_,k=>by
   simp only[RV]at k ⊢;obtain⟨m,h1,h2⟩:=k;exact⟨m,h _ _ h1,h2⟩
 | .rp cs,_,k=>by
   simp only[RV]at k ⊢;obtain⟨c,h1,h2⟩:=k;exact⟨c,RL.mono h _ _ h1,h2⟩
 | .a cs,_,k=>by
   simp only[RV]at k ⊢;obtain⟨c,h1,h2⟩:=k;exact⟨c,RL.mono h _ _ h1,h2⟩
 | .t cs,_,k=>by
   simp only[RV]at k ⊢;obtain⟨c,h1,h2⟩:=k;exact⟨c,RL.mono h _ _ h1,h2⟩
 | .l es f,_,k=>by
   simp only[RV]at k ⊢;obtain⟨c,h1,h2⟩:=k;exact⟨c,RR.mono h _ _ h1,h2⟩
 | .f fn a b,_,k=>by
   simp only[RV]at k ⊢;obtain⟨g,c,d,h1,h2,h3,h4⟩:=k;exact⟨g,c,d,h1.mono h,RL.mono h _ _ h2,RL.mono h _ _ h3,h4⟩
 | .FF t x,_,k=>by
   simp only[RV]at k ⊢;obtain⟨c,h1,h2⟩:=k;exact⟨c,RV.mono h _ _ h1,h2⟩
 | .b _,_,k| .i _ _,_,k| .s _,_,k| .pn,_,k| .mn,_,k| .Lx,_,k| .Dv,_,k| .any,_,k=>by
   simp only[RV]at k ⊢;exact k
def RL.mono {Y Y':Ren} (h:Y.le Y'): ∀(l l':List V),RL Y l l'->RL Y' l l'
 | [],_,k=>by simp only[RL]at k ⊢;exact k
 | x::xs,_,k=>by
   simp only[RL]at k ⊢;obtain⟨y,ys,h1,h2,h3⟩:=k;exact⟨y,ys,RV.mono h _ _ h1,RL.mono h _ _ h2,h3⟩
def RR.mono {Y Y':Ren} (h:Y.le Y'): ∀(l l':List (List V)),RR Y l l'->RR Y' l l'
 | [],_,k=>by simp only[RR]at k ⊢;exact k
 | x::xs,_,k=>by
   simp only[RR]at k ⊢;obtain⟨y,ys,h1,h2,h3⟩:=k;exact⟨y,ys,RL.mono h _ _ h1,RR.mono h _ _ h2,h3⟩
end
def c7.fn {Y:Ren} {f g g':Fn} (h:c7 Y f g) (k:c7 Y f g'):g=g':=by
 cases f<;>first|(simp only[c7]at h k;rw[h,k];done)|skip
 simp only[c7]at h k;obtain⟨m,h1,rfl⟩:=h;obtain⟨m',h2,rfl⟩:=k;rw[h1]at h2;cases h2;rfl
mutual
def RV.fn {Y:Ren}: ∀(v a b:V),RV Y v a->RV Y v b->a=b
 | .p _ _,_,_,k,k'| .sl _ _ _,_,_,k,k'| .sv _ _ _ _,_,_,k,k'| .pe _ _ _ _,_,_,k,k'| .m _,_,_,k,k'=>by
   simp only[RV]at k k';obtain⟨m,h1,rfl⟩:=k;obtain⟨m',h2,rfl⟩:=k';rw[h1]at h2;cases h2;rfl
 | .rp _,_,_,k,k'| .a _,_,_,k,k'| .t _,_,_,k,k'=>by
   simp only[RV]at k k';obtain⟨m,h1,rfl⟩:=k;obtain⟨m',h2,rfl⟩:=k';rw[RL.fn _ _ _ h1 h2]
 | .l _ _,_,_,k,k'=>by
   simp only[RV]at k k';obtain⟨m,h1,rfl⟩:=k;obtain⟨m',h2,rfl⟩:=k';rw[RR.fn _ _ _ h1 h2]
 | .f fn a b,_,_,k,k'=>by
   simp only[RV]at k k';obtain⟨g,c,d,h1,h2,h3,rfl⟩:=k;obtain⟨g',c',d',h1',h2',h3',rfl⟩:=k';rw[h1.fn h1',RL.fn _ _ _ h2 h2',RL.fn _ _ _ h3 h3']
 | .FF t x,_,_,k,k'=>by
   simp only[RV]at k k';obtain⟨m,h1,rfl⟩:=k;obtain⟨m',h2,rfl⟩:=k';rw[RV.fn _ _ _ h1 h2]
 | .b _,_,_,k,k'| .i _ _,_,_,k,k'| .s _,_,_,k,k'| .pn,_,_,k,k'| .mn,_,_,k,k'| .Lx,_,_,k,k'| .Dv,_,_,k,k'| .any,_,_,k,k'=>by
   simp only[RV]at k k';rw[k,k']
def RL.fn {Y:Ren}: ∀(l a b:List V),RL Y l a->RL Y l b->a=b
 | [],_,_,k,k'=>by simp only[RL]at k k';rw[k,k']
 | x::xs,_,_,k,k'=>by
   simp only[RL]at k k';obtain⟨y,ys,h1,h2,rfl⟩:=k;obtain⟨z,zs,h3,h4,rfl⟩:=k';rw[RV.fn _ _ _ h1 h3,RL.fn _ _ _ h2 h4]
def RR.fn {Y:Ren}: ∀(l a b:List (List V)),RR Y l a->RR Y l b->a=b
 | [],_,_,k,k'=>by simp only[RR]at k k';rw[k,k']
 | x::xs,_,_,k,k'=>by
   simp only[RR]at k k';obtain⟨y,ys,h1,h2,rfl⟩:=k;obtain⟨z,zs,h3,h4,rfl⟩:=k';rw[RL.fn _ _ _ h1 h3,RR.fn _ _ _ h2 h4]
end
def Nf:Fn->Bool
 | .yield _=>false
 | _=>true
mutual
def BM:V->Bool
 | .p _ _=>false
 | .sl _ _ _=>false
 | .sv _ _ _ _=>false
 | .pe _ _ _ _=>false
 | .m _=>false
 | .rp cs=>CH cs
 | .a cs=>CH cs
 | .t cs=>CH cs
 | .l es _=>Sh es
 | .f fn a b=>Nf fn&&(CH a&&CH b)
 | .FF _ x=>BM x
 | _=>true
def CH:List V->Bool
 | []=>true
 | x::xs=>BM x&&CH xs
def Sh:List (List V)->Bool
 | []=>true
 | x::xs=>CH x&&Sh xs
end
mutual
def RV.pure {Y:Ren}: ∀(v:V),BM v=true->RV Y v v
 | .p _ _,h| .sl _ _ _,h| .sv _ _ _ _,h| .pe _ _ _ _,h| .m _,h=>by simp[BM]at h
 | .rp cs,h| .a cs,h| .t cs,h=>by simp only[BM]at h;simp only[RV];exact⟨_,RL.pure cs h,rfl⟩
 | .l es f,h=>by simp only[BM]at h;simp only[RV];exact⟨_,RR.pure es h,rfl⟩
 | .f fn a b,h=>by
   simp only[BM,A0]at h;simp only[RV];refine⟨fn,a,b,?_,RL.pure a h.2.1,RL.pure b h.2.2,rfl⟩;cases fn<;>first|rfl|(simp[Nf]at h)
 | .FF t x,h=>by simp only[BM]at h;simp only[RV];exact⟨_,RV.pure x h,rfl⟩
 | .b _,_| .i _ _,_| .s _,_| .pn,_| .mn,_| .Lx,_| .Dv,_| .any,_=>by simp only[RV]
def RL.pure {Y:Ren}: ∀(v:List V),CH v=true->RL Y v v
 | [],_=>by simp only[RL]
 | x::xs,h=>by
   simp only[CH,A0]at h;simp only[RL];exact⟨x,xs,RV.pure x h.1,RL.pure xs h.2,rfl⟩
def RR.pure {Y:Ren}: ∀(v:List (List V)),Sh v=true->RR Y v v
 | [],_=>by simp only[RR]
 | x::xs,h=>by
   simp only[Sh,A0]at h;simp only[RR];exact⟨x,xs,RL.pure x h.1,RR.pure xs h.2,rfl⟩
end
def RV.nr {Y:Ren} {v v':V} (h:RV Y v v') (hp:BM v=true):v'=v:=RV.fn v _ _ h (RV.pure v hp)
mutual
def Ew:V->V->Bool
 | .b x,.b y=>x==y
 | .i k n,.i k' n'=>decide (k=k')&&decide (n=n')
 | .s x,.s y=>decide (x=y)
 | .pn,.pn=>true
 | .p n o,.p n' o'=>Nat.beq n n'&&Nat.beq o o'
 | .rp a,.rp b=>NY a b
 | .l a f,.l b g=>(f==g)&&dO a b
 | .sl n a b,.sl n' a' b'=>Nat.beq n n'&&(Nat.beq a a'&&Nat.beq b b')
 | .sv n a b c,.sv n' a' b' c'=>Nat.beq n n'&&(Nat.beq a a'&&(Nat.beq b b'&&Nat.beq c c'))
 | .pe n a b c,.pe n' a' b' c'=>Nat.beq n n'&&(Nat.beq a a'&&(Nat.beq b b'&&Nat.beq c c'))
 | .m n,.m n'=>Nat.beq n n'
 | .mn,.mn=>true
 | .f fn a b,.f fn' a' b'=>decide (fn=fn')&&(NY a a'&&NY b b')
 | .Lx,.Lx=>true
 | .FF t v,.FF t' v'=>Nat.beq t t'&&Ew v v'
 | .Dv,.Dv=>true
 | .a a,.a b=>NY a b
 | .t a,.t b=>NY a b
 | .any,.any=>true
 | _,_=>false
def NY:List V->List V->Bool
 | [],[]=>true
 | x::xs,y::ys=>Ew x y&&NY xs ys
 | _,_=>false
def dO:List (List V)->List (List V)->Bool
 | [],[]=>true
 | x::xs,y::ys=>NY x y&&dO xs ys
 | _,_=>false
end
def DD {a b:Nat} (h:Nat.beq a b=true):a=b:=VW h
mutual
def Pk: ∀(a b:V),Ew a b=true->a=b
 | .b x,b,h=>by cases b<;>simp[Ew]at h;rw[h]
 | .i _ _,b,h=>by cases b<;>simp[Ew]at h;rw[h.1,h.2]
 | .s _,b,h=>by cases b<;>simp[Ew]at h;rw[h]
 | .pn,b,h=>by cases b<;>simp[Ew]at h;rfl
 | .p _ _,b,h=>by
   cases b<;>simp only[Ew,A0]at h<;>first|(rw[DD h.1,DD h.2];done)|cases h
 | .rp _,b,h=>by
   cases b<;>simp only[Ew]at h<;>first|(rw[HH _ _ h];done)|cases h
 | .l _ _,b,h=>by
   cases b<;>simp only[Ew,A0,Cd]at h<;>first|(rw[h.1,cL _ _ h.2];done)|cases h
 | .sl _ _ _,b,h=>by
   cases b<;>simp only[Ew,A0]at h<;>first|(rw[DD h.1,DD h.2.1,DD h.2.2];done)|cases h
 | .sv _ _ _ _,b,h=>by
   cases b<;>simp only[Ew,A0]at h<;>first|(rw[DD h.1,DD h.2.1,DD h.2.2.1,DD h.2.2.2];done)|cases h
 | .pe _ _ _ _,b,h=>by
   cases b<;>simp only[Ew,A0]at h<;>first|(rw[DD h.1,DD h.2.1,DD h.2.2.1,DD h.2.2.2];done)|cases h
 | .m _,b,h=>by
   cases b<;>simp only[Ew]at h<;>first|(rw[DD h];done)|cases h
 | .mn,b,h=>by cases b<;>simp[Ew]at h;rfl
 | .f _ _ _,b,h=>by
   cases b<;>simp only[Ew,A0,CC]at h<;>first|(rw[h.1,HH _ _ h.2.1,HH _ _ h.2.2];done)|cases h
 | .Lx,b,h=>by cases b<;>simp[Ew]at h;rfl
 | .FF _ _,b,h=>by
   cases b<;>simp only[Ew,A0]at h<;>first|(rw[DD h.1,Pk _ _ h.2];done)|cases h
 | .Dv,b,h=>by cases b<;>simp[Ew]at h;rfl
 | .a _,b,h=>by
   cases b<;>simp only[Ew]at h<;>first|(rw[HH _ _ h];done)|cases h
 | .t _,b,h=>by
   cases b<;>simp only[Ew]at h<;>first|(rw[HH _ _ h];done)|cases h
 | .any,b,h=>by cases b<;>simp[Ew]at h;rfl
def HH: ∀(a b:List V),NY a b=true->a=b
 | [],[],_=>rfl
 | x::xs,y::ys,h=>by
   simp only[NY,A0]at h;rw[Pk _ _ h.1,HH _ _ h.2]
 | [],_::_,h=>by simp[NY]at h
 | _::_,[],h=>by simp[NY]at h
def cL: ∀(a b:List (List V)),dO a b=true->a=b
 | [],[],_=>rfl
 | x::xs,y::ys,h=>by
   simp only[dO,A0]at h;rw[HH _ _ h.1,cL _ _ h.2]
 | [],_::_,h=>by simp[dO]at h
 | _::_,[],h=>by simp[dO]at h
end
inductive EO where
 | cs (vs:List V)
 | arr (sz:Nat) (es:List (List V))
 | map (kvs:List (V×V))
 | loop (st:su) (env:Env) (ps:List Nat) (a b:AV)
inductive Tr (α:Type) where
 | leaf
 | node (o:Option α) (l r:Tr α)
def Tr.get {α:Type}:Tr α->Nat->Option α
 | .leaf,_=>none
 | .node o l r,k=>match k with
   | 0=>o
   | k+1=>bif Nat.beq (k % 2) 0 then l.get (k / 2)else r.get (k / 2)
def Tr.put {α β:Type} (x:Option α):Nat->Tr α->Nat->(Tr α->β)->β
 | 0,t,_,K=>K t
 | d+1,t,k,K=>match k,t with
   | 0,.leaf=>K (.node x .leaf .leaf)
   | 0,.node _ l r=>K (.node x l r)
   | k+1,.leaf=>bif Nat.beq (k % 2) 0 then Tr.put x d .leaf (k / 2) fun l=>K (.node none l .leaf)else Tr.put x d .leaf (k / 2) fun r=>K (.node none .leaf r)
   | k+1,.node o l r=>bif Nat.beq (k % 2) 0 then Tr.put x d l (k / 2) fun l=>K (.node o l r)else Tr.put x d r (k / 2) fun r=>K (.node o l r)
def A8:Nat:=40
abbrev Tr.set {α:Type} (x:Option α) (d:Nat) (t:Tr α) (k:Nat):Tr α:=Tr.put x d t k id
def Tr.put_eq {α β:Type} {x:Option α}: ∀(d:Nat) (t:Tr α) (k:Nat) (K:Tr α->β),Tr.put x d t k K=K (Tr.set x d t k)
 | 0,t,k,K=>rfl
 | d + 1,t,k,K=>by
   unfold Tr.set;cases k with
   | zero=>cases t<;>rfl
   | succ k=>
     cases t<;>simp only[Tr.put]<;>cases Nat.beq (k % 2) 0<;>simp only[cond_true,cond_false]<;>rw[Tr.put_eq d,Tr.put_eq d _ _ (fun _=>_)]<;>rfl
def Tr.EB {α:Type} {x:Option α}: ∀(d:Nat) (t:Tr α) (k:Nat),k+1<2 ^ d-> ∀j,(Tr.set x d t k).get j=if j=k then x else t.get j
 | 0,_,k,h,_=>by simp at h
 | d + 1, t, k,h,j=>by
   have hp:2 ^ (d+1)=2*2 ^ d:=by rw[Nat.pow_succ];omega
   cases k with
   | zero=>cases t<;>cases j<;>simp[Tr.set,Tr.put,Tr.get]
   | succ k=>
     have hk:k / 2+1<2 ^ d:=by omega
     cases t with
     | leaf=>
       simp only[Tr.set,Tr.put];cases hb:Nat.beq (k % 2) 0 with
       | true=>
         simp only[cond_true];rw[Tr.put_eq];have hb':=DD hb;cases j with
         | zero=>simp[Tr.get]
         | succ j=>
           simp only[Tr.get,id];cases hj:Nat.beq (j % 2) 0 with
           | true=>
             have hj':=DD hj;simp only[cond_true];rw[Tr.EB d _ _ hk];simp only[Tr.get];by_cases e:j=k
             .simp[e]
             .rw[if_neg (by omega),if_neg (by omega)]
           | false=>
             simp only[cond_false];rw[if_neg (fun e=>by(have:j=k:=by omega);subst this;rw[hj]at hb;cases hb)]
       | false=>
         simp only[cond_false];rw[Tr.put_eq];have hb':=Nat.ne_of_beq_eq_false hb;cases j with
         | zero=>simp[Tr.get]
         | succ j=>
           simp only[Tr.get,id];cases hj:Nat.beq (j % 2) 0 with
           | false=>
             have hj':=Nat.ne_of_beq_eq_false hj;simp only[cond_false];rw[Tr.EB d _ _ hk];simp only[Tr.get];by_cases e:j=k
             .simp[e]
             .rw[if_neg (by omega),if_neg (by omega)]
           | true=>
             simp only[cond_true];rw[if_neg (fun e=>by(have:j=k:=by omega);subst this;rw[hj]at hb;cases hb)]
     | node o l r=>
       simp only[Tr.set,Tr.put];cases hb:Nat.beq (k % 2) 0 with
       | true=>
         simp only[cond_true];rw[Tr.put_eq];have hb':=DD hb;cases j with
         | zero=>simp[Tr.get]
         | succ j=>
           simp only[Tr.get,id];cases hj:Nat.beq (j % 2) 0 with
           | true=>
             have hj':=DD hj;simp only[cond_true];rw[Tr.EB d _ _ hk];by_cases e:j=k
             .simp[e]
             .rw[if_neg (by omega),if_neg (by omega)]
           | false=>
             simp only[cond_false];rw[if_neg (fun e=>by(have:j=k:=by omega);subst this;rw[hj]at hb;cases hb)]
       | false=>
         simp only[cond_false];rw[Tr.put_eq];have hb':=Nat.ne_of_beq_eq_false hb;cases j with
         | zero=>simp[Tr.get]
         | succ j=>
           simp only[Tr.get,id];cases hj:Nat.beq (j % 2) 0 with
           | false=>
             have hj':=Nat.ne_of_beq_eq_false hj;simp only[cond_false];rw[Tr.EB d _ _ hk];by_cases e:j=k
             .simp[e]
             .rw[if_neg (by omega),if_neg (by omega)]
           | true=>
             simp only[cond_true];rw[if_neg (fun e=>by(have:j=k:=by omega);subst this;rw[hj]at hb;cases hb)]
end Go.Gl
