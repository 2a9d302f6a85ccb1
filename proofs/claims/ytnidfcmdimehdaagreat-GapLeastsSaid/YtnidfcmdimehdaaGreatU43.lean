import Derived.Test.YtnidfcmdimehdaaGreatU14
import Derived.Test.YtnidfcmdimehdaaGreatU39
set_option linter.all false
set_option linter.defProp false
set_option maxHeartbeats 8000000
noncomputable section
namespace Go.Gl
open Go.Proofs
attribute [local irreducible] As Af AV AQ AI AU AP AR AJ AT AM AN Ag Ar Sat AS Ap AX W
def qQ (p:Prog) (c:Int):Bool:=decide (1<=c)&&decide (c<3+(p.AK.length:Int))
def VP (p:Prog) (gen:Int) (cs:List Int):Bool:=((cs.length:Int)==p.Cc.getD gen.toNat 0)&&cs.all (qQ p)
def oP {p:Prog} {gen:Int} {cs:List Int} (h:B9 p gen=true) (hc:VP p gen cs=true):(∀c∈cs,1<=c/\c<3+((AG p).parents.length:Int))/\cs.length<=3:=by
 rw[B9,A7,R2,A7,CF,CF]at h;rw[VP,A7,Cd,DT]at hc;have hl:(AG p).parents.length=p.AK.length:=by simp[AG,A0]
 refine⟨fun c hm=>?_,?_⟩
 .have:=hc.2 c hm
  rw[qQ,A7,CF,CF]at this;rw[hl];exact this
 .obtain⟨hh,-⟩:=E3 h.1
  simp only[Cx,A7,CF,DT]at hh;have hlt:gen.toNat<p.Cc.length:=by omega
  have:=hh.2.2.2.2.2 _ (List.getElem_mem hlt);have e:p.Cc.getD gen.toNat 0=p.Cc[gen.toNat]:=by rw[Co,CQ hlt];rfl
  rw[e]at hc;omega
def oT (p:Prog) (h10:p.AK.length<=10) (c:Int):Pure zP 67 [eI c,.rp (A3 p)] (.b (!qQ p c)):=by
 have ec:((p.AK.map LP).length:Int)=p.AK.length:=by simp
 have hw:IntKind.i64.wrap (3+(p.AK.length:Int))=3+(p.AK.length:Int):=wrap64 (by omega) (by omega);rw[qQ];refine y9 kZ ?_;have hs:=Sn
 conv=>whnf
 repeat'((first|clear U K|apply st|(apply zk;intro K U)|refine zY ?_|refine za (fun hc=>?_) fun hc=>?_|fail)<;>conv=>whnf)
 .refine AF ?_
  rw[ec,hw,decide_eq_true (show 1<=c by omega),Db];show V.b (decide (c≥3+(p.AK.length:Int)))=_;congr 1;rw[KF];simp
 .exact AF (by rw[decide_eq_false (show¬1<=c by omega)];rfl)
def oU (p:Prog) (gen:Int) (cs:List Int) (f:Bool) (h:B9 p gen=true):Pure zP 65 [.a (On p gen),.rp [.l (iL cs) f],.rp (A3 p),.rp [eI gen]] (.b (VP p gen cs)):=by
 have h2:=h;rw[B9,A7,R2,A7,CF,CF]at h2;have c1:Pure zP 66 [.l (iL cs) f,.f (.func 67) [] [.rp (A3 p)]] (.b (cs.any fun c=> !qQ p c)):=JR f fun y _=>oT p (UB h2.1) y
 have hlt:gen.toNat<p.Cc.length:=by omega
 have hg:p.Cc[gen.toNat]? =some (p.Cc.getD gen.toNat 0):=by rw[Co,CQ hlt];rfl
 have ecs:((iL cs).length:Int)=cs.length:=by simp
 have hn:cs.all (qQ p)= !cs.any fun c=> !qQ p c:=List.all_eq_not_any_not
 rw[VP,hn];generalize p.Cc.getD gen.toNat 0=n at *;refine zA kZ ?_;have hs:=Sn
 conv=>whnf
 repeat'((first|clear U K|apply st|(apply zk;intro K U)|refine zY ?_|refine zC ?_|(refine zd (fun hc=>?_) (fun hc=>?_)<;>try exact⟨⟩)|fail)<;>conv=>whnf)
 .exact AF (by rw[Cd.2 (show(cs.length:Int)=n by omega)];rfl)
 .exact AF (by rw[beq_eq_false_iff_ne.2 (show(cs.length:Int)≠n by omega)];rfl)
abbrev ly (p:Prog) (gen:Int) (cs:List Int):V:= .t [if GZ p gen (VP p gen cs)=0 then .l ((Dm p gen (Kx (AG p) cs)).map O2) false else .l [] true,eI (GZ p gen (VP p gen cs))]
def x6 (p:Prog) (gen:Int) (cs:List Int) (f:Bool):Pure zP 20 [.a (A3 p),eI gen,.l (iL cs) f] (ly p gen cs):=by
 have c1:=Jy p gen 65 [.rp [.l (iL cs) f],.rp (A3 p),.rp [eI gen]] (VP p gen cs) (fun h=>oU p gen cs f h);rw[ly];cases h1:B9 p gen
 .rw[(DA h1 _).1,(DA h1 _).2]at c1
  rw[(DA h1 _).2];refine ZZ kZ ?_;have hs:=Sn;exact zW
 cases h2:VP p gen cs
 .rw[h2,HA.1,HA.2]at c1
  rw[HA.2];refine ZZ kZ ?_;have hs:=Sn;exact zW
 rw[h2,(C6 h1).1,(C6 h1).2]at c1;rw[(C6 h1).2];by_cases h8:(Bo p gen).length<=8
 .have hl:=h1
  rw[B9,A7]at hl;have hw:=(look_ok hl.1).dw;have hcs:=oP h1 h2;have c2:=Tv (gen:=gen) (ms:=Bo p gen) hl.1 cs f;have c3:=Ul (fun l hl=>Gj hw fun x hx=>Dr (hl x hx)) (Pr hw hcs.1) h1 h8 (MH _ (Jr hl.1) cs f hcs.2);rw[if_pos h8]at c1 ⊢;rw[if_pos rfl];refine ZZ kZ ?_;have hs:=Sn
  conv=>whnf
  repeat'((first|clear U K|apply st|(apply zk;intro K U)|refine zY ?_|refine rk ?_ ?_|exact fun s e=>by cases e;rfl|refine zs fun Z hs=>?_|refine zC ?_|(refine zb (fun hc=>?_) (fun hc=>?_)<;>try exact⟨⟩)|refine zo fun nn hnn Z hs=>?_|fail)<;>conv=>whnf)
  all_goals exact AF rfl
 .rw[if_neg h8]at c1 ⊢
  rw[if_neg (by decide)];refine ZZ kZ ?_;have hs:=Sn;exact zW
end Go.Gl
