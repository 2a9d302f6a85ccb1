import Derived.Test.YtnidfcmdimehdaaGreatU14
import Derived.Test.YtnidfcmdimehdaaGreatU21
import Derived.Test.YtnidfcmdimehdaaGreatU25
import Derived.Test.YtnidfcmdimehdaaGreatU29
import Derived.Test.YtnidfcmdimehdaaGreatU35
import Derived.Test.YtnidfcmdimehdaaGreatU39
set_option linter.all false
set_option linter.defProp false
set_option maxHeartbeats 8000000
noncomputable section
namespace Go.Gl
open Go.Proofs
abbrev du (p:Prog) (gen:Int):Int:=p.Cc.getD gen.toNat 0
def UD {p:Prog} {gen:Int} (h:B9 p gen=true):p.Cc[gen.toNat]? =some (du p gen)/\1<=du p gen/\du p gen<=3/\0<=gen:=by
 rw[B9,A7,R2,A7,CF,CF]at h;obtain⟨hh,-⟩:=E3 h.1;simp only[Cx,A7,CF,DT]at hh;have hlt:gen.toNat<p.Cc.length:=by omega
 have:=hh.2.2.2.2.2 _ (List.getElem_mem hlt);have e:du p gen=p.Cc[gen.toNat]:=by rw[du,Co,CQ hlt];rfl
 rw[e];exact⟨CQ hlt,this.1,this.2,h.2.1⟩
def wpl (p:Prog):(AG p).parents.length=p.AK.length:=by simp[AG,A0]
def Yq {Z:AD} {b sz:Nat} {v:V} {ys:List (List V)} {f:Bool} {K:V->AD->Prop} (hne:ys≠[]) (h:AI b Z sz v (.l ys f) fun v' Z'=>(Bd v').isSome=true->K v' Z'):AI b Z sz v (.l ys f) K:=by
 unfold AI at h ⊢;simp only[rowsOf]at h ⊢;obtain⟨h1,h2,h3⟩:=h;refine⟨h1,h2,?_⟩;cases v with
 | l es full=>exact⟨h3.1,h3.2.1,fun e=>absurd e hne,fun e=>⟨(h3.2.2.2 e).1,fun n cap hn hc=>(h3.2.2.2 e).2 n cap hn hc rfl⟩⟩
 | sl n len cap=>
   simp only at h3 ⊢;split at h3
   .exact⟨h3.1,h3.2.1,h3.2.2.1,h3.2.2.2.1,fun n' cap' hn hc=>h3.2.2.2.2 n' cap' hn hc rfl⟩
   .exact h3.elim
 | _=>exact h3.elim
attribute [local irreducible] As Af AV AQ AI AU AP AR AJ AT AM AN Ag Ar Sat AS Ap AX W
def k8 (p:Prog) (gen:Int) (h:B9 p gen=true):Pure zP 58 [.a (A3 p),eI gen] (.l (iL (List.replicate (du p gen).toNat 1)) false):=by
 obtain⟨hg,h1,h3,h0⟩:=UD h;have hM:=Mx;generalize du p gen=n at *;refine zH kZ ?_;have hs:=Sn;refine zz ?_;(repeat clear U K);repeat intro K U
 refine Ba n.toNat (fun k v=>[(5,v),(6,eI (Au k))]) (fun k v=>[.own v 1 (iL (List.replicate k 1))]) (fun _ _=>True) (.l [] true) rfl trivial (Ce hs 1) ?_;clear hs;rintro k v Z hk - hs;have hck:Au k=k:=AW (by omega);have hll:(List.replicate k (1:Int)).length<AZ/\((List.replicate k (1:Int)).length+1)*8<=140737488355328:=by rw[List.length_replicate];omega
 by_cases hlt:k<n.toNat
 .have hlt2:Au k<n:=by omega
  conv=>whnf
  repeat'((first|clear U K|apply st|(apply zk;intro K U)|refine zY ?_|refine aq fun v Z hs hsl=>?_|(refine zb (fun hc=>?_) (fun hc=>?_)<;>try exact⟨⟩)|fail)<;>conv=>whnf)
  all_goals try(exfalso;omega)
  exact⟨hlt,_,rfl,trivial,by rw[List.replicate_succ'];exact hs⟩
 .have hlt2: ¬Au k<n:=by omega
  obtain rfl:k=n.toNat:=by omega
  conv=>whnf
  repeat'((first|clear U K|apply st|(apply zk;intro K U)|refine zY ?_|(refine zb (fun hc=>?_) (fun hc=>?_)<;>try exact⟨⟩)|fail)<;>conv=>whnf)
  all_goals try(exfalso;omega)
  exact AY (hs.Ic 0 rfl)
abbrev xR (B:Int) (cs:List Int):V:=match E8 B cs with
 | some r=> .t [.l (iL r) false,.b true]
 | none=> .t [.l [] true,.b false]
def ot (p:Prog) (cs:List Int) (f:Bool) (hl1:1<=cs.length) (hl3:cs.length<=3) (h10:p.AK.length<=10) (hok:EG (3+(p.AK.length:Int)) cs):Pure zP 59 [.a (A3 p),.l (iL cs) f] (xR (3+(p.AK.length:Int)) cs):=by
 have hM:=Mx;have ecl:((p.AK.map LP).length:Int)=p.AK.length:=by simp
 have hw:IntKind.i64.wrap (3+(p.AK.length:Int))=3+(p.AK.length:Int):=wrap64 (by omega) (by omega);refine zG kZ ?_;have hs:=Sn
 conv=>whnf
 repeat'((first|clear U K|apply st|(apply zk;intro K U)|fail)<;>conv=>whnf)
 refine Yq (by cases cs with|nil=>simp at hl1|cons _ _=>simp) (hAppend (Ce hs 1) 0 rfl ⟨by simp[AZ];omega,by simp;omega⟩ (by simp) (by simp) fun v Z hs hsl=>?_);have hs:Sat Z [.own v 1 (iL cs)]:=hs;refine zz ?_;(repeat clear U K);repeat intro K U
 have ecs:((iL cs).length:Int)=cs.length:=by simp
 rw[ecs];refine Ba cs.length (fun k (_:Unit)=>[(7,eI (O3 cs.length k))]) (fun k _=>[.own v 1 (iL (Ri cs k))]) (fun k _=>E8 (3+(p.AK.length:Int)) (cs.drop (cs.length - k))=none) () rfl (by simp[E8]) (by rw[pJ];exact hs) ?_;clear hs;rintro k - Z hk hn hs;have hdw:=YI (n:=cs.length) (by omega) k hk;have hzl:=Z3 hk;by_cases hlt:k<cs.length
 .obtain⟨c,hc⟩: ∃c,cs[cs.length - 1 - k]? =some c:=⟨_,CQ (by omega)⟩
  have hcB:=hok c (BY hc);have hj:(O3 cs.length k).toNat=cs.length - 1 - k:=by rw[hdw];omega
  have hat:(Ri cs k)[(O3 cs.length k).toNat]? =some c:=by rw[hj];exact fp hlt hc
  have hge:0<=O3 cs.length k:=by rw[hdw];omega
  have hlt2:O3 cs.length k<(cs.length:Int):=by rw[hdw];omega
  have hw1:IntKind.i64.wrap (c+1)=c+1:=wrap64 (by omega) (by omega);have hlt4:(O3 cs.length k).toNat<(Ri cs k).length:=by rw[hj,hzl];omega
  by_cases hB:c+1<3+(p.AK.length:Int)
  .have hfd:=WC hlt hc hn hB
   have hN:xR (3+(p.AK.length:Int)) cs= .t [.l (iL ((Ri cs k).set (cs.length - 1 - k) (c+1))) false,.b true]:=by rw[xR,hfd]
   conv=>whnf
   repeat'((first|clear U K|apply st|(apply zk;intro K U)|refine zY ?_|refine zs fun Z hs=>?_|(refine zb (fun hc=>?_) (fun hc=>?_)<;>try exact⟨⟩)|fail)<;>conv=>whnf)
   all_goals try(exfalso;omega)
   rw[hj,hw1]at hs;rw[hN];exact AY (.t (.cons (hs.Ic 0 rfl) (.cons (.refl _) .nil)))
  .have hmx:=fo hlt hc hn hB
   conv=>whnf
   repeat'((first|clear U K|apply st|(apply zk;intro K U)|refine zY ?_|refine zs fun Z hs=>?_|(refine zb (fun hc=>?_) (fun hc=>?_)<;>try exact⟨⟩)|fail)<;>conv=>whnf)
   all_goals try(exfalso;omega)
   exact⟨hlt,(),rfl,hmx,by rw[hj]at hs;rw[<-WE hlt];exact hs⟩
 .obtain rfl:k=cs.length:=by omega
  have hlt2: ¬0<=O3 cs.length cs.length:=by rw[hdw];omega
  rw[Nat.sub_self,List.drop_zero]at hn;have hN:xR (3+(p.AK.length:Int)) cs= .t [.l [] true,.b false]:=by rw[xR,hn]
  conv=>whnf
  repeat'((first|clear U K|apply st|(apply zk;intro K U)|refine zY ?_|(refine zb (fun hc=>?_) (fun hc=>?_)<;>try exact⟨⟩)|fail)<;>conv=>whnf)
  all_goals try(exfalso;omega)
  exact AF hN.symm
def Xh (sv:Int):Bool:=decide (1<=sv)&&decide (sv<=4)
def HY (p:Prog) (gen sv:Int) (cs:List Int):Bool:=Hy (Dm p gen (Kx (AG p) cs)) sv
def cu {p:Prog} {gen sv:Int} (h1:B9 p gen=true) (h8:(Bo p gen).length<=8) (h:HY p gen sv []=true) {n:Nat} (hn3:n<=3): ∃cs:List Int,cs.length=n/\EG (3+(p.AK.length:Int)) cs/\HY p gen sv cs=true:=by
 rw[HY,Hy,G1]at h;obtain⟨x,hx,hst⟩:=h;rw[Dm,GL]at hx;obtain⟨bs,hb,rfl⟩:=hx;have hfn:=Iq h1 h8;have hw:=hfn.ok.dw;have hn:=IU hfn;obtain⟨hlen,-,hE⟩:=We _ _ _ hb;obtain⟨cs,e1,e2,e3⟩:=kP hw hn hn3 bs hE;refine⟨cs,e1,by rw[wpl]at e2;exact e2,?_⟩;rw[HY,Hy,G1];refine⟨_,?_,hst⟩;rw[Dm,GL];exact⟨bs,Wd (fun a b=>kR (Pr hw e2) hn a b) _ [] bs (by simpa using hlen) (by simpa using e3),rfl⟩
def NX (p:Prog) (gen sv:Int) (R:List Int):Prop:=GZ p gen (Xh sv)=0->HY p gen sv []=true->DH (3+(p.AK.length:Int)) (HY p gen sv) (List.replicate (du p gen).toNat 1) R
def w9 {p:Prog} {gen sv:Int} (h:GZ p gen (Xh sv)=0):B9 p gen=true/\Xh sv=true/\(Bo p gen).length<=8:=by
 cases h1:B9 p gen
 .rw[(DA h1 _).2]at h;cases h
 cases h2:Xh sv
 .rw[h2,HA.2]at h;cases h
 rw[h2]at h;exact⟨rfl,rfl,(p5 h).2⟩
def jn (p:Prog) (gen sv:Int): ∃R,NX p gen sv R:=by
 by_cases h0:GZ p gen (Xh sv)=0
 .obtain⟨h1,-,h8⟩:=w9 h0
  cases h:HY p gen sv []
  .exact⟨[],fun _ h'=>by rw[h]at h';cases h'⟩
  .obtain⟨-,g1,g3,-⟩:=UD h1
   obtain⟨cs,e1,e2,e3⟩:=cu h1 h8 h (n:=(du p gen).toNat) (by omega);obtain⟨R,hR⟩:=Y3 (by omega) e2 e3;exact⟨R,fun _ _=>by rw[<-e1];exact hR⟩
 .exact⟨[],fun h'=>absurd h' h0⟩
def Tl (p:Prog) (gen sv:Int) (R:List Int):V:=if GZ p gen (Xh sv)=0 then(if HY p gen sv []then .t [.l (iL R) false,eI 0]else .t [.l [] true,eI 5])else .t [.l [] true,eI (GZ p gen (Xh sv))]
def ou (p:Prog) (gen sv:Int) {R:List Int} (hR:NX p gen sv R):Pure zP 16 [.a (A3 p),eI gen,eI sv] (Tl p gen sv R):=by
 have c1:=iW p gen;rw[Tl];cases h1:B9 p gen<;>rw[h1]at c1
 .rw[if_neg (by decide)]at c1
  rw[(DA h1 _).2,if_neg (by decide)];refine Za kZ ?_;have hs:=Sn;exact zW
 rw[if_pos rfl]at c1;have hl:=h1;rw[B9,A7]at hl;have hok:=look_ok hl.1;have c2:=pU p gen hok.many;cases h2:Xh sv
 .rw[HA.2,if_neg (by decide)]
  have h2:sv<1\/4<sv:=by
   rw[Xh,Bool.and_eq_false_iff,decide_eq_false_iff_not,decide_eq_false_iff_not]at h2;omega
  refine Za kZ ?_;have hs:=Sn
  conv=>whnf
  repeat'((first|clear U K|apply st|(apply zk;intro K U)|refine zY ?_|refine zC ?_|(refine zb (fun hc=>?_) (fun hc=>?_)<;>try exact⟨⟩)|fail)<;>conv=>whnf)
  all_goals first
   | exact AF rfl
   | (exfalso;omega)
 have h2':=h2;rw[Xh,A7,CF,CF]at h2';rw[(C6 h1).2];by_cases h8:(Bo p gen).length<=8
 .rw [if_pos h8]at c2 ⊢
  rw[if_pos rfl];have h0:GZ p gen (Xh sv)=0:=by rw[h2,(C6 h1).2,if_pos h8]
  have hfn:=Iq h1 h8;have hb:=Qi p gen h1;obtain⟨hg,g1,g3,g0⟩:=UD h1;have hw10:=UB hl.1;refine Pure.of ?_;refine Za kZ ?_;have hs:=Sn
  conv=>whnf
  repeat'((first|clear U K|apply st|(apply zk;intro K U)|refine zY ?_|refine zC ?_|(refine zb (fun hc=>?_) (fun hc=>?_)<;>try exact⟨⟩)|fail)<;>conv=>whnf)
  all_goals try(exfalso;omega)
  refine hb.use (rest:=_) hs ?_;clear hs;rintro r post Z ⟨rfl,T,rfl,hT⟩ hs;have c3:=PN p gen false [] true T ⟨hfn.ok,hfn.FH,h8,fun _=>⟨MK,by decide⟩⟩ hT;have c4:=P5 _ (Kf (tog:=Ly p false []) h8) false sv;have e4:Hy (Dm p gen (Ly p false [])) sv=HY p gen sv []:=rfl;rw[e4]at c4;cases hC:HY p gen sv []<;>rw[hC]at c4
  .conv=>whnf
   repeat'((first|clear U K|apply st|(apply zk;intro K U)|refine zY ?_|refine zs fun Z hs=>?_|refine zC ?_|refine zo fun nn hnn Z hs=>?_|fail)<;>conv=>whnf)
   all_goals exact AH (by rw[hC,if_neg (by decide)])
  .have hF:=hR h0 hC
   have c5:=k8 p gen h1
   conv=>whnf
   repeat'((first|clear U K|apply st|(apply zk;intro K U)|refine zY ?_|refine zs fun Z hs=>?_|refine zC ?_|refine zo fun nn hnn Z hs=>?_|fail)<;>conv=>whnf)
   have hs:Sat Z [.box nn (oy p (Bo p gen) false [] true T)]:=hs;refine DD (fun x:List Int×V=>NT (3+(p.AK.length:Int)) x.1) (fun x=>[(11,.l (iL x.1) false),(12,.b true)]) (fun x=>[.box nn ((oy p (Bo p gen) false [] true T).set 10 x.2)]) (fun x=>EG (3+(p.AK.length:Int)) x.1/\x.1.length=(du p gen).toNat/\DH (3+(p.AK.length:Int)) (HY p gen sv) x.1 R) (List.replicate (du p gen).toNat 1,.l [] true) rfl ⟨Gs (by omega) _,by simp,hF⟩ hs ?_;clear hs hF c3 c4;rintro⟨cs,v10⟩ Z ⟨hk,hl,hF⟩ hs;dsimp only at hk hl hF hs;have c3:=PN p gen false cs false T ⟨hfn.ok,hfn.FH,h8,fun _=>⟨by rw[wpl];exact hk,by omega⟩⟩ hT;have c4:=P5 _ (Kf (tog:=Ly p false cs) h8) false sv;have e4:Hy (Dm p gen (Ly p false cs)) sv=HY p gen sv cs:=rfl;rw[e4]at c4;have c5:=ot p cs false (by omega) (by omega) hw10 hk;cases hE:HY p gen sv cs<;>rw[hE]at c4
   .obtain⟨cs',hn,hF'⟩:=hF.later hE
    rw[xR,hn]at c5;dsimp only at c5
    conv=>whnf
    repeat'((first|clear U K|apply st|(apply zk;intro K U)|refine zY ?_|refine zs fun Z hs=>?_|refine zC ?_|fail)<;>conv=>whnf)
    exact⟨(cs',.l (iL cs) false),PC hk hn,rfl,⟨(HK hk hn).1,(HK hk hn).2.trans hl,hF'⟩,hs⟩
   .conv=>whnf
    repeat'((first|clear U K|apply st|(apply zk;intro K U)|refine zY ?_|refine zs fun Z hs=>?_|refine zC ?_|fail)<;>conv=>whnf)
    all_goals exact AH (by rw[hC,if_pos rfl,hF.now hE])
 .rw[if_neg h8]at c2 ⊢
  rw[if_neg (by decide)];refine Za kZ ?_;have hs:=Sn
  conv=>whnf
  repeat'((first|clear U K|apply st|(apply zk;intro K U)|refine zY ?_|refine zC ?_|(refine zb (fun hc=>?_) (fun hc=>?_)<;>try exact⟨⟩)|fail)<;>conv=>whnf)
  all_goals first
   | exact AF rfl
   | (exfalso;omega)
end Go.Gl
namespace Go.Gl
open Go.Proofs
def Td (M:List Int):List (V×V):=M.map fun k=>(.i .u64 k,.b true)
def nE (M:List Int) (k:Int):Dy (.i .u64 k) (.b true) (Td M)=Td (Hw M k):=by
 induction M with
 | nil=>rfl
 | cons x r ih=>
   simp only[Td,Cn,Dy]at *;have he:D1 (.i .u64 k) (.i .u64 x)=(k==x):=rfl;rw[he];cases hx:k==x
   .rw[cond_false,ih]
    unfold Hw;have:(x::r).contains k=r.contains k:=by rw[List.contains_cons,hx,Bool.false_or]
    rw[this];split<;>simp
   .rw[cond_true]
    have hk:k=x:=by simpa using hx
    subst hk;unfold Hw;simp
def WU (M:List Int) (k:Int):found (.b false) false (Cs (.i .u64 k) (Td M))= .b (M.contains k):=by
 induction M with
 | nil=>rfl
 | cons x r ih=>
   simp only[Td,Cn,Cs]at *;have he:D1 (.i .u64 k) (.i .u64 x)=(k==x):=rfl;rw[he,List.contains_cons];cases k==x
   .simpa using ih
   .rfl
def QO (M:List Int): ∀kv∈Td M,Bf (.i .u64) kv.1=true:=by
 intro kv h;obtain⟨e,_,rfl⟩:=GL.1 h;rfl
abbrev Xp (q:Nat->Bool) (y:Nat) (M:List Int):Bool×List Int:=(true,if q y then Hw M y else M)
def Rs (q:Nat->Bool):List Nat->List Int->List Int
 | [],M=>M
 | y::r,M=>Rs q r (if q y then Hw M y else M)
def iB (q:Nat->Bool): ∀(l:List Nat) (M:List Int),By (Xp q) l M=(true,Rs q l M)
 | [],_=>rfl
 | y::r,M=>by rw[By];exact iB q r _
def jN (M:List Int) (k:Int):(Hw M k).length<=M.length+1:=by
 unfold Hw;split
 .omega
 .simp
def P6 (q:Nat->Bool): ∀(l:List Nat) (M:List Int),(Rs q l M).length<=M.length+l.length
 | [],_=>G0 _
 | y ::r,M=>by
   rw[Rs,JU];have h1:=jN M y;cases q y
   .have:=P6 q r M
    simp only[Jc,if_false];omega
   .have:=P6 q r (Hw M y)
    simp only[if_true];omega
def MW (q:Nat->Bool) (b:Int): ∀(l:List Nat) (M:List Int),(Rs q l M).contains b=(M.contains b||l.any fun y=>q y&&b==(y:Int))
 | [],_=>by simp[Rs]
 | y::r,M=>by
   rw[Rs,MW q b r,Oj];cases q y
   .simp
   .rw[if_pos rfl,QF,Db,Bool.or_assoc]
def pO (q:Nat->Bool) {Q:Nat->Prop}: ∀(l:List Nat) (M:List Int),(∀y∈l,Q y)->Om (Xp q) (fun y _=>Q y) l M
 | [],_,_=>trivial
 | y::r,_,h=>⟨h y (.head _),fun _=>pO q r _ fun z hz=>h z (.tail _ hz)⟩
def ib {q:Nat->Bool} {l:List Nat}:((Rs q l []).length=0)↔l.any q=false:=by
 rw[VA];constructor
 .intro h
  rw[List.any_eq_false];intro y hy hq;have:=MW q (y:Int) l [];rw[h]at this;have h2:(l.any fun z=>q z&&(y:Int)==(z:Int))=true:=G1.2 ⟨y,hy,by rw[hq];simp⟩;rw[h2]at this;simp at this
 .intro h
  cases hw:Rs q l []with
  | nil=>rfl
  | cons x r=>
    have:=MW q x l [];rw[hw,List.contains_cons,beq_self_eq_true,Bool.true_or]at this;have h3:(l.any fun y=>q y&&x==(y:Int))=true:=by simpa using this.symm
    rw[G1]at h3;obtain⟨y,hy,h4⟩:=h3;rw[List.any_eq_false]at h;rw[A7]at h4;exact absurd h4.1 (h y hy)
attribute [local irreducible] As Af AV AQ AI AU AP AR AJ AT AM AN Ag Ar Sat AS Ap AX W
def kF (v:List V) (sv:Int):Pure zP 50 [.a v,.rp [eI sv]] (.b (Xh sv)):=by
 rw[Xh];refine zO kZ ?_;have hs:=Sn
 conv=>whnf
 repeat'((first|clear U K|apply st|(apply zk;intro K U)|refine zY ?_|refine za (fun hc=>?_) fun hc=>?_|fail)<;>conv=>whnf)
 .exact AF (by rw[decide_eq_true hc];rfl)
 .exact AF (by rw[decide_eq_false (by omega)];rfl)
def yG {p:Prog} {gen:Int} {ms:List Int} (h:(BQ p).isSome=true) (n len cap:Nat):Pure zP 35 [.a (Rr p gen ms),.sl n len cap] (VG 95 [] [.rp [.rp (gW (AG p) (BR (AG p).parents))],.rp [.sl n len cap]] p gen ms):=by
 have c1:=P7 (gen:=gen) (ms:=ms) h;refine pv kZ ?_;have hs:=Sn
 conv=>whnf
 repeat'((first|clear U K|apply st|(apply zk;intro K U)|refine zY ?_|refine zs fun Z hs=>?_|refine c1.use ?_|refine UL.use ?_|refine zo fun nn hnn Z hs=>?_|fail)<;>conv=>whnf)
 exact AY (.f .nil (.cons (.rp (.cons (.f .nil (.cons (hs.eY 0 rfl (.refl _ _ _)) (.cons (.refl _) .nil))) .nil)) (.cons (.refl _) .nil)))
end Go.Gl
namespace Go.Gl
open Go.Proofs
def QY {so so':Nat->Nat->Bool} (h: ∀s n,so s n=true->so' s n=true): ∀(d many s y:Nat),y∈GB so d many s->y∈GB so' d many s
 | 0,many,s,y,hy=>by
   rw[GB]at hy ⊢;split at hy
   .rename_i hs
    rw[if_pos (h _ _ hs)];exact hy
   .cases hy
 | d + 1,many,s,y,hy=>by
   rw[GB]at hy ⊢;split at hy
   .rename_i hs
    rw[if_pos (h _ _ hs)];rcases Du.1 hy with hy|hy
    .exact NK _ (QY h d _ _ y hy)
    .exact Lu _ (QY h d _ _ y hy)
   .cases hy
abbrev Pe (p:Prog) (gen sv:Int) (y:Nat):Bool:=NG p (DW (Bo p gen) y)==sv
def WZ {p:Prog} {gen sv:Int} {cs:List Int} (hfn:Ot p (Bo p gen)) (hcs:EG (3+(p.AK.length:Int)) cs):HY p gen sv cs=(GN p (Jg (AG p) cs) (Bo p gen)).any (Pe p gen sv):=by
 have hw:=hfn.ok.dw;have hcs2: ∀c∈cs,1<=c/\c<3+((AG p).parents.length:Int):=by rw[wpl];exact hcs
 rw[HY,Hy,<-pB (fun l hl=>Gj hw fun x hx=>Dr (hl x hx)) (Pr hw hcs2) (IU hfn),List.any_map];rfl
def aU {p:Prog} {gen:Int} {cs:List Int} (hfn:Ot p (Bo p gen)): ∀y∈GN p (Jg (AG p) cs) (Bo p gen),y∈GN p (Jg (AG p) []) (Bo p gen):=fun y hy=>by
 have hw:=hfn.ok.dw;have hnf: ∀f∈FD p (Bo p gen),An (AG p) f=true:=IU hfn;refine QY (fun s n h=>?_) _ _ _ y hy;obtain⟨M,h1,h2⟩:=(Kq (fun l hl=>Gj hw fun x hx=>Dr (hl x hx)) hnf _).1 h;exact(Kq (fun l hl=>Gj hw fun x hx=>Dr (hl x hx)) hnf _).2 ⟨M,jU h1,h2⟩
abbrev R1 (p:Prog) (gen sv:Int):List Int:=Rs (Pe p gen sv) (GN p (Jg (AG p) []) (Bo p gen)) []
def WQ {p:Prog} {gen sv:Int} {y:Nat} (hy:y∈GN p (Jg (AG p) []) (Bo p gen)):(R1 p gen sv).contains (y:Int)=Pe p gen sv y:=by
 rw[MW,List.contains_nil,Bool.false_or];cases hq:Pe p gen sv y
 .rw[List.any_eq_false]
  intro z _ hz;rw[A7]at hz;have hz2:(y:Int)=(z:Int):=by simpa using hz.2
  obtain rfl:y=z:=by omega
  rw[hz.1]at hq;cases hq
 .exact G1.2 ⟨y,hy,zrH.2 ⟨hq,beq_self_eq_true _⟩⟩
def kk {p:Prog} {gen sv:Int} {cs:List Int} (hfn:Ot p (Bo p gen)) (hcs:EG (3+(p.AK.length:Int)) cs):((GN p (Jg (AG p) cs) (Bo p gen)).all fun y=> !(R1 p gen sv).contains (y:Int))= !HY p gen sv cs:=by
 rw[WZ hfn hcs,List.not_any_eq_all_not];refine KF.2 ?_;rw[DT,DT];constructor
 .intro h y hy
  have:=h y hy;rw[WQ (aU hfn y hy)]at this;exact this
 .intro h y hy
  rw[WQ (aU hfn y hy)];exact h y hy
attribute [local irreducible] As Af AV AQ AI AU AP AR AJ AT AM AN Ag Ar Sat AS Ap AX W
def PV (p : Prog) (gen sv:Int) {R:List Int} (hR:NX p gen sv R):Pure zP 15 [.a (A3 p),eI gen,eI sv] (Tl p gen sv R):=by
 have c1:=Jy p gen 50 [.rp [eI sv]] (Xh sv) (fun _=>kF _ sv);have hM:=Mx;rw[Tl];cases h1:B9 p gen
 .rw[(DA h1 _).1,(DA h1 _).2]at c1
  rw[(DA h1 _).2,if_neg (by decide)];refine Zb kZ ?_;have hs:=Sn;exact zW
 cases h2:Xh sv
 .rw[h2,HA.1,HA.2]at c1
  rw[HA.2,if_neg (by decide)];refine Zb kZ ?_;have hs:=Sn;exact zW
 rw[h2,(C6 h1).1,(C6 h1).2]at c1;rw[(C6 h1).2];by_cases h8:(Bo p gen).length<=8
 .rw [if_pos h8]at c1 ⊢
  rw[if_pos rfl];have hl:=h1;rw[B9,A7]at hl;have h0:GZ p gen (Xh sv)=0:=by rw[h2,(C6 h1).2,if_pos h8]
  have hfn:=Iq h1 h8;obtain⟨hg,g1,g3,g0⟩:=UD h1;have hw10:=UB hl.1;have c2:=Tv (gen:=gen) (ms:=Bo p gen) hl.1 [] true;obtain⟨hgl,hgm⟩:=QX (p:=p) (tog:=Jg (AG p) []) h8;refine Zb kZ ?_;have hs:=Sn
  conv=>whnf
  repeat'((first|clear U K|apply st|(apply zk;intro K U)|refine zY ?_|refine zs fun Z hs=>?_|refine zC ?_|(refine zb (fun hc=>?_) (fun hc=>?_)<;>try exact⟨⟩)|refine zo fun nn hnn Z hs=>?_|fail)<;>conv=>whnf)
  rename_i n8 _ _ _ _ _ nm _ _ _ nB _ _ _ _ _;have hs2:Sat Z [_,.box nB [.m nm],.map nm (Td []),.box n8 (On p gen)]:=hs;refine As.mono (YF hfn (MH _ (Jr hl.1) [] true (by decide)) (hs:=hs2) (stp:=Xp (Pe p gen sv)) (D:=fun y _=>y∈GN p (Jg (AG p) []) (Bo p gen)) (fun nS nW=>Iu (HB:=fun(M:List Int) l=>l= [.box nB [.m nm],.map nm (Td M),.box n8 (On p gen)]) (fun _=> .ready) rfl (fun _ _ _=>rfl) ?_) [] (pO _ _ _ (fun _ h=>h)) ⟨_,rfl,rfl⟩) ?_
  .clear hs hs2
   rintro y M hy _ rfl Z hs;have hy64:y<18446744073709551616:=Nat.lt_of_lt_of_le (hgm y hy) (Nat.le_trans (Nat.pow_le_pow_right (by omega) h8) (by decide));have d1:=Ub (p:=p) (gen:=gen) h8 hy64;have d2:=Tu p gen (DW (Bo p gen) y) false h1 (O8 (I0 _ _));cases he:Pe p gen sv y
   .have hne:NG p (DW (Bo p gen) y)≠sv:=by simpa[Pe]using he
    rw[show Xp (Pe p gen sv) y M=(true,M) by simp only[Xp,he,Jc,if_false]]
    conv=>whnf
    repeat'((first|clear U K|apply st|(apply zk;intro K U)|refine zY ?_|refine rk ?_ ?_|exact fun s e=>by cases e;rfl|refine d1.use ?_|refine d2.use ?_|(refine zb (fun hc=>?_) (fun hc=>?_)<;>try exact⟨⟩)|fail)<;>conv=>whnf)
    intro hn;exact⟨rfl,_,rfl,hs.R8 hn⟩
   .have hne:NG p (DW (Bo p gen) y)=sv:=by simpa[Pe]using he
    rw[show Xp (Pe p gen sv) y M=(true,Hw M y) by simp only[Xp,he,if_true]]
    conv=>whnf
    repeat'((first|clear U K|apply st|(apply zk;intro K U)|refine zY ?_|refine rk ?_ ?_|exact fun s e=>by cases e;rfl|refine d1.use ?_|refine d2.use ?_|refine HM hs 1 rfl rfl (QO _) fun Z hs=>?_|(refine zb (fun hc=>?_) (fun hc=>?_)<;>try exact⟨⟩)|fail)<;>conv=>whnf)
    simp only[nE]at hs;intro hn;exact⟨rfl,_,rfl,hs.R8 hn⟩
  .clear hs hs2
   rw[iB];rintro r Z ⟨rfl,_,⟨_,rfl,rfl⟩,hs⟩;dsimp only at hs;refine Gn hs fun Z hs=>?_
   refine zz ?_;(repeat clear U K);repeat intro K U
   have hlm:(Td (R1 p gen sv)).length=(R1 p gen sv).length:=by simp[Td]
   have hl256:(R1 p gen sv).length<=256:=by
    have:=P6 (Pe p gen sv) (GN p (Jg (AG p) []) (Bo p gen)) [];rw[List.length_nil,G7]at this;exact Nat.le_trans this hgl
   have hz:(R1 p gen sv).length=0↔HY p gen sv []=false:=by rw[ib,WZ hfn (fun _ h=>by cases h)]
   have hall:=fun cs hcs=>kk (sv:=sv) (cs:=cs) hfn hcs
   have hs:Sat Z [.box nB [.m nm],.map nm (Td (R1 p gen sv)),.box n8 (On p gen)]:=hs;have hgm2:Z nm=some (.map (Td (R1 p gen sv))):=hs.get (i:=1) rfl;rw[hgm2];clear hgm2;have hkl:(Td (R1 p gen sv)).length<=AZ:=by rw[hlm,hM];omega
   refine⟨hkl,?_⟩;generalize R1 p gen sv=M at *;cases hC:HY p gen sv []
   .have hz0:=hz.2 hC
    conv=>whnf
    repeat'((first|clear U K|apply st|(apply zk;intro K U)|refine zY ?_|(refine zb (fun hc=>?_) (fun hc=>?_)<;>try exact⟨⟩)|fail)<;>conv=>whnf)
    all_goals first
     | exact AF (by rw[hC,if_neg (by decide)])
     | (exfalso;omega)
   .have hz1:M.length≠0:=fun e=>by rw[hz.1 e]at hC;cases hC
    have hF:=hR h0 hC;obtain⟨n,hn⟩: ∃n:Nat,du p gen=n:=⟨_,(Int.toNat_of_nonneg (by omega)).symm⟩
    rw[hn]at hg g1 g3 hF;rw[FZ]at hF
    conv=>whnf
    repeat'((first|clear U K|apply st|(apply zk;intro K U)|refine zY ?_|(refine zb (fun hc=>?_) (fun hc=>?_)<;>try exact⟨⟩)|fail)<;>conv=>whnf)
    all_goals try(exfalso;omega)
    refine(Zs 1 n (by omega) (by omega)).use (rest:=[.box nB [.m nm],.map nm (Td M),.box n8 (On p gen)]) hs ?_;clear hs;rintro r post Z ⟨v,rfl,rfl,hsl⟩ hs;have el:(iL (List.replicate n (1:Int))).length=n:=by simp
    obtain⟨id,cp,rfl⟩:=fq hs (i:=0) rfl hsl;rw[el]at hs hsl ⊢;have c3:=yG (gen:=gen) (ms:=Bo p gen) hl.1 id n cp;refine zz ?_;(repeat clear U K);repeat intro K U
    rw[el];have hs:Sat Z [.own (.sl id n cp) 1 (iL (List.replicate n 1)),.box nB [.m nm],.map nm (Td M),.box n8 (On p gen)]:=hs;refine DD (fun x:List Int×Int=>NT (3+(p.AK.length:Int)) x.1) (fun x=>[(13,eI x.2)]) (fun x=>[.own (.sl id n cp) 1 (iL x.1),.box nB [.m nm],.map nm (Td M),.box n8 (On p gen)]) (fun x=>EG (3+(p.AK.length:Int)) x.1/\x.1.length=n/\DH (3+(p.AK.length:Int)) (HY p gen sv) x.1 R/\0<=x.2) (List.replicate n 1,(n:Int)) rfl ⟨Gs (by omega) _,by simp,hF,by omega⟩ hs ?_;clear hs hF;rintro⟨cs,at_⟩ Z ⟨hk,hl3,hF,hat⟩ hs;dsimp only at hk hl3 hF hat hs
    conv=>whnf
    repeat'((first|clear U K|apply st|(apply zk;intro K U)|refine zY ?_|refine zC ?_|(refine zb (fun hc=>?_) (fun hc=>?_)<;>try exact⟨⟩)|refine zo fun nn hnn Z hs=>?_|fail)<;>conv=>whnf)
    all_goals try(exfalso;omega)
    have hca:=MH _ (Jr hl.1) cs false (by omega);have hx:=hall cs hk;refine As.mono (genG h8 (tog:=Jg (AG p) cs) (fun nS nW=>jE hfn hca ?_) (stp:=Pa fun y=> !M.contains (y:Int)) (D:=fun y (s:Bool)=>y∈GN p (Jg (AG p) cs) (Bo p gen)/\s=false) (fun nS nW=>Iu (HB:=fun(_:Bool) l=>l= [.own (.sl id n cp) 1 (iL cs),.box nB [.m nm],.map nm (Td M),.box n8 (On p gen)]) (fun s=>if s then .exit 2 else .ready) rfl (fun _ s h=>by rw[h.2];rfl) ?_) false (fC _ _ (fun _ h=>h)) ⟨_,rfl,rfl⟩ hs) ?_
    .rintro z _ Z ⟨_,rfl,rfl⟩ hs
     exact .cons (.refl _) (.cons (.rp (.cons (hs.Ic 3 rfl) .nil)) .nil)
    .clear hs
     rintro y s ⟨hy,rfl⟩ _ rfl Z hs;cases hc0:M.contains (y:Int)
     .rw[show Pa (fun y=> !M.contains (y:Int)) y false=(true,false) by simp only[Pa,hc0];rfl]
      conv=>whnf
      repeat'((first|clear U K|apply st|(apply zk;intro K U)|refine zY ?_|(refine HN hs 2 rfl rfl (QO _) ?_;rw[WU,hc0])|fail)<;>conv=>whnf)
      intro hno;exact⟨rfl,_,rfl,hs.R8 hno⟩
     .rw[show Pa (fun y=> !M.contains (y:Int)) y false=(false,true) by simp only[Pa,hc0];rfl]
      conv=>whnf
      repeat'((first|clear U K|apply st|(apply zk;intro K U)|refine zY ?_|(refine HN hs 2 rfl rfl (QO _) ?_;rw[WU,hc0])|fail)<;>conv=>whnf)
      intro hno;exact⟨rfl,_,rfl,hs.R8 hno⟩
    .clear hs
     rw[YP,hx];cases hE:HY p gen sv cs
     .rintro r Z ⟨rfl,_,⟨_,rfl,rfl⟩,hs⟩
      refine Gn hs fun Z hs=>?_
      refine zz ?_;(repeat clear U K);repeat intro K U
      obtain⟨cs',hnx,hF2⟩:=hF.later hE;subst hl3;have hw:IntKind.i64.wrap (3+(p.AK.length:Int))=3+(p.AK.length:Int):=wrap64 (by omega) (by omega);have ecl:((p.AK.map LP).length:Int)=p.AK.length:=by simp
      have ecs:((iL cs).length:Int)=cs.length:=by simp
      rw[ecs];refine Ba cs.length (fun k (_:Unit)=>[(13,eI (O3 cs.length k))]) (fun k _=>[.own (.sl id cs.length cp) 1 (iL (Ri cs k)),.box nB [.m nm],.map nm (Td M),.box n8 (On p gen)]) (fun k _=>E8 (3+(p.AK.length:Int)) (cs.drop (cs.length - k))=none) () rfl (by simp[E8]) (by rw[pJ];exact hs) ?_;clear hs;rintro k - Z hkn hno hs;have hdw:=YI (n:=cs.length) (by omega) k hkn;have hzl:=Z3 hkn;by_cases hlt:k<cs.length
      .obtain⟨c,hc⟩: ∃c,cs[cs.length - 1 - k]? =some c:=⟨_,CQ (by omega)⟩
       have hcB:=hk c (BY hc);have hj:(O3 cs.length k).toNat=cs.length - 1 - k:=by rw[hdw];omega
       have hat3:(Ri cs k)[(O3 cs.length k).toNat]? =some c:=by rw[hj];exact fp hlt hc
       have hge:0<=O3 cs.length k:=by rw[hdw];omega
       have hlt2:O3 cs.length k<(cs.length:Int):=by rw[hdw];omega
       have hlt4:(O3 cs.length k).toNat<(Ri cs k).length:=by rw[hj,hzl];omega
       have hw1:IntKind.i64.wrap (c+1)=c+1:=wrap64 (by omega) (by omega);have hset:((Ri cs k).set (O3 cs.length k).toNat (IntKind.i64.wrap (c+1)))[(O3 cs.length k).toNat]? =some (IntKind.i64.wrap (c+1)):=List.getElem?_set_self hlt4;have hlt5:(O3 cs.length k).toNat<((Ri cs k).set (O3 cs.length k).toNat (IntKind.i64.wrap (c+1))).length:=by rw[List.length_set];exact hlt4
       by_cases hB:c+1<3+(p.AK.length:Int)
       .have hfd:=WC hlt hc hno hB
        rw[hfd]at hnx;simp only[Hp]at hnx;subst hnx
        conv=>whnf
        repeat'((first|clear U K|apply st|(apply zk;intro K U)|refine zY ?_|refine zs fun Z hs=>?_|(refine zb (fun hc=>?_) (fun hc=>?_)<;>try exact⟨⟩)|fail)<;>conv=>whnf)
        all_goals try(exfalso;omega)
        rw[hj,hw1]at hs;exact⟨(_,O3 cs.length k),PC hk hfd,rfl,⟨(HK hk hfd).1,(HK hk hfd).2,hF2,hge⟩,hs⟩
       .have hmx:=fo hlt hc hno hB
        conv=>whnf
        repeat'((first|clear U K|apply st|(apply zk;intro K U)|refine zY ?_|refine zs fun Z hs=>?_|(refine zb (fun hc=>?_) (fun hc=>?_)<;>try exact⟨⟩)|fail)<;>conv=>whnf)
        all_goals try(exfalso;omega)
        have hs:Sat Z [.own (.sl id cs.length cp) 1 (iL (((Ri cs k).set (O3 cs.length k).toNat (IntKind.i64.wrap (c+1))).set (O3 cs.length k).toNat 1)),.box nB [.m nm],.map nm (Td M),.box n8 (On p gen)]:=hs;rw[List.set_set,hj,WE hlt]at hs;exact⟨hlt,(),rfl,hmx,hs⟩
      .obtain rfl:k=cs.length:=by omega
       rw[Nat.sub_self,List.drop_zero,hnx]at hno;cases hno
     .rintro r Z ⟨rfl,_,⟨_,rfl,rfl⟩,hs⟩
      refine Q1 hs fun Z hs=>?_
      refine zz ?_;(repeat clear U K);repeat intro K U
      rw[hC,if_pos rfl,hF.now hE];exact AY (.t (.cons (hs.Ic 0 rfl) (.cons (.refl _) .nil)))
 .rw[if_neg h8]at c1 ⊢
  rw[if_neg (by decide)];refine Zb kZ ?_;have hs:=Sn;exact zW
end Go.Gl
namespace Go.Gl
open Go.Proofs
attribute [local irreducible] As Af AV AQ AI AU AP AR AJ AT AM AN Ag Ar Sat AS Ap AX W
def Yx (g:Giv) (c0:Pure zP 9 [] (.b true)):Pure zP 4 [.a (Xu g)] (.b true):=by
 obtain⟨R,hR⟩:=jn g.p g.gen g.st;have c1:=PV g.p g.gen g.st hR;have c2:=ou g.p g.gen g.st hR;have c3:=xI g.p g.gen;have c4:=xH g.p g.gen
 obtain⟨L,fl,e,hL⟩: ∃(L:List Int) (fl:Bool) (e:Int),Tl g.p g.gen g.st R= .t [.l (iL L) fl,eI e]:=by
  rw[Tl];split
  .split
   .exact⟨R,false,0,rfl⟩
   .exact⟨[],true,5,rfl⟩
  .exact⟨[],true,_,rfl⟩
 obtain⟨a,b,e2,hS⟩: ∃(a b:Bool) (e:Int),bV g.p g.gen= .t [.b a,.b b,eI e]:=by
  rw[bV];split
  .exact⟨_,_,0,rfl⟩
  .exact⟨false,false,_,rfl⟩
 rw[hL]at c1 c2;rw[hS]at c3 c4;have c5:=Ep L L fl fl;rw[beq_self_eq_true]at c5;refine ctr4 kZ ?_;have hs:=Sn
 conv=>whnf
 repeat'((first|clear U K|apply st|(apply zk;intro K U)|refine zY ?_|refine zC ?_|(refine zb (fun hc=>?_) (fun hc=>?_)<;>try exact⟨⟩)|fail)<;>conv=>whnf)
 all_goals first
  | exact AF rfl
  | (exfalso;simp at hc;done)
  | (refine AF ?_;simp;done)
def R0:List (Int->Fact×Int)->Fact->Int->Fact×Int
 | [],o,n=>(o,n)
 | g::r,o,n=>if 0<=n then R0 r (g n).1 (g n).2 else(o,n)
def xw (f:Fact) (l:List (Int->Fact×Int)) (n:Int):Fact×Int:=if n=0 then(f,-1)else R0 l f (n - 1)
def GX (f:Fact):Int->Fact×Int:=f.Fv xw
def KM (f:Fact) (n:Int):GX f n=if n=0 then(f,-1)else R0 (f.kids.map GX) f (n - 1):=congrFun (Fact.CT xw f) n
end Go.Gl
namespace Go.Gl
open Go.Proofs
def sl1 {Z:AD} {x:Fact} {r:List Fact} {f:Bool} {K:V->AD->Prop} (h: ∀b,K (.l (facts r) b) Z):AP Z 6 (.l (facts (x::r)) f) (some (.i .i64 1)) none none K:=by
 refine⟨fun e he=>?_,?_⟩
 .obtain⟨x,_,rfl⟩:=GL.1 he
  rw[A9];rfl
 .simp only[OD,Bh,JU]
  refine⟨by omega,by omega,by omega,?_⟩;have:=h (f&&decide (((r.length+1:Nat):Int)=((r.length+1:Nat):Int)));simpa[List.map_take,List.take_of_length_le]using this
attribute [local irreducible] As Af AV AQ AI AU AP AR AJ AT AM AN Ag Ar Sat AS Ap AX W
attribute [local irreducible] Fz
def lO (op:Int):List Fact->Fact
 | []=> .mk 1 0 [] 0 0 []
 | [x]=>x
 | x::y::r=> .mk op 0 [] 0 0 [x,lO op (y::r)]
def Tr (p:Prog) (set:List Int) (m:Int):Fact:=if set.contains m then(BK p m).fact else Ca (BK p m).fact
def K9 (p:Prog) (gen:Int) (set:List Int):Fact:=lO 6 ((Bo p gen).map (Tr p set))
def gM {p:Prog} {gen:Int}: ∀x∈Bo p gen,BG p x=true:=fun x hx=>by
 have:=(List.contains_iff_mem).2 hx;rw[MQ,A7]at this;exact this.1
def Js:Fact:= .mk 0 0 [] 0 0 []
def Ze (p:Prog) (gen:Int) (l:List Int):Fact×Int:=if B9 p gen then(if G5 p gen l then(if(Bo p gen).length<=8 then(if Bv (AG p) (K9 p gen l)then(K9 p gen l,0)else(Js,3))else(Js,3))else(Js,2))else(Js,2)
def Hi {Z Z':AD} {a b:Bool}:Fa Z Z' (.a [.i .i64 0,.i .i64 0,.l [] a,.i .i64 0,.i .i64 0,.l [] b]) (.a (xF Js)):= .a (.cons (.refl _) (.cons (.refl _) (.cons BS (.cons (.refl _) (.cons (.refl _) (.cons BS .nil))))))
end Go.Gl
