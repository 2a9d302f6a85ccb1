import Derived.Test.YtnidfcmdimehdaaGreatV14
import Derived.Test.YtnidfcmdimehdaaGreatV20
import Derived.Test.YtnidfcmdimehdaaGreatV28
import Derived.Test.YtnidfcmdimehdaaGreatV31
import Derived.Test.YtnidfcmdimehdaaGreatV32
import Derived.Test.YtnidfcmdimehdaaGreatV34
set_option linter.all false
set_option linter.defProp false
set_option maxHeartbeats 8000000
noncomputable section
namespace Go.Gl
open Go.Proofs
abbrev xe (w:AG) (us:List Nat) (L:Nat) (cs:List Int) (f:Bool):List V:=[.rp (gW w us),.m L,.l (iL cs) f]
attribute [local irreducible] Av An Af AQ AL Ac AP AS AK Ab AN AO As A3 Sat AV A0 Ag W
def TI (w : AG) (hw:Cq w) {kf:Int->List Int->Kn} (hr:EH w kf) (cs:List Int) (f:Bool) (hcs:cs.length<=3) {a:Int} (ha:0<=a) {p:List Int} (hp:p.length<=2) (fit:Nat->Bool) (hfit:p= []/\fit=JK cs a\/p≠[]/\fit=fun _=>true) (can:Int->Bool) {L:Nat}
    (hcan: ∀s∈(kf a p).AF,∀es,Bv kf es->BO zP 96 [.a (xe w (BX w.parents) L cs f),CE a (p++[s])] (Bo L es) fun r post=>r= .ret (.b (can s))/\Gz kf L es post) {es:List B2} (h:Bv kf es) :
    BO zP 96 [.a (xe w (BX w.parents) L cs f),CE a p] (Bo L es) fun r post=>r= .ret (.b ((List.range (3+w.parents.length)).any fun c=>decide (1<=c)&&(fit c&&VW w kf a p can c)))/\Gz kf L es post:=by
 intro Z hs;have hM:=Mx;have hu:rP (BX w.parents):=Gb _ _ (by have:=hw.1.1;omega);have hul:(BX w.parents).length=3+w.parents.length:=Db _ _;have hwp:=hw.1.1;have hint:=fun es (h:Bv kf es)=>yD w hr h (L:=L) (a:=a) hp
 have hnon:=fun es (h:Bv kf es)=>qa w hr h (L:=L) (a:=a) hp
 have hobj:=fun up hup es (hi:Bv kf es)=>aI w hw (BX w.parents) hr hp up hup 96 [.a (xe w (BX w.parents) L cs f)] [] can (L:=L) hcan (es:=es) hi
 have hcP: ∀c,VW w kf a p can c=if c=1 then Fw kf a p else if c=2 then DT kf a p else Ru w kf a p ((BX w.parents).getD c 0) can:=fun _=>rfl
 generalize VW w kf a p can=cP at *;generalize BX w.parents=us at *;have eul:((us.map fun u=>[eU u]).length:Int)=us.length:=by simp
 have hR0:((List.range (3+w.parents.length)).any fun c=>decide (1<=c)&&(fit c&&cP c))=((List.range us.length).drop 1).any fun c=>decide (1<=c)&&(fit c&&cP c):=by
  rw[hul,show 3+w.parents.length=(2+w.parents.length)+1 by omega,List.range_succ_eq_map];simp
 generalize ((List.range (3+w.parents.length)).any fun c=>decide (1<=c)&&(fit c&&cP c))=R at *;refine y4 kZ ?_;refine zz ?_;(repeat clear U K);repeat intro K U
 refine Cn (us.length - 1) (fun k (_:List B2)=>[(5,eI ((k+1:Nat):Int))]) (fun _ x=>Bo L x) (fun k x=>(Bv kf x/\Ko es x)/\R=((List.range us.length).drop (k+1)).any fun c=>decide (1<=c)&&(fit c&&cP c)) es rfl ⟨⟨h,.refl _⟩,hR0⟩ hs ?_;clear hs hR0;rintro k x Z hk ⟨⟨hi,hx⟩,hn⟩ hs;have hwk:IntKind.i64.wrap (((k+1:Nat):Int)+1)=((k+1+1:Nat):Int):=by rw[wrap64 (by omega) (by omega)];omega
 rcases Nat.lt_or_ge k (us.length - 1)with hlt|hge
 .have hrk : (List.range us.length)[k+1]? =some (k+1):=List.getElem?_range (by omega)
  rw[drop_cons hrk,Rj,decide_eq_true (show 1<=k+1 by omega),Du]at hn;obtain⟨u,hu2⟩: ∃u,us[k+1]? =some u:=⟨_,Dp (by omega)⟩
  have hu3:us[(((k+1:Nat):Int)).toNat]? =some u:=by rw[HX];exact hu2
  have hug:us.getD (k+1) 0=u:=by rw[DK,hu2];rfl
  have hu64:u<18446744073709551616:=hu u (Cm hu2);have hck:=hcP (k+1);rw[hug]at hck
  have d216:k+1<3->BO zP 154 [.a (gv w us L),CE a p,eI ((k+1:Nat):Int)] (Bo L x) fun r post=>r= .ret (.b (cP (k+1)))/\Gz kf L x post:=fun h3=>by
   rcases k with _|_|k
   .rw[hck];exact hint x hi
   .rw[hck];exact hnon x hi
   .omega
  have d217:3<=k+1->BO zP 155 [.a (gv w us L),CE a p,eU u,.f (.func 96) [.a (xe w us L cs f)] []] (Bo L x) fun r post=>r= .ret (.b (cP (k+1)))/\Gz kf L x post:=fun h3=>by
   rw[hck,if_neg (by omega),if_neg (by omega)];exact hobj u hu64 x hi
  clear hck hint hnon hobj hcP;generalize cP (k+1)=B at *;rcases hfit with⟨rfl,rfl⟩|⟨hpn,rfl⟩
  .by_cases hac:a<(cs.length:Int)
   .obtain ⟨y,hy⟩: ∃y,cs[a.toNat]? =some y:=⟨_,Dp (by omega)⟩
    have hfv:JK cs a (k+1)=(y==((k+1:Nat):Int)):=by
     rw[JK,decide_eq_false (by omega),Bool.false_or,DK,hy];rfl
    rw[hfv]at hn;by_cases hyk:y=((k+1:Nat):Int)
    .rw [C1.2 hyk,Du]at hn
     cases B
     all_goals
      conv=>whnf
      repeat'((first|clear U K|apply st|(apply zk;intro K U)|refine zY ?_|(refine zb (fun hc=>?_) (fun hc=>?_)<;>try exact⟨⟩)|fail)<;>conv=>whnf)
      all_goals try(exfalso;omega)
      all_goals try(exfalso;simp at hc;done)
      all_goals
       first
        | refine(d216 (by omega)).use (rest:=[]) (by simpa using hs) ?_
        | refine(d217 (by omega)).use (rest:=[]) (by simpa using hs) ?_
       clear hs;rintro r post Z ⟨rfl,es2,hx2,hi2,rfl⟩ hs;rw[FE]at hs
       conv=>whnf
       repeat'((first|clear U K|apply st|(apply zk;intro K U)|refine zY ?_|(refine zb (fun hc=>?_) (fun hc=>?_)<;>try exact⟨⟩)|fail)<;>conv=>whnf)
       first
        | exact AH ⟨_,⟨by rw[hn];rfl,es2,hx.trans hx2,hi2,rfl⟩,hs⟩
        | exact⟨by omega,es2,by rw[hwk];rfl,⟨⟨hi2,hx.trans hx2⟩,by rw[hn];rfl⟩,hs⟩
    .rw[beq_eq_false_iff_ne.2 hyk,Bool.false_and,Bool.false_or]at hn
     conv=>whnf
     repeat'((first|clear U K|apply st|(apply zk;intro K U)|refine zY ?_|(refine zb (fun hc=>?_) (fun hc=>?_)<;>try exact⟨⟩)|fail)<;>conv=>whnf)
     all_goals try(exfalso;omega)
     all_goals try(exfalso;simp at hc;done)
     all_goals try exact absurd (by assumption) hyk
     all_goals try exact absurd rfl (by assumption)
     all_goals exact⟨by omega,x,by rw[hwk];rfl,⟨⟨hi,hx⟩,hn⟩,hs⟩
   .have hfv:JK cs a (k+1)=true:=by rw[JK,decide_eq_true (by omega)];rfl
    rw[hfv,Du]at hn;cases B
    all_goals
     conv=>whnf
     repeat'((first|clear U K|apply st|(apply zk;intro K U)|refine zY ?_|(refine zb (fun hc=>?_) (fun hc=>?_)<;>try exact⟨⟩)|fail)<;>conv=>whnf)
     all_goals try(exfalso;omega)
     all_goals try(exfalso;simp at hc;done)
     all_goals
      first
       | refine(d216 (by omega)).use (rest:=[]) (by simpa using hs) ?_
       | refine(d217 (by omega)).use (rest:=[]) (by simpa using hs) ?_
      clear hs;rintro r post Z ⟨rfl,es2,hx2,hi2,rfl⟩ hs;rw[FE]at hs
      conv=>whnf
      repeat'((first|clear U K|apply st|(apply zk;intro K U)|refine zY ?_|(refine zb (fun hc=>?_) (fun hc=>?_)<;>try exact⟨⟩)|fail)<;>conv=>whnf)
      first
       | exact AH ⟨_,⟨by rw[hn];rfl,es2,hx.trans hx2,hi2,rfl⟩,hs⟩
       | exact⟨by omega,es2,by rw[hwk];rfl,⟨⟨hi2,hx.trans hx2⟩,by rw[hn];rfl⟩,hs⟩
  .rw [Du]at hn
   have hpl:p.length≠0:=fun e=>hpn (Xy.1 e)
   cases B
   all_goals
    conv=>whnf
    repeat'((first|clear U K|apply st|(apply zk;intro K U)|refine zY ?_|(refine zb (fun hc=>?_) (fun hc=>?_)<;>try exact⟨⟩)|fail)<;>conv=>whnf)
    all_goals try(exfalso;omega)
    all_goals try(exfalso;simp at hc;done)
    all_goals
     first
      | refine(d216 (by omega)).use (rest:=[]) (by simpa using hs) ?_
      | refine(d217 (by omega)).use (rest:=[]) (by simpa using hs) ?_
     clear hs;rintro r post Z ⟨rfl,es2,hx2,hi2,rfl⟩ hs;rw[FE]at hs
     conv=>whnf
     repeat'((first|clear U K|apply st|(apply zk;intro K U)|refine zY ?_|(refine zb (fun hc=>?_) (fun hc=>?_)<;>try exact⟨⟩)|fail)<;>conv=>whnf)
     first
      | exact AH ⟨_,⟨by rw[hn];rfl,es2,hx.trans hx2,hi2,rfl⟩,hs⟩
      | exact⟨by omega,es2,by rw[hwk];rfl,⟨⟨hi2,hx.trans hx2⟩,by rw[hn];rfl⟩,hs⟩
 .rw[List.drop_of_length_le (by rw[List.length_range];omega),List.any_nil]at hn
  conv=>whnf
  repeat'((first|clear U K|apply st|(apply zk;intro K U)|refine zY ?_|(refine zb (fun hc=>?_) (fun hc=>?_)<;>try exact⟨⟩)|fail)<;>conv=>whnf)
  all_goals try(exfalso;omega)
  all_goals exact AH ⟨_,⟨by rw[hn],x,hx,hi,rfl⟩,hs⟩
def pj (w:AG) (hw:Cq w) {kf:Int->List Int->Kn} (hr:EH w kf) (cs:List Int) (f:Bool) (hcs:cs.length<=3) {a:Int} (ha:0<=a) {L:Nat}: ∀(d:Nat) (fit:Nat->Bool) (p:List Int),p.length+d=2->(p= []/\fit=JK cs a\/p≠[]/\fit=fun _=>true)-> ∀es,Bv kf es->
    BO zP 96 [.a (xe w (BX w.parents) L cs f),CE a p] (Bo L es) fun r post=>r= .ret (.b (Ry w kf a d fit p))/\Gz kf L es post:=by
 intro d
 induction d with
 | zero=>
   intro fit p hp hfit es h;rw[Ry];exact TI w hw hr cs f hcs ha (by omega) fit hfit _ (fun s hs=>by rw[hr.short a p (by omega)]at hs;cases hs) h
 | succ d ih=>
   intro fit p hp hfit es h;rw[Ry];exact TI w hw hr cs f hcs ha (by omega) fit hfit _ (fun s _ es h=>ih (fun _=>true) (p++[s]) (by simp;omega) (.inr ⟨by simp,rfl⟩) es h) h
def m6 (w:AG) (hw:Cq w) (cs:List Int) (f:Bool) (hcs:cs.length<=3):Vc 95 [] [.rp [.rp (gW w (BX w.parents))],.rp [.l (iL cs) f]] w (bn w cs):=by
 intro l b hl hlen;refine Pure.of ?_;show Av zP 95 [LD l b,.rp [.rp (gW w (BX w.parents))],.rp [.l (iL cs) f]] _ _;have hr:=WW hw hl hlen;have hlk:=XI w (BX w.parents) l b (MW (by have:=hw.1.1;omega) hl) hlen;have hT:bn w cs l=(Bi 3).all fun a=>Ry w (kg l) a 2 (JK cs a) []:=rfl
 rw[hT];refine y5 kZ ?_;have hs:=Sn;refine zz ?_;(repeat clear U K);repeat intro K U
 refine hlk.use (rest:=[]) (by simpa using hs) ?_;clear hs;rintro r post Z ⟨L,es,rfl,hinv,rfl⟩ hs;rw[FE]at hs
 conv=>whnf
 repeat'((first|apply st|refine rk ?_ ?_|exact fun s e=>by cases e;rfl|fail)<;>conv=>whnf)
 refine(V5 96 [.a (xe w (BX w.parents) L cs f)] [] (fun a=>Ry w (kg l) a 2 (JK cs a) []) (fun a h0 _ es hi=>pj w hw hr cs f hcs h0 2 (JK cs a) [] rfl (.inl ⟨rfl,rfl⟩) es hi) hinv).use (rest:=[]) (by simpa using hs) ?_;clear hs;rintro r post Z ⟨rfl,es2,hx2,hi2,rfl⟩ hs;refine zz ?_;(repeat clear U K);repeat intro K U
 exact AH rfl
end Go.Gl
namespace Go.Gl
open Go.Proofs
def Ly (so:Nat->Nat->Bool):Nat->Nat->Nat->List Nat
 | 0,many,s=>if so s many then [s]else []
 | d+1,many,s=>if so s many then Ly so d (many+1) s++Ly so d (many+1) (s|||2 ^ many)else []
def RZ (s n:Nat):Ce s (n+1)=Ce s n++[s.testBit n]:=by simp[Ce,List.range_succ]
def RY {s n:Nat} (h:s<2 ^ n):Ce (s|||2 ^ n) (n+1)=Ce s n++[true]/\Ce s (n+1)=Ce s n++[false]/\s|||2 ^ n<2 ^ (n+1)/\s<2 ^ (n+1):=by
 have hp:2 ^ n<2 ^ (n+1):=Nat.pow_lt_pow_right (by omega) (by omega);have hn:s.testBit n=false:=Nat.testBit_lt_two_pow h;refine⟨?_,by rw[RZ,hn],Nat.or_lt_two_pow (by omega) hp,by omega⟩;rw[RZ,D6,hn];simp only[beq_self_eq_true,Bool.or_true];congr 1;refine List.map_congr_left fun i hi=>?_
 rw[D6,beq_eq_false_iff_ne.2 (by have:=List.mem_range.1 hi;omega),Bool.or_false]
def T7 {so:Nat->Nat->Bool} {E:List Bool->Bool}: ∀(d many s:Nat),s<2 ^ many->(∀s n,n<=many+d->so s n=E (Ce s n))->(Ly so d many s).map (fun x=>Ce x (many+d))=Gt E d (Ce s many)/\ ∀x∈Ly so d many s,x<2 ^ (many+d)
 | 0,many,s,hs,hE=>by
   rw[Ly,Gt,hE s many (by omega)];split
   .exact⟨rfl,fun x hx=>by rw[Lu.1 hx];exact hs⟩
   .exact⟨rfl,fun x hx=>by cases hx⟩
 | d + 1,many,s,hs,hE=>by
   obtain⟨b1,b2,b3,b4⟩:=RY hs;obtain⟨i1,i2⟩:=T7 (so:=so) (E:=E) d (many+1) s b4 (fun s n hn=>hE s n (by omega));obtain⟨j1,j2⟩:=T7 (so:=so) (E:=E) d (many+1) (s|||2 ^ many) b3 (fun s n hn=>hE s n (by omega));rw[b2]at i1;rw[b1]at j1;rw[show many+1+d=many+(d+1) by omega]at i1 i2 j1 j2;rw[Ly,Gt,hE s many (by omega)];split
   .refine⟨by rw[VB,i1,j1],fun x hx=>?_⟩
    rcases Ds.1 hx with hx|hx
    .exact i2 x hx
    .exact j2 x hx
   .exact⟨rfl,fun x hx=>by cases hx⟩
abbrev soV (g:FuncId) (fi ca:List V) (p:Prog) (gen:Int) (ms:List Int):V:= .f (.func 145) [] [.rp [.f (.func g) fi ca],.rp (X0 p gen ms)]
abbrev yP (p:Prog) (gen:Int) (ms:List Int) (yv:V) (nS nW:Nat):V:= .f (.func 149) [] [.p nS 0,.rp (X0 p gen ms),.rp [yv],.p nW 0]
section
variable {g:FuncId} {fi ca:List V} {p:Prog} {gen:Int} {ms:List Int} {tog:List Fact->Bool}
attribute [local irreducible] Av An Af AQ AL Ac AP AS AK Ab AN AO As A3 Sat AV A0 Ag W
def V0 {α S:Type} (P:Program) (x:V) (ea:α->V) (HL:S->List At->Prop) (stp:α->S->Bool×S) (D:α->S->Prop) (pre:List At):Prop:=
 ∀y s,D y s-> ∀l Z,HL s l->Sat Z (pre++l)->As P x [ea y] Z fun r Z'=>r= .ret (.b (stp y s).1)/\ ∃l',HL (stp y s).2 l'/\Sat Z' (pre++l')
def V0.use {α S:Type} {P:Program} {x:V} {ea:α->V} {HL:S->List At->Prop} {stp:α->S->Bool×S} {D:α->S->Prop} {pre:List At} (h:V0 P x ea HL stp D pre) {y:α} {s:S} (hd:D y s) {l:List At} {Z:AE} (hl:HL s l) (hs:Sat Z (pre++l)) {k kp:V->AE->Prop} (hk: ∀l' Z',HL (stp y s).2 l'->Sat Z' (pre++l')->k (.b (stp y s).1) Z'):As P x [ea y] Z (qk k kp):=
 (h y s hd l Z hl hs).mono fun r Z' ⟨e,l',h1,h2⟩=>by rw[e];exact hk l' Z' h1 h2
abbrev mS (g:FuncId) (fi ca:List V) (p:Prog) (gen:Int) (ms:List Int) (yv:V) (nS nW:Nat):List At:=[.box nW [yP p gen ms yv nS nW],.box nS [soV g fi ca p gen ms]]
def mo {S:Type} (h:VR p ms) (hcan:Vc g fi ca (AI p) tog) {fn:Fn} {fiy cay:List V} {HL:S->List At->Prop} {stp:Nat->S->Bool×S} {D:Nat->S->Prop} {nS nW:Nat}
    (hy:V0 zP (.f fn fiy cay) eU HL stp D (mS g fi ca p gen ms (.f fn fiy cay) nS nW)) :
    ∀(d many s:Nat) (z0:S),many+d=ms.length->s<2 ^ many->Rk stp D (Ly (fun s n=>F8 tog (JT p ms) (Ce s n)) d many s) z0-> ∀l Z,HL z0 l->Sat Z (mS g fi ca p gen ms (.f fn fiy cay) nS nW++l)->
    Av zP 149 [eU s,eI many,.p nS 0,.rp (X0 p gen ms),.rp [.f fn fiy cay],.p nW 0] Z fun r Z'=>r= .ret (.b (CK stp (Ly (fun s n=>F8 tog (JT p ms) (Ce s n)) d many s) z0).1)/\
     ∃l',HL (CK stp (Ly (fun s n=>F8 tog (JT p ms) (Ce s n)) d many s) z0).2 l'/\Sat Z' (mS g fi ca p gen ms (.f fn fiy cay) nS nW++l'):=by
 have hM:=Mx;have hfew:=h.few;intro d
 induction d with
 | zero=>
   intro many s z0 hmd hs2 hok l Z hl hs;have hs64:s<18446744073709551616:=Nat.lt_of_lt_of_le hs2 (Nat.le_trans (Nat.pow_le_pow_right (by omega) (show many<=8 by omega)) (by decide));have c1:=qO (gen:=gen) h hcan (s:=s) (many:=many) hs64 (by omega);rw[Ly]at hok ⊢;cases hB:F8 tog (JT p ms) (Ce s many)<;>rw[hB]at c1
   .simp only[hB,NN,if_false]at hok ⊢
    refine UE kZ ?_
    conv=>whnf
    repeat'((first|clear U K|apply st|(apply zk;intro K U)|refine zY ?_|refine BH (c1.use ?_)|fail)<;>conv=>whnf)
    all_goals exact AH ⟨rfl,l,hl,hs⟩
   .simp only[hB,if_true]at hok ⊢
    rw[Qj];refine UE kZ ?_
    conv=>whnf
    repeat'((first|clear U K|apply st|(apply zk;intro K U)|refine zY ?_|refine BH (c1.use ?_)|(refine zb (fun hc=>?_) (fun hc=>?_)<;>try exact⟨⟩)|fail)<;>conv=>whnf)
    all_goals try(exfalso;simp at hc;omega)
    refine hy.use hok.1 hl hs ?_;clear hs;intro l' Z hl' hs;refine zz ?_;(repeat clear U K);repeat intro K U
    exact AH ⟨rfl,l',hl',hs⟩
 | succ d ih=>
   intro many s z0 hmd hs2 hok l Z hl hs;have hs64:s<18446744073709551616:=Nat.lt_of_lt_of_le hs2 (Nat.le_trans (Nat.pow_le_pow_right (by omega) (show many<=8 by omega)) (by decide));have c1:=qO (gen:=gen) h hcan (s:=s) (many:=many) hs64 (by omega);obtain⟨-,-,b3,b4⟩:=RY hs2;rw[Ly]at hok ⊢;cases hB:F8 tog (JT p ms) (Ce s many)<;>rw[hB]at c1
   .simp only[hB,NN,if_false]at hok ⊢
    refine UE kZ ?_
    conv=>whnf
    repeat'((first|clear U K|apply st|(apply zk;intro K U)|refine zY ?_|refine BH (c1.use ?_)|fail)<;>conv=>whnf)
    all_goals exact AH ⟨rfl,l,hl,hs⟩
   .simp only[hB,if_true]at hok ⊢
    obtain⟨ok1,ok2⟩:=PS hok;have i1:=ih (many+1) s z0 (by omega) b4 ok1;have i2:=fun z0 h=>ih (many+1) (s|||2 ^ many) z0 (by omega) b3 h
    have c2:=Nf s (many:Int) hs64 (by omega) (by omega);rw[HX]at c2;have hwi:IntKind.i64.wrap ((many:Int)+1)=((many+1:Nat):Int):=by rw[wrap64 (by omega) (by omega)];omega
    rw[<-hwi]at i1 i2;rw[M3];generalize Ly (fun s n=>F8 tog (JT p ms) (Ce s n)) d (many+1) s=A1 at *;generalize Ly (fun s n=>F8 tog (JT p ms) (Ce s n)) d (many+1) (s|||2 ^ many)=A2 at *;generalize hx1:CK stp A1 z0=x1 at *;obtain⟨q1,z1⟩:=x1;dsimp only at i1 ok2 ⊢;refine UE kZ ?_
    conv=>whnf
    repeat'((first|clear U K|apply st|(apply zk;intro K U)|refine zY ?_|refine BH (c1.use ?_)|(refine zb (fun hc=>?_) (fun hc=>?_)<;>try exact⟨⟩)|fail)<;>conv=>whnf)
    all_goals try(exfalso;simp at hc;omega)
    refine BH (Av.mono (i1 l Z hl hs) ?_);clear hs;rintro r Z ⟨rfl,l1,hl1,hs⟩;cases q1
    .conv=>whnf
     repeat'((first|clear U K|apply st|refine rk ?_ ?_|exact fun s e=>by cases e;rfl|fail)<;>conv=>whnf)
     exact AH ⟨rfl,l1,hl1,hs⟩
    .have i3:=i2 z1 (ok2 rfl)
     conv=>whnf
     repeat'((first|apply st|refine zY ?_|refine rk ?_ ?_|exact fun s e=>by cases e;rfl|refine zC ?_|fail)<;>conv=>whnf)
     refine BH (Av.mono (i3 l1 Z hl1 hs) ?_);clear hs;rintro r Z ⟨rfl,l2,hl2,hs⟩;refine zz ?_;(repeat clear U K);repeat intro K U
     exact AH ⟨rfl,l2,hl2,hs⟩
end
end Go.Gl
namespace Go.Gl
open Go.Proofs
def Xa {ms:List Int} {bs:List Bool} {k:Nat} {m:Int} {b:Bool} (hm:ms[k]? =some m) (hb:bs[k]? =some b):Ct ms (bs.take (k+1))=Ct ms (bs.take k)++(if b then [m]else []):=by
 have hz : ms.zip (bs.take (k+1))=ms.zip (bs.take k)++[(m,b)]:=by
  have h1:(ms.zip bs)[k]? =some (m,b):=List.getElem?_zip_eq_some.2 ⟨hm,hb⟩
  have e: ∀(a:List Int) (c:List Bool) (j:Nat),a.zip (c.take j)=(a.zip c).take j:=fun a=>by
   induction a with
   | nil=>intro c j;simp
   | cons x r ih=>
     intro c j;cases j with
     | zero=>simp
     | succ j=>
       cases c with
       | nil=>simp
       | cons y q=>simp[ih q j]
  rw[e,e,List.take_add_one,h1];rfl
 rw[Ct,Ct,hz,List.filter_append,VB];cases b<;>rfl
def Y2 (ms:List Int) (bs:List Bool):(Ct ms bs).length<=bs.length:=by
 rw[Ct,CW];refine Nat.le_trans (Xv _ _) ?_;rw[List.length_zip];exact Nat.min_le_right _ _
def KZ {E:List Bool->Bool}: ∀(k:Nat) (pre:List Bool),(Gt E k pre).length<=2 ^ k
 | 0,pre=>by
   rw[Gt];split<;>simp
 | k+1,pre=>by
   rw[Gt];have h1:=KZ (E:=E) k (pre++[false]);have h2:=KZ (E:=E) k (pre++[true]);split
   .rw[Ri,Nat.pow_succ];omega
   .simp
attribute [local irreducible] Av An Af AQ AL Ac AP AS AK Ab AN AO As A3 Sat AV A0 Ag W
abbrev TX (x:List Int×Int):List V:=[.l (iL x.1) false,eI x.2]
def od:E0 TX 2:=fun x=>⟨rfl,fun v hv=>by
 rcases Fg.1 hv with rfl|hv
 .rfl
 .rw[Lu.1 hv];rfl⟩
end Go.Gl
namespace Go.Gl
open Go.Proofs
abbrev Ja (ms:List Int) (s:Nat):List Int:=Ct ms (Ce s ms.length)
abbrev VP (p:Prog) (tog:List Fact->Bool) (ms:List Int):List Nat:=Ly (fun s n=>F8 tog (JT p ms) (Ce s n)) ms.length 0 0
def Yi {P:Program} {α S:Type} {L:Nat} {E:Env} {ps:List Nat} {a b:AT} {ea:α->V} {HB:S->List At->Prop} (le:S->rU) {stp:α->S->Bool×S} {D:α->S->Prop} {pre:List At} (hps:ps.length=1) (hD: ∀y s,D y s->le s= .ready)
    (h: ∀y s,D y s-> ∀l,HB s l-> ∀Z,Sat Z (l++pre)->W P a (CU (W P b fun ex env' Z'=>Z' L=none->QG L E (Bg P ps a b) (fun r Z'=>r= .ret (.b (stp y s).1)/\ ∃l',HB (stp y s).2 l'/\Sat Z' (.obj L (.loop (le (stp y s).2) E (Bg P ps a b))::(l'++pre))) ex env' Z')) (Eh ps [ea y] E) Z) :
    V0 P (.f (.yield L) [] []) ea (fun s l=> ∃l',l= .obj L (.loop (le s) E (Bg P ps a b))::l'/\HB s l') stp D pre:=by
 rintro y s hd _ Z ⟨l',rfl,hl'⟩ hs
 have hs':Sat Z (.obj L (.loop .ready E (Bg P ps a b))::(l'++pre)):=by
  have:=hs.perm PH;rw[hD y s hd]at this;exact this
 show Nd P L [ea y] Z _;refine Nd.mono (Ll (hs'.get (i:=0) rfl) (by rw[hps];rfl) (h y s hd l' hl' _ hs'.del)) ?_;rintro r Z' ⟨e,l2,h1,h2⟩;exact⟨e,_,⟨l2,rfl,h1⟩,h2.perm (PH (l₁:=_::l2))⟩
section
variable {g:FuncId} {fi ca:List V} {p:Prog} {gen:Int} {ms:List Int} {tog:List Fact->Bool}
abbrev fT (g:FuncId) (fi ca:List V) (p:Prog) (gen:Int) (ms:List Int):V:= .f (.func 144) [] [.rp [.f (.func g) fi ca],.rp (X0 p gen ms)]
attribute [local irreducible] Av An Af AQ AL Ac AP AS AK Ab AN AO As A3 Sat AV A0 Ag W
def Zx:Pure zP 90 [.a (X0 p gen ms),.f (.func g) fi ca] (fT g fi ca p gen ms):=by
 refine y9 kZ ?_;have hs:=Sn;exact zW
def tl {S:Type} (h:VR p ms) (hcan:Vc g fi ca (AI p) tog) {fn:Fn} {fiy cay:List V} {HL:S->List At->Prop} {stp:Nat->S->Bool×S} {D:Nat->S->Prop}
    (hy: ∀nS nW,V0 zP (.f fn fiy cay) eU HL stp D (mS g fi ca p gen ms (.f fn fiy cay) nS nW)) (z0:S) (hok:Rk stp D (VP p tog ms) z0) {l:List At} {Z:AE} (hl:HL z0 l) (hs:Sat Z l) :
    Av zP 144 [.f fn fiy cay,.rp [.f (.func g) fi ca],.rp (X0 p gen ms)] Z fun r Z'=>r= .ret (.t [])/\ ∃l',HL (CK stp (VP p tog ms) z0).2 l'/\Sat Z' l':=by
 refine wZ kZ ?_
 conv=>whnf
 repeat'((first|clear U K|apply st|(apply zk;intro K U)|refine zY ?_|refine zs fun Z hs=>?_|refine zo fun nn hnn Z hs=>?_|fail)<;>conv=>whnf)
 refine BH (Av.mono (mo h hcan (hy _ _) ms.length 0 0 z0 (by omega) (by decide) hok l Z hl hs) ?_);clear hs;rintro r Z ⟨rfl,l',hl',hs⟩
 conv=>whnf
 repeat'((first|clear U K|apply st|fail)<;>conv=>whnf)
 exact AH ⟨rfl,l',hl',hs.less (by simp)⟩
def oC (h8:ms.length<=8) {s:Nat} (hs64:s<18446744073709551616):Pure zP 52 [.a (X0 p gen ms),eU s] (.l (iL (Ja ms s)) false):=by
 have hM:=Mx;refine zK kZ ?_;have hs:=Sn;refine zz ?_;(repeat clear U K);repeat intro K U
 refine Cn ms.length (fun k v=>[(5,v),(11,eI (BR k))]) (fun k v=>[.own v 1 (iL (Ct ms ((Ce s ms.length).take k)))]) (fun _ _=>True) (.l [] true) rfl trivial (by simpa[Ct]using IU hs 1) ?_;clear hs;rintro k v Z hk - hs;have hal:=Y2 ms ((Ce s ms.length).take k);rw[Lv]at hal;rcases BK ms hk with⟨x,hx,hlt⟩|hke
 .have hck:BR k=k:=Ae (by omega)
  have hst:=Xa hx (XA (s:=s) hlt);have c1:=Zg s (BR k) hs64 (by omega) (by omega);rw[hck,HX,<-hck]at c1;generalize Ct ms ((Ce s ms.length).take k)=zl at *;have hll:zl.length<Ad/\(zl.length+1)*8<=140737488355328:=by omega
  cases hb:s.testBit k<;>rw[hb]at c1 hst
  .rw[if_neg (by decide),FE]at hst
   conv=>whnf
   repeat'((first|clear U K|apply st|(apply zk;intro K U)|refine zY ?_|refine zC ?_|fail)<;>conv=>whnf)
   exact⟨hlt,_,rfl,trivial,by rw[hst];exact hs⟩
  .rw[if_pos rfl]at hst
   conv=>whnf
   repeat'((first|clear U K|apply st|(apply zk;intro K U)|refine zY ?_|refine aq fun v Z hs hsl=>?_|refine zC ?_|fail)<;>conv=>whnf)
   exact⟨hlt,_,rfl,trivial,by rw[hst];exact hs⟩
 .rw[List.take_of_length_le (by rw[TJ];omega)]at hs
  refine zz ?_;(repeat clear U K);repeat intro K U
  exact Be (hs.Ha 0 rfl)
abbrev rb (f:Nat->List Int×Int) (y:Nat) (acc:List (List Int×Int)):Bool×List (List Int×Int):=(true,acc++[f y])
def iw (f:Nat->List Int×Int): ∀(l:List Nat) (acc:List (List Int×Int)),CK (rb f) l acc=(true,acc++l.map f)
 | [],acc=>by simp[CK]
 | y::r,acc=>by simp[CK,iw f r]
def qY (f:Nat->List Int×Int) {Q:Nat->Prop} {m:Nat}: ∀(l:List Nat) (acc:List (List Int×Int)),(∀y∈l,Q y)->acc.length+l.length<=m->Rk (rb f) (fun y acc=>Q y/\acc.length<m) l acc
 | [],_,_,_=>trivial
 | y::r,acc,h,hl=>⟨⟨h y (.head _),by rw[NM]at hl;omega⟩,fun _=>qY f r _ (fun z hz=>h z (.tail _ hz)) (by rw[Ri,List.length_singleton];rw[NM]at hl;omega)⟩
def k8 {tog:List Fact->Bool} (h8:ms.length<=8):(VP p tog ms).length<=256/\ ∀s∈VP p tog ms,s<2 ^ ms.length:=by
 obtain⟨h1,h2⟩:=T7 (so:=fun s n=>F8 tog (JT p ms) (Ce s n)) (E:=F8 tog (JT p ms)) ms.length 0 0 (by decide) (fun s n _=>rfl);rw[Gq]at h1 h2;refine⟨?_,h2⟩;have h3:=KZ (E:=F8 tog (JT p ms)) ms.length (Ce 0 0);have h4:=congrArg List.length h1;rw[CW]at h4;have h5:2 ^ ms.length<=2 ^ 8:=Nat.pow_le_pow_right (by omega) h8;exact h4 ▸ Nat.le_trans h3 h5
def o0 (h:VR p ms) (hcan:Vc g fi ca (AI p) tog) {stE:List Int->Int} (hst: ∀s∈VP p tog ms,Pure zP 51 [.a (X0 p gen ms),.l (iL (Ja ms s)) false] (eI (stE (Ja ms s)))) :
    Pure zP 33 [.a (X0 p gen ms),fT g fi ca p gen ms] (.l ((VP p tog ms).map fun s=>TX (Ja ms s,stE (Ja ms s))) false):=by
 have hM:=Mx;have hfew:=h.few;refine zT kZ ?_;have hs:=Sn
 conv=>whnf
 repeat'((first|clear U K|apply st|(apply zk;intro K U)|refine zo fun nn hnn Z hs=>?_|fail)<;>conv=>whnf)
 rename_i _ n5 hn5 _ _;obtain⟨hgl,hgm⟩:=k8 (p:=p) (tog:=tog) hfew;have hs2:Sat Z [_,.box n5 [.l [] true],.own (.l [] true) 2 (([]:List (List Int×Int)).map TX)]:=IU hs 2;refine Av.mono (tl h hcan (hs:=hs2) (stp:=rb fun y=>(Ja ms y,stE (Ja ms y))) (D:=fun y acc=>y∈VP p tog ms/\acc.length<256) (fun nS nW=>Yi (HB:=fun(acc:List (List Int×Int)) l=> ∃v,l= [.box n5 [v],.own v 2 (acc.map TX)]) (fun _=> .ready) rfl (fun _ _ _=>rfl) ?_) [] (qY _ _ _ (fun _ h=>h) (by simpa using hgl)) ⟨_,rfl,_,rfl⟩) ?_
 .clear hs hs2 hnn hn5
  rintro y acc ⟨hy,hacc⟩ _ ⟨v,rfl⟩ Z hs;have hy64:y<18446744073709551616:=Nat.lt_of_lt_of_le (hgm y hy) (Nat.le_trans (Nat.pow_le_pow_right (by omega) hfew) (by decide));have hl1:=oC (p:=p) (gen:=gen) hfew hy64;have hst:=hst y hy;have hll:acc.length<Ad/\(acc.length+1)*32<=140737488355328:=by omega
  conv=>whnf
  repeat'((first|clear U K|apply st|(apply zk;intro K U)|refine zY ?_|refine rk ?_ ?_|exact fun s e=>by cases e;rfl|refine zs fun Z hs=>?_|refine hl1.use ?_|refine hst.use ?_|refine aq (enc:=TX) (x:=(Ja ms y,stE (Ja ms y))) (fun v Z hs hsl=>?_) (hg:=od)|fail)<;>conv=>whnf)
  intro hn;exact⟨rfl,_,⟨_,rfl⟩,hs.mf hn⟩
 .clear hs hs2 hnn hn5
  rw[iw];rintro r Z ⟨rfl,_,⟨_,rfl,v,rfl⟩,hs⟩;simp only[List.nil_append,xp]at hs;refine Mf hs fun Z hs=>?_
  refine zz ?_;(repeat clear U K);repeat intro K U
  exact Be (hs.Ha 1 rfl)
end
end Go.Gl
namespace Go.Gl
open Go.Proofs
attribute [local irreducible] Av An Af AQ AL Ac AP AS AK Ab AN AO As A3 Sat AV A0 Ag W
abbrev uL (us:List Nat):List (List V):=us.map fun u=>[eU u]
abbrev gB (w:AG) (v:V):List V:=[.l (Es w.parents) false,.l (iL w.owner) false,v]
def iJ:E0 (fun u:Nat=>[eU u]) 1:=fun x=>⟨rfl,fun v hv=>by rw[Lu.1 hv];rfl⟩
def nP (w : AG) (hw:Cq w):Pure zP 143 [.a (BL w)] (.rp (gW w (BX w.parents))):=by
 obtain⟨⟨hl,hrow⟩,ho,how⟩:=hw;have hM:=Mx;refine wa kZ ?_;have hs:=Sn;have hi1:((Es w.parents).length:Int)<=60:=by rw[CW];omega
 conv=>whnf
 repeat'((first|clear U K|apply st|(apply zk;intro K U)|refine zY ?_|refine zo fun nn hnn Z hs=>?_|fail)<;>conv=>whnf)
 generalize nn=n0 at *;refine Cn 3 (fun k (_:V)=>[(13,eI (BR k))]) (fun k v=>[.box n0 (gB w v),.own v 1 (uL ([1,3,5].take k))]) (fun k _=>True) (.l [] true) rfl trivial (IU hs 1) ?_;clear hs;rintro k v Z hk - hs;have hck:BR k=k:=Ae (by omega);have hlen:(([1,3,5]:List Nat).take k).length=k:=by simp;omega
 by_cases hlt:k<3
 .have hst:=up3 hlt
  generalize ([1,3,5]:List Nat).take k=zl at *;have hll:zl.length<Ad/\(zl.length+1)*8<=140737488355328:=by omega
  conv=>whnf
  repeat'((first|clear U K|apply st|(apply zk;intro K U)|refine zY ?_|refine rk ?_ ?_|exact fun s e=>by cases e;rfl|refine zs fun Z hs=>?_|refine Pure.use (Nf 1 _ (by decide) (by omega) (by omega)) ?_|refine aq (enc:=fun u:Nat=>[eU u]) (x:=1|||2 ^ (BR k).toNat) (fun v Z hs hsl=>?_) (hg:=iJ)|(refine zb (fun hc=>?_) (fun hc=>?_)<;>try exact⟨⟩)|fail)<;>conv=>whnf)
  rw[hck,HX,hst]at hs;exact⟨hlt,_,rfl,trivial,hs⟩
 .have hke:k=3:=by omega
  subst hke;clear hk hck hlen hlt
  conv=>whnf
  repeat'((first|clear U K|apply st|(apply zk;intro K U)|refine zY ?_|(refine zb (fun hc=>?_) (fun hc=>?_)<;>try exact⟨⟩)|fail)<;>conv=>whnf)
  refine Cn w.parents.length (fun k (_:V)=>[(31,eI (BR k))]) (fun k v=>[.box n0 (gB w v),.own v 1 (uL (Bm w.parents k))]) (fun k _=>True) v rfl trivial hs ?_;clear hs;rintro k v Z hk - hs;have hck:BR k=k:=Ae (by omega);have hul:=Db w.parents k;have huo:=Gb w.parents k (by omega);have hw3:IntKind.i64.wrap (3+(k:Int))=3+(k:Int):=wrap64 (by omega) (by omega);rcases BK w.parents hk with⟨row,hr,hlt⟩|hke
  .obtain⟨r1,r2,r3⟩:=hrow k row hr
   rw[<-hck]at hw3
   conv=>whnf
   repeat'((first|clear U K|apply st|(apply zk;intro K U)|refine zY ?_|refine Pure.use (Nf 1 _ (by decide) (by omega) (by omega)) ?_|fail)<;>conv=>whnf)
   have hst0:IntKind.i64.wrap (3+BR k)=3+(k:Int):=by rw[hck];exact wrap64 (by omega) (by omega)
   have hs0lt:1|||2 ^ (3+k)<18446744073709551616:=Hr (by decide) (GW (by omega))
   have hs0e:1|||2 ^ (IntKind.i64.wrap (3+BR k)).toNat=1|||2 ^ (3+k):=by rw[hst0,show(3+(k:Int)).toNat=3+k by omega]
   rw[hs0e];refine Cn row.length (fun j (s:Nat)=>[(41,eI (BR j)),(7,eU s)]) (fun _ _=>[.box n0 (gB w v),.own v 1 (uL (Bm w.parents k))]) (fun j s=>s=TZ (Bm w.parents k) (row.take j) (1|||2 ^ (3+k))) (1|||2 ^ (3+k)) rfl rfl hs ?_;clear hs;rintro j s Z hj hse hs;rcases BK row hj with⟨c,hcj,hjlt⟩|hje
   .obtain⟨q1,q2⟩:=r3 c (Cm hcj)
    conv=>whnf
    repeat'((first|clear U K|apply st|(apply zk;intro K U)|refine zY ?_|refine ze fun x hx=>?_|fail)<;>conv=>whnf)
    rename_i x hx;have hxd:(Bm w.parents k).getD c.toNat 0=x:=by rw[DK,hx];rfl
    have hsl:s<18446744073709551616:=by rw[hse];exact PK huo _ _ hs0lt
    refine⟨hjlt,s|||x,?_,?_,hs⟩
    .rw[G7 hsl (huo x (Cm hx))]
     rfl
    .rw[hse,AU hcj]
     simp only[TZ,List.foldl_append];rw[<-hxd];rfl
   .have e:Bm w.parents (k+1)=Bm w.parents k++[s]:=by
     rw[hse,Bm,DK,hr,hje,List.take_length];rfl
    generalize Bm w.parents k=zl at *;have hll:zl.length<Ad/\(zl.length+1)*8<=140737488355328:=by omega
    conv=>whnf
    repeat'((first|clear U K|apply st|(apply zk;intro K U)|refine zY ?_|refine zs fun Z hs=>?_|refine aq (enc:=fun u:Nat=>[eU u]) (x:=s) (fun v Z hs hsl=>?_) (hg:=iJ)|fail)<;>conv=>whnf)
    rw[<-e]at hs;exact⟨hlt,_,rfl,trivial,hs⟩
  .rw[hke]at hs
   refine zz ?_;(repeat clear U K);repeat intro K U
   exact Be (hs.mY 0 rfl (.cons (.refl _) (.cons (.refl _) (.cons (hs.Ha 1 rfl) .nil))))
end Go.Gl
namespace Go.Gl
open Go.Proofs
def yX {p:Prog} {gen:Int} {togX togR:List Fact->Bool} {OK:(Int->F3)->Prop} (hX: ∀l,(∀x∈l,Dq (AI p) x)->(togX l=true↔ ∃M,OK M/\ ∀x∈l,Fh (AI p) M x))
    (hR: ∀l,(∀x∈l,Dq (AI p) x)->(togR l=true↔ ∃M,OK M/\ ∀x∈l,Fh (AI p) M x)) (hn: ∀f∈Ga p gen,A6 (AI p) f=true) :
    ((VP p togX (F0 p gen)).map fun s=>TX (Ja (F0 p gen) s,eg p (Ja (F0 p gen) s)))=(DS p gen togR).map TX:=by
 have hE: ∀l,F8 togX (JT p (F0 p gen)) l=O9 togR (Ga p gen) l:=fun l=>by
  rw[Hb];exact(eK hX hn l).trans (Gd hR hn l).symm
 obtain⟨h1,-⟩:=T7 (so:=fun s n=>F8 togX (JT p (F0 p gen)) (Ce s n)) (E:=F8 togX (JT p (F0 p gen))) (F0 p gen).length 0 0 (by decide) (fun s n _=>rfl);rw[Gq,Is hE]at h1;rw[DS,show([]:List Bool)=Ce 0 0 from rfl,<-h1,xp,xp];rfl
def ML {p:Prog} {gen:Int} (h:Fi p gen=true) (h8:(F0 p gen).length<=8):VR p (F0 p gen):=by
 rw[Fi,A4]at h;refine⟨look_ok h.1,fun m hm=>?_,h8⟩;have:=Ug p gen m;rw[List.contains_iff_mem.2 hm]at this;exact(Bool.and_eq_true_iff.1 this.symm).1
def Q9 (ms:List Int) (bs:List Bool):(Ct ms bs).Sublist ms:=by
 rw[Ct]
 induction ms generalizing bs with
 | nil=>simp
 | cons m r ih=>
   cases bs with
   | nil=>simp
   | cons b q=>
     cases b
     .simpa using(ih q).cons m
     .simpa using ih q
def iK (p:Prog) (gen:Int):(F0 p gen).Pairwise (· < ·):=by
 rw[F0,fI];exact List.Pairwise.filter _ (K3 _)
def nB {p:Prog} {gen:Int} {l:List Int} (h:l.Sublist (F0 p gen)):Rt p gen l=true:=by
 have hp:=(iK p gen).sublist h;refine nA fun i hi=>?_
 have hm:=Ug p gen l[i];rw[List.contains_iff_mem.2 (h.subset (List.getElem_mem hi))]at hm;have hm:=Bool.and_eq_true_iff.1 hm.symm;rw[fS];have e1:l.getD i 0=l[i]:=by rw[DK,Dp hi];rfl
 rw[e1,hm.1,hm.2,Du,Du,Bool.not_eq_true',Bool.and_eq_false_iff,decide_eq_false_iff_not,decide_eq_false_iff_not];by_cases h0:0<i
 .right
  have e2:l.getD (i - 1) 0=l[i - 1]'(by omega):=by rw[DK,Dp (by omega)];rfl
  rw[e2];have:=List.pairwise_iff_getElem.1 hp (i - 1) i (by omega) hi (by omega);omega
 .exact .inl h0
attribute [local irreducible] Av An Af AQ AL Ac AP AS AK Ab AN AO As A3 Sat AV A0 Ag W
def V2 {p:Prog} {gen:Int} {ms:List Int} (h:(BN p).isSome=true):Pure zP 89 [.a (X0 p gen ms)] (.rp (gW (AI p) (BX (AI p).parents))):=by
 have c1:=bU p;rw[if_pos h]at c1;have c2:=nP (AI p) (Zi h);refine zA kZ ?_;have hs:=Sn;exact zW
def jz {p:Prog} {gen:Int} {ms:List Int} (h:(BN p).isSome=true):Pure zP 34 [.a (X0 p gen ms)] (fT 91 [] [.rp [.rp (gW (AI p) (BX (AI p).parents))]] p gen ms):=by
 have c1:=V2 (gen:=gen) (ms:=ms) h;refine zS kZ ?_;have hs:=Sn
 conv=>whnf
 repeat'((first|clear U K|apply st|(apply zk;intro K U)|refine zY ?_|refine zs fun Z hs=>?_|refine c1.use ?_|refine Zx.use ?_|refine zo fun nn hnn Z hs=>?_|fail)<;>conv=>whnf)
 exact Be (.f .nil (.cons (.rp (.cons (.f .nil (.cons (hs.mY 0 rfl (.refl _ _ _)) .nil)) .nil)) (.cons (.refl _) .nil)))
def sS {p:Prog} {gen:Int} {ms:List Int} (h:(BN p).isSome=true) (cs:List Int) (f:Bool):Pure zP 35 [.a (X0 p gen ms),.l (iL cs) f] (fT 95 [] [.rp [.rp (gW (AI p) (BX (AI p).parents))],.rp [.l (iL cs) f]] p gen ms):=by
 have c1:=V2 (gen:=gen) (ms:=ms) h;refine zR kZ ?_;have hs:=Sn
 conv=>whnf
 repeat'((first|clear U K|apply st|(apply zk;intro K U)|refine zY ?_|refine zs fun Z hs=>?_|refine c1.use ?_|refine Zx.use ?_|refine zo fun nn hnn Z hs=>?_|fail)<;>conv=>whnf)
 exact Be (.f .nil (.cons (.rp (.cons (.f .nil (.cons (hs.mY 0 rfl (.refl _ _ _)) (.cons (.refl _) .nil))) .nil)) (.cons (.refl _) .nil)))
def gR (v:List V):Pure zP 32 [.a v] (.b true):=by
 refine zU kZ ?_;have hs:=Sn;exact zW
abbrev Tp (p:Prog) (gen:Int) (tog:List Fact->Bool):V:= .t [if Nb p gen true=0 then .l ((DS p gen tog).map TX) false else .l [] true,eI (Nb p gen true)]
def Kb {p:Prog} {gen:Int} (h:VR p (F0 p gen)): ∀f∈Ga p gen,A6 (AI p) f=true:=fun f hf=>by
 obtain⟨m,hm,rfl⟩:=Hc.1 hf;have:=Cu (h.I4 m hm);exact(h.ok.facts _ (Cm this)).1
def aj {p:Prog} {gen:Int} {g:FuncId} {fi ca:List V} {togX togR:List Fact->Bool} {OK:(Int->F3)->Prop} (hX: ∀l,(∀x∈l,Dq (AI p) x)->(togX l=true↔ ∃M,OK M/\ ∀x∈l,Fh (AI p) M x))
    (hR: ∀l,(∀x∈l,Dq (AI p) x)->(togR l=true↔ ∃M,OK M/\ ∀x∈l,Fh (AI p) M x)) (h1:Fi p gen=true) (h8:(F0 p gen).length<=8) (hcan:Vc g fi ca (AI p) togX) :
    Pure zP 33 [.a (rS p gen),fT g fi ca p gen (F0 p gen)] (.l ((DS p gen togR).map TX) false):=by
 have hfn:=ML h1 h8;have:=o0 (gen:=gen) hfn hcan (stE:=eg p) (fun s _=>sQ p gen _ false h1 (nB (Q9 _ _)));rw[yX hX hR (Kb hfn)]at this;exact this
def jQ (p:Prog) (gen:Int):Pure zP 7 [.a (BT p),eI gen] (Tp p gen (EG (AI p))):=by
 have c1:=ir p gen 32 [] true (fun _=>gR _);cases h1:Fi p gen
 .rw[(L9 h1 true).1,(L9 h1 true).2]at c1
  rw[Tp,(L9 h1 true).2];refine sF kZ ?_;have hs:=Sn;exact zW
 rw[(K2 h1).1,(K2 h1).2]at c1;rw[Tp,(K2 h1).2];by_cases h8:(F0 p gen).length<=8
 .have hl:=h1
  rw[Fi,A4]at hl;have hw:=(look_ok hl.1).l5;have c2:=jz (gen:=gen) (ms:=F0 p gen) hl.1;have c3:=aj (fun l hl=>jb hw fun x hx=>G5 (hl x hx)) (Ze hw) h1 h8 (c8 _ (Zi hl.1));rw[if_pos h8]at c1 ⊢;rw[if_pos rfl];refine sF kZ ?_;have hs:=Sn
  conv=>whnf
  repeat'((first|clear U K|apply st|(apply zk;intro K U)|refine zY ?_|refine rk ?_ ?_|exact fun s e=>by cases e;rfl|refine zs fun Z hs=>?_|refine zC ?_|(refine zb (fun hc=>?_) (fun hc=>?_)<;>try exact⟨⟩)|refine zo fun nn hnn Z hs=>?_|fail)<;>conv=>whnf)
  all_goals exact AJ rfl
 .rw[if_neg h8]at c1 ⊢
  rw[if_neg (by decide)];refine sF kZ ?_;have hs:=Sn;exact zW
def XJ (p:Prog) (gen:Int):Pure zP 8 [.a (BT p),eI gen] (Tp p gen (JQ (AI p) [])):=by
 have c1:=ir p gen 32 [] true (fun _=>gR _);cases h1:Fi p gen
 .rw[(L9 h1 true).1,(L9 h1 true).2]at c1
  rw[Tp,(L9 h1 true).2];refine sE kZ ?_;have hs:=Sn;exact zW
 rw[(K2 h1).1,(K2 h1).2]at c1;rw[Tp,(K2 h1).2];by_cases h8:(F0 p gen).length<=8
 .have hl:=h1
  rw[Fi,A4]at hl;have hw:=(look_ok hl.1).l5;have c2:=sS (gen:=gen) (ms:=F0 p gen) hl.1 [] true;have c3:=aj (fun l hl=>WH hw fun x hx=>G5 (hl x hx)) (Zf hw PT) h1 h8 (m6 _ (Zi hl.1) [] true (by decide));rw[if_pos h8]at c1 ⊢;rw[if_pos rfl];refine sE kZ ?_;have hs:=Sn
  conv=>whnf
  repeat'((first|clear U K|apply st|(apply zk;intro K U)|refine zY ?_|refine rk ?_ ?_|exact fun s e=>by cases e;rfl|refine zs fun Z hs=>?_|refine zC ?_|(refine zb (fun hc=>?_) (fun hc=>?_)<;>try exact⟨⟩)|refine zo fun nn hnn Z hs=>?_|fail)<;>conv=>whnf)
  all_goals exact AJ rfl
 .rw[if_neg h8]at c1 ⊢
  rw[if_neg (by decide)];refine sE kZ ?_;have hs:=Sn;exact zW
end Go.Gl
namespace Go.Gl
open Go.Proofs
attribute [local irreducible] Av An Af AQ AL Ac AP AS AK Ab AN AO As A3 Sat AV A0 Ag W
def Tf (xs:List (List Int×Int)) (l:List Int):Bool:=xs.any fun x=>x.1==l
def tr (s0:List Int->Int) (xs:List (List Int×Int)) (hxs: ∀x∈xs,x.2=s0 x.1) (hxl:xs.length<=256) (f:Bool) (l:List Int) (g:Bool) :
    Pure zP 10 [.l (xs.map TX) f,.l (iL l) g] (.t [.a (if Tf xs l then TX (l,s0 l)else [.l [] true,eI 0]),.b (Tf xs l)]):=by
 have hM:=Mx;refine Pure.of ?_;refine zm kZ ?_;have hs:=Sn
 conv=>whnf
 repeat'((first|clear U K|apply st|(apply zk;intro K U)|refine zo fun nn hnn Z hs=>?_|fail)<;>conv=>whnf)
 generalize nn=n4 at *;refine Cn xs.length (fun k (_:Unit)=>[(10,eI (BR k))]) (fun _ _=>[.box n4 [.l [] true,eI 0]]) (fun k _=>Tf xs l=Tf (xs.drop k) l) () rfl rfl hs ?_;clear hs;rintro k - Z hk hR hs;have hck:BR k=k:=Ae (by omega);rcases BK xs hk with⟨x,hx,hlt⟩|hke
 .rw [drop_cons hx,Tf,Tf,Rj,<-Tf,<-Tf]at hR
  have c1:=UP x.1 l false g;have hx2:=hxs x (Cm hx);cases hq:(x.1==l)<;>rw[hq]at c1 hR
  .rw[Bool.false_or]at hR
   conv=>whnf
   repeat'((first|clear U K|apply st|(apply zk;intro K U)|refine zY ?_|refine zs fun Z hs=>?_|refine zC ?_|refine zo fun nn hnn Z hs=>?_|fail)<;>conv=>whnf)
   exact⟨hlt,(),rfl,hR,hs.less (by simp)⟩
  .rw[Bool.true_or]at hR
   have e:x=(l,s0 l):=by
    have:=C1.1 hq;rw[<-this,<-hx2]
   subst e
   conv=>whnf
   repeat'((first|clear U K|apply st|(apply zk;intro K U)|refine zY ?_|refine zs fun Z hs=>?_|refine zC ?_|refine zo fun nn hnn Z hs=>?_|fail)<;>conv=>whnf)
   exact AH (by rw[hR];rfl)
 .rw[Au hke]at hR
  conv=>whnf
  repeat'((first|clear U K|apply st|(apply zk;intro K U)|refine zY ?_|refine zs fun Z hs=>?_|fail)<;>conv=>whnf)
  all_goals exact AH (by rw[hR];rfl)
def sT (x:List Int×Int):Pure zP 49 [.a (TX x),.a (TX x)] (.b true):=by
 have c1:=UP x.1 x.1 false false;rw[beq_self_eq_true]at c1;refine zL kZ ?_;have hs:=Sn
 conv=>whnf
 repeat'((first|clear U K|apply st|(apply zk;intro K U)|refine zY ?_|refine zC ?_|(refine zb (fun hc=>?_) (fun hc=>?_)<;>try exact⟨⟩)|fail)<;>conv=>whnf)
 all_goals first
  | exact AJ rfl
  | (exfalso;simp at hc;done)
def pB (xs:List (List Int×Int)) (hxl:xs.length<=256) (f g:Bool):Pure zP 48 [.l (xs.map TX) f,.l (xs.map TX) g,.f (.func 49) [] []] (.b true):=by
 have hM:=Mx;refine Pure.of ?_;refine zM kZ ?_;have hs:=Sn
 conv=>whnf
 repeat'((first|clear U K|apply st|(apply zk;intro K U)|refine zY ?_|(refine zb (fun hc=>?_) (fun hc=>?_)<;>try exact⟨⟩)|fail)<;>conv=>whnf)
 all_goals try(exfalso;simp at hc;done)
 refine Cn xs.length (fun k (_:Unit)=>[(17,eI (BR k))]) (fun _ _=>[]) (fun _ _=>True) () rfl trivial hs ?_;clear hs;rintro k - Z hk - hs;have hck:BR k=k:=Ae (by omega);rcases BK xs hk with⟨x,hx,hlt⟩|hke
 .have c1:=sT x
  have hx2:xs[(BR k).toNat]? =some x:=by rw[hck,HX];exact hx
  conv=>whnf
  repeat'((first|clear U K|apply st|(apply zk;intro K U)|refine zY ?_|refine zs fun Z hs=>?_|refine BH (c1.use ?_)|refine zo fun nn hnn Z hs=>?_|fail)<;>conv=>whnf)
  all_goals first
   | exact⟨hlt,(),rfl,trivial,hs.less (NQ _)⟩
   | (exfalso;omega)
 .refine zz ?_;(repeat clear U K);repeat intro K U
  all_goals exact AH (by rfl)
def pC (xs:List (List Int×Int)) (hxl:xs.length<=256) (f g:Bool):Pure zP 14 [.l (xs.map TX) f,.l (xs.map TX) g] (.b true):=by
 have c1:=pB xs hxl f g;refine zZ kZ ?_;have hs:=Sn;exact zW
end Go.Gl
