import Derived.Test.YtcfkfhaedllcpaaGreatV13
import Derived.Test.YtcfkfhaedllcpaaGreatV14
import Derived.Test.YtcfkfhaedllcpaaGreatV15
set_option linter.all false
set_option linter.defProp false
set_option maxHeartbeats 8000000
noncomputable section
namespace Go.Gl
open Go.Proofs
attribute [local irreducible] A6 Ar Ah AR AI Ae AQ AT AK Ad AN AO Ay A7 Sat AY A5 Ai W
def VQ {w:AH} (h:Eu (.a (A1 w))):w.parents.length<=AX/\(∀l∈w.parents,l.length<=AX)/\w.owner.length<=AX:=by
 simp only[A1,GV,C9,Ex,Jf,BL]at h;exact⟨h.1.1,fun l hl=>(h.1.2 l hl).1.1,h.2.1.1⟩
def Lo {xs:List Int} {g:Bool} (h:Eu (.l (iL xs) g)):xs.length<=AX:=by
 simp only[Ex,BL]at h;exact h.1
def KZ {f:Fact} (h:Eu (.a (xF f))):f.kids.length<=AX/\f.path.length<=AX/\ ∀k∈f.kids,Eu (.a (xF k)):=by
 simp only[GV,C9,Ex,Jf,BL]at h;exact⟨h.2.2.2.2.2.1.1,h.2.2.1.1,fun k hk=>by have:=h.2.2.2.2.2.1.2 k hk;rw[BX]at this;exact this⟩
def RY (w:AH) (c:Int):Bool:=decide (0<=c)&&decide (c<3+w.parents.length)
def kL (w:AH) (c:Int):Pure zP 254 [.a (A1 w),eI c] (.b (RY w c)):=by
 refine Pure.fit (by kernel_rfl) fun hf=>?_
 have⟨h1,h2,h3⟩:=VQ hf.1;have hM:=Mx;refine uu kZ ?_
 conv=>whnf
 repeat'((first|clear U K|apply st|(apply zk;intro K U)|refine zn ?_|refine za (fun hc=>?_) fun hc=>?_|fail)<;>conv=>whnf)
 .exact AF (by rw[BL,wrap64 (by omega) (by omega)];simp[RY,hc])
 .exact AF (by simp[RY,hc];intros;omega)
def Im (w:AH) (s:Int):Bool:=decide (0<=s)&&decide (s<w.owner.length)
def FE (w:AH) (p:List Int):Bool:=p.all (Im w)&&decide (p.length<=2)
def ma (w:AH) (p:List Int) (g:Bool):Pure zP 255 [.a (A1 w),.l (iL p) g] (.b (FE w p)):=by
 refine Pure.fit (by kernel_rfl) fun hf=>?_
 have⟨h1,h2,h3⟩:=VQ hf.1;have h4:=Lo hf.2.1;have hM:=Mx;refine ur kZ ?_;refine zu ?_;(repeat clear U K);repeat intro K U
 refine By p.length (fun k (_:Unit)=>[(9,eI (A9 k))]) (fun _ _=>[]) (fun k _=>p.all (Im w)=(p.drop k).all (Im w)) () rfl rfl Sat.nil ?_;rintro k - Z hk hn hs
 conv=>whnf
 repeat'((first|clear U K|apply st|(apply zk;intro K U)|refine zn ?_|(refine fc (fun x hx hlt hc=>?_) (fun hk hc=>?_)<;>(try rw[hc])<;>clear hc)|(refine zd (fun hc=>?_) (fun hc=>?_)<;>try exact⟨⟩)|fail)<;>conv=>whnf)
 .exact AF (by rw[FE,hn,drop_cons hx];simp[Im,hc];intros;omega)
 .exact⟨hlt,(),rfl,by rw[hn,drop_cons hx];simp[Im, *],hs⟩
 .exact AF (by rw[FE,hn,drop_cons hx];simp[Im,hc];intros;omega)
 .exact AF (by rw[FE,hn,Al hk];simp;omega)
def B8 (f:Fact):Bool:=f.op==2||f.op==3||f.op==4
def Z3 (f:Fact):Pure zP 186 [.a (xF f)] (.b (B8 f)):=by
 refine ve kZ ?_
 conv=>whnf
 repeat'((first|clear U K|apply st|(apply zk;intro K U)|refine zn ?_|refine za (fun hc=>?_) fun hc=>?_|fail)<;>conv=>whnf)
 all_goals exact AF (by simp[B8, *])
def DW:List (Int->Int)->Int->Int->Int
 | [],n,_=>n
 | k::r,n,most=>if n<=most then DW r (n+k (most - n)) most else n
def CQ (f:Fact):Int->Int:=f.H7 fun _ l most=>DW l 1 most
def J8 (f:Fact) (most:Int):CQ f most=DW (f.kids.map CQ) 1 most:=by
 rw[CQ,Fact.Dy];rfl
def Qa {most:Int}: ∀(l:List (Int->Int)) (n:Int),(∀g∈l,∀m,0<=m->1<=g m/\g m<=m+1)->1<=n->n<=most+1->1<=DW l n most/\DW l n most<=most+1
 | [],n,_,h1,h2=>⟨h1,h2⟩
 | g ::r,n,h,h1,h2=>by
   rw[DW];split
   .have:=h g (List.mem_cons_self ..) (most - n) (by omega)
    exact Qa r _ (fun g hg=>h g (List.mem_cons_of_mem _ hg)) (by omega) (by omega)
   .exact⟨h1,h2⟩
def LL (f:Fact): ∀m,0<=m->1<=CQ f m/\CQ f m<=m+1:=by
 induction f using Fact.ind with
 | h f ih=>
   intro m hm;rw[J8];refine Qa _ _ (fun g hg=>?_) (by omega) (by omega);obtain⟨k,hk,rfl⟩:=Mt.1 hg;exact ih k hk
def jO (f:Fact): ∀most:Int,0<=most->most<=1000->Pure zP 253 [.a (xF f),eI most] (eI (CQ f most)):=by
 induction f using Fact.ind with
 | h f ih=>
   intro most h0 h1;refine Pure.fit (by kernel_rfl) fun hf=>?_
   have⟨h2,h3,h4⟩:=KZ hf.1;have hM:=Mx;refine uv kZ ?_;refine zu ?_;(repeat clear U K);repeat intro K U
   refine By f.kids.length (fun k (n:Int)=>[(5,eI n),(6,eI (A9 k))]) (fun _ _=>[]) (fun k n=>1<=n/\n<=most+1/\CQ f most=DW ((f.kids.drop k).map CQ) n most) 1 rfl ⟨by omega,by omega,by rw[List.drop_zero];exact J8 f most⟩ Sat.nil ?_;rintro k n Z hk ⟨hn1,hn2,hn⟩ hs
   conv=>whnf
   repeat'((first|clear U K|apply st|(apply zk;intro K U)|refine zn ?_|(refine fc (fun x hx hlt hc=>?_) (fun hk hc=>?_)<;>(try rw[hc])<;>clear hc)|refine za (fun hc=>?_) fun hc=>?_|fail)<;>conv=>whnf)
   .rw[wrap64 (by omega) (by omega)]
    have hb:=LL x (most - n) (by omega);refine(ih x (Bz hx) (most - n) (by omega) (by omega)).use ?_;refine zu ?_;(repeat clear U K);repeat intro K U
    rw[wrap64 (by omega) (by omega)];exact⟨hlt,_,rfl,⟨by omega,by omega,by rw[hn,drop_cons hx,E8,DW,if_pos hc]⟩,hs⟩
   .exact AF (by rw[hn,drop_cons hx,E8,DW,if_neg (by omega)])
   .exact AF (by rw[hn,Al hk];rfl)
def jP (f:Fact):Pure zP 183 [.a (xF f)] (eI (CQ f 24)):=by
 refine vo kZ ?_;refine zu ?_;(repeat clear U K);repeat intro K U
 refine(jO f 24 (by omega) (by omega)).use ?_;exact zW
def Mv (f:Fact):Nat:=f.H7 fun _ l=>1+l.sum
def K1 (f:Fact):Mv f=1+(f.kids.map Mv).sum:=Fact.Dy _ f
def aY {f k:Fact} (h:k∈f.kids):Mv k<Mv f:=by
 have: ∀l:List Fact,k∈l->Mv k<=(l.map Mv).sum:=fun l=>by
  induction l with
  | nil=>intro h;cases h
  | cons x r ih=>
    intro h;simp only[E8,List.sum_cons];rcases GK.1 h with rfl|h
    .omega
    .have:=ih h;omega
 have:=this _ h;rw[K1 f];omega
def QZ {most:Int}: ∀(l:List Fact) (n:Int),(∀k∈l,∀m,0<=m->CQ k m<=m->CQ k m=Mv k)->0<=n->DW (l.map CQ) n most<=most->DW (l.map CQ) n most=n+(l.map Mv).sum
 | [],n,_,_,_=>by simp[DW]
 | k :: r, n,h,h0,h1=>by
   simp only[E8,DW]at *;split at h1
   .rename_i hc
    rw[if_pos hc];have hb:=LL k (most - n) (by omega)
    have hge: ∀(l:List Fact) (a:Int),a<=DW (l.map CQ) a most:=fun l=>by
     induction l with
     | nil=>intro a;exact Int.le_refl _
     | cons y l ih=>
       intro a;simp only[E8,DW];split
       .have:=LL y (most - a) (by omega)
        have:=ih (a+CQ y (most - a));omega
       .exact Int.le_refl _
    have h2:=hge r (n+CQ k (most - n));have h3:=h k (List.mem_cons_self ..) (most - n) (by omega) (by omega);have h4:=QZ r (n+CQ k (most - n)) (fun k' hk'=>h k' (List.mem_cons_of_mem _ hk')) (by omega) h1;simp only[List.sum_cons];omega
   .rename_i hc
    omega
def LK (f:Fact): ∀m,0<=m->CQ f m<=m->CQ f m=Mv f:=by
 induction f using Fact.ind with
 | h f ih=>
   intro m h0 h1;rw[J8]at *;rw[QZ f.kids 1 ih (by omega) h1,K1];omega
def KH (a b:Int):Int:=if a<b then b else a
def D8 (f:Fact):Int:=f.H7 fun _ l=>l.foldl KH 0+1
def Hz (f:Fact):D8 f=(f.kids.map D8).foldl KH 0+1:=Fact.Dy _ f
def Kg {m:Int}: ∀(l:List Int) (a:Int),(∀x∈l,x<=m)->a<=m->l.foldl KH a<=m
 | [],_,_,h=>h
 | x::r,a,h,h'=>by
   refine Kg r _ (fun y hy=>h y (List.mem_cons_of_mem _ hy)) ?_;have:=h x (List.mem_cons_self ..);unfold KH;split<;>omega
def Ke: ∀(l:List Int) (a:Int),a<=l.foldl KH a
 | [],_=>Int.le_refl _
 | x::r,a=>by
   refine Int.le_trans ?_ (Ke r _);unfold KH;split<;>omega
def Yw (f:Fact):1<=D8 f/\D8 f<=Mv f:=by
 induction f using Fact.ind with
 | h f ih=>
   rw[Hz];have h1:=Ke (f.kids.map D8) 0
   have h2:(f.kids.map D8).foldl KH 0<=(Mv f:Int) - 1:=by
    refine Kg _ _ (fun x hx=>?_) (by have:=K1 f;omega);obtain⟨k,hk,rfl⟩:=Mt.1 hx;have:=(ih k hk).2;have:=aY hk;omega
   omega
def Ga {α:Type} {xs:List α} {k:Nat} {x:α} {β:Type} (g:α->β) (h:β->β->β) (a:β) (hx:xs[k]? =some x):((xs.take (k+1)).map g).foldl h a=h (((xs.take k).map g).foldl h a) (g x):=by
 rw[AL hx,Uw,List.foldl_append];rfl
def kF (f:Fact):Mv f<=AX->Pure zP 184 [.a (xF f)] (eI (D8 f)):=by
 induction f using Fact.ind with
 | h f ih=>
   intro hc;refine Pure.fit (by kernel_rfl) fun hf=>?_
   have⟨h2,h3,h4⟩:=KZ hf.1;have hM:=Mx;refine vj kZ ?_;refine zu ?_;(repeat clear U K);repeat intro K U
   refine By f.kids.length (fun k (_:Unit)=>[(3,eI (((f.kids.take k).map D8).foldl KH 0)),(9,eI (A9 k))]) (fun _ _=>[]) (fun _ _=>True) () rfl trivial Sat.nil ?_;rintro k - Z hk - hs
   conv=>whnf
   repeat'((first|clear U K|apply st|(apply zk;intro K U)|refine zn ?_|refine zr fun Z hs=>?_|(refine fc (fun x hx hlt hc=>?_) (fun hk hc=>?_)<;>(try rw[hc])<;>clear hc)|refine zp fun nn hnn Z hs=>?_|fail)<;>conv=>whnf)
   .refine(ih x (Bz hx) (by have:=aY (Bz hx);omega)).use ?_
    refine zu ?_;(repeat clear U K);repeat intro K U
    exact⟨hlt,(),by rw[Ga _ _ _ hx];rfl,trivial,Sat.nil⟩
   .have:=Yw f
    rw[Hz]at this;exact AF (by rw[Ap hk,wrap64 (by omega) (by omega),<-Hz])
def GS (f:Fact):Int:=f.H7 fun f l=>l.foldl KH (if B8 f then f.arg+1 else 0)
def J3 (f:Fact):GS f=(f.kids.map GS).foldl KH (if B8 f then f.arg+1 else 0):=Fact.Dy _ f
def R0 (f:Fact):Bool:=f.H7 fun f l=>decide (0<=f.arg)&&decide (f.arg<3)&&l.all id
def QF (f:Fact):R0 f=(decide (0<=f.arg)&&decide (f.arg<3)&&(f.kids.map R0).all id):=Fact.Dy _ f
def im (f:Fact):R0 f=true->Pure zP 130 [.a (xF f)] (eI (GS f)):=by
 induction f using Fact.ind with
 | h f ih=>
   intro ha;refine Pure.fit (by kernel_rfl) fun hf=>?_
   have⟨h2,h3,h4⟩:=KZ hf.1;have hM:=Mx;rw[QF]at ha;simp only[BD,CD,List.all_map,Er]at ha;refine wL kZ ?_;refine zu ?_;(repeat clear U K);repeat intro K U
   refine(Z3 f).use ?_
   conv=>whnf
   repeat'((first|clear U K|apply st|(apply zk;intro K U)|refine zn ?_|refine za (fun hc=>?_) fun hc=>?_|fail)<;>conv=>whnf)
   .refine By f.kids.length (fun k (_:Unit)=>[(3,eI (((f.kids.take k).map GS).foldl KH (if B8 f then f.arg+1 else 0))),(14,eI (A9 k))]) (fun _ _=>[]) (fun _ _=>True) () (by rw[wrap64 (by omega) (by omega),if_pos hc];rfl) trivial Sat.nil ?_
    rintro k - Z hk - hs
    conv=>whnf
    repeat'((first|clear U K|apply st|(apply zk;intro K U)|refine zn ?_|refine zr fun Z hs=>?_|(refine fc (fun x hx hlt hc=>?_) (fun hk hc=>?_)<;>(try rw[hc])<;>clear hc)|refine zp fun nn hnn Z hs=>?_|fail)<;>conv=>whnf)
    .refine(ih x (Bz hx) (ha.2 x (Bz hx))).use ?_
     refine zu ?_;(repeat clear U K);repeat intro K U
     exact⟨hlt,(),by rw[Ga _ _ _ hx];rfl,trivial,Sat.nil⟩
    .exact AF (by rw[Ap hk,<-J3])
   .refine By f.kids.length (fun k (_:Unit)=>[(3,eI (((f.kids.take k).map GS).foldl KH (if B8 f then f.arg+1 else 0))),(14,eI (A9 k))]) (fun _ _=>[]) (fun _ _=>True) () (by rw[if_neg (c:=B8 f=true) (by simp[hc])];rfl) trivial Sat.nil ?_
    rintro k - Z hk - hs
    conv=>whnf
    repeat'((first|clear U K|apply st|(apply zk;intro K U)|refine zn ?_|refine zr fun Z hs=>?_|(refine fc (fun x hx hlt hc=>?_) (fun hk hc=>?_)<;>(try rw[hc])<;>clear hc)|refine zp fun nn hnn Z hs=>?_|fail)<;>conv=>whnf)
    .refine(ih x (Bz hx) (ha.2 x (Bz hx))).use ?_
     refine zu ?_;(repeat clear U K);repeat intro K U
     exact⟨hlt,(),by rw[Ga _ _ _ hx];rfl,trivial,Sat.nil⟩
    .exact AF (by rw[Ap hk,<-J3])
def CR (op:Int):Nat:=if op=5 then 1 else if op=6\/op=7 then 2 else 0
def XV (w:AH) (f:Fact):Bool:=
 if f.op=2 then f.n==0&&RY w f.cls else if f.op=3\/f.op=4 then f.cls==0&&(decide (-1000000000<=f.n)&&decide (f.n<=1000000000))else f.op==1||f.op==5||f.op==6||f.op==7
def DB (w:AH) (f:Fact):Bool:=
 XV w f&&(f.kids.length==CR f.op&&(decide (0<=f.arg)&&(decide (f.arg<3)&&(FE w f.path&&(B8 f||(f.arg==0&&(f.path.length==0&&(f.cls==0&&f.n==0))))))))
def Bk (w:AH) (f:Fact):Bool:=f.H7 fun f l=>DB w f&&l.all id
def Cs (w:AH) (f:Fact):Bk w f=(DB w f&&f.kids.all (Bk w)):=by rw[Bk,Fact.Dy,List.all_map];rfl
def Pu {w:AH} {f:Fact} (h:DB w f=false):Bk w f=false:=by rw[Cs,h,Bool.false_and]
def y7 {f:Fact} (h1:B8 f=false) (h2:f.arg=0) (h3:(f.path.length:Int) > 0):true= !(B8 f||(f.arg==0&&(f.path.length==0&&(f.cls==0&&f.n==0)))):=by
 have:(f.path.length==0)=false:=by simp;intro e;rw[e]at h3;simp at h3
 rw[this,h1,h2];rfl
def mw (w : AH) (f:Fact):Pure zP 185 [.a (A1 w),.a (xF f)] (.b (Bk w f)):=by
 induction f using Fact.ind with
 | h f ih=>
   refine Pure.fit (by kernel_rfl) fun hf=>?_
   have⟨h2,h3,h4⟩:=KZ hf.2.1;have⟨w1,w2,w3⟩:=VQ hf.1;have hM:=Mx;refine vg kZ ?_
   conv=>whnf
   repeat'((first|apply st|(apply sq;intro K U)|(apply si;intro A B hA hB)|(refine hA _ _ ?_;clear hB B hA A)|(apply U;clear U K)|refine⟨rfl,?_⟩|fail)<;>conv=>whnf)
   have hJ :=Rw U (fun(_:Unit)=>[(5,eI (CR f.op))]) (fun _=>[]) (fun _=>XV w f=true) [(2,.rp (A1 w)),(3,.rp (xF f)),(5,eI 0)] (by
    clear U;rintro - Z ho -
    conv=>whnf
    repeat'((first|apply st|(apply sq;intro K U)|(apply si;intro A B hA hB)|refine⟨rfl,?_⟩|fail)<;>conv=>whnf)
    have hJ :=Rw U (fun(b:Bool)=>[(66,.b b)]) (fun _=>[]) (fun b=>b= !(f.kids.length==CR f.op&&(decide (0<=f.arg)&&(decide (f.arg<3)&&FE w f.path)))) [(2,.rp (A1 w)),(3,.rp (xF f)),(66,.b false)] (by
     clear U;rintro b Z hb -
     conv=>whnf
     repeat'((first|apply st|fail)<;>conv=>whnf)
     have hJ :=Rw U (fun(_:Unit)=>[]) (fun _=>[]) (fun _=>b=false) [(2,.rp (A1 w)),(3,.rp (xF f))] (by
      clear U;rintro - Z hb' -;rw[hb']at hb
      conv=>whnf
      repeat'((first|apply st|(apply sq;intro K U)|(apply si;intro A B hA hB)|refine⟨kZ,?_⟩|refine Pure.use (Z3 _) ?_|fail)<;>conv=>whnf)
      have hJ:=Rw U (fun(b:Bool)=>[(90,.b b)]) (fun _=>[]) (fun b=>b= !(B8 f||(f.arg==0&&(f.path.length==0&&(f.cls==0&&f.n==0))))) [(2,.rp (A1 w)),(3,.rp (xF f)),(90,.b false)] (by
       clear U;rintro b Z hb2 -
       conv=>whnf
       repeat'((first|apply st|fail)<;>conv=>whnf)
       have hJ:=Rw U (fun(_:Unit)=>[]) (fun _=>[]) (fun _=>b=false) [(2,.rp (A1 w)),(3,.rp (xF f))] (by
        clear U;rintro - Z hb' -;rw[hb']at hb2
        have hh:DB w f=true:=by
         have hb:(f.kids.length==CR f.op&&(decide (0<=f.arg)&&(decide (f.arg<3)&&FE w f.path)))=true:=by rw[<-Bool.not_eq_false',<-hb]
         have hb2:(B8 f||(f.arg==0&&(f.path.length==0&&(f.cls==0&&f.n==0))))=true:=by rw[<-Bool.not_eq_false',<-hb2]
         simp only[BD]at hb;simp only[DB,ho,hb.1,hb.2,hb2,Bool.and_self]
        conv=>whnf
        repeat'((first|apply st|(apply sq;intro K U)|(apply si;intro A B hA hB)|(refine hA _ _ ?_;clear hB B hA A)|(apply U;clear U K)|fail)<;>conv=>whnf)
        refine By f.kids.length (fun k (_:Unit)=>[(94,eI (A9 k))]) (fun _ _=>[]) (fun k _=>Bk w f=(f.kids.drop k).all (Bk w)) () rfl (by rw[Cs,hh];rfl) Sat.nil ?_;rintro k - Z hk hn hs
        conv=>whnf
        repeat'((first|apply st|(apply sq;intro K U)|(apply si;intro A B hA hB)|(refine hA _ _ ?_;clear hB B hA A)|(apply U;clear U K)|refine⟨rfl,?_⟩|refine⟨kZ,?_⟩|refine zN ?_|refine ld ?_|refine sn fun Z hs=>?_|(refine fc (fun x hx hlt hc=>?_) (fun hk hc=>?_)<;>(try rw[hc])<;>clear hc)|(intro nn hnn;generalize hg:BV _ nn _=Z;refine al hg fun hs=>?_;clear hg)|clear U K)<;>conv=>whnf)
        .have hxm:=Bz hx
         refine(ih x hxm).use ?_
         conv=>whnf
         repeat'((first|apply st|(apply sq;intro K U)|(apply si;intro A B hA hB)|(refine hA _ _ ?_;clear hB B hA A)|(apply U;clear U K)|refine⟨rfl,?_⟩|(constructor<;>intro hc<;>(try rw[hc])<;>(replace hc:=bp hc))|clear U K)<;>conv=>whnf)
         .exact AF (by rw[hn,drop_cons hx];simp[hc])
         .exact⟨hlt,(),rfl,by rw[hn,drop_cons hx];simp[hc],Sat.nil⟩
        .exact AF (by rw[hn,Al hk];rfl))
       clear U
       conv=>whnf
       repeat'((first|apply st|(apply sq;intro K U)|(apply si;intro A B hA hB)|(refine hA _ _ ?_;clear hB B hA A)|(apply U;clear U K)|(constructor<;>intro hc<;>(try rw[hc])<;>(replace hc:=bp hc))|fail)<;>conv=>whnf)
       .have hx:(B8 f||(f.arg==0&&(f.path.length==0&&(f.cls==0&&f.n==0))))=false:=by rw[<-Bool.not_eq_true',<-hb2,hc]
        exact AF (by rw[Pu];simp only[DB,hx,Bool.and_false])
       .exact hJ () _ _ rfl hc Sat.nil)
      clear U;clear hb
      conv=>whnf
      repeat'((first|apply st|(refine hA _ _ ?_;clear hB B hA A)|refine⟨rfl,?_⟩|(constructor<;>intro hc<;>(try rw[hc])<;>(replace hc:=bp hc)<;>(try simp(disch:=omega) only[BL,wrap64,AM]at hc))|fail)<;>conv=>whnf)
      .have hp:f.path.length=0:=by omega
       exact hJ _ _ _ rfl (by rw[hp];simp[*,bne]) Sat.nil
      .exact hJ true _ _ rfl (by simp[*]) Sat.nil
      .exact hJ true _ _ rfl (y7 (by assumption) (by assumption) hc) Sat.nil
      .exact hJ true _ _ rfl (by simp[*]) Sat.nil
      .exact hJ false _ _ rfl (by simp[*]) Sat.nil)
     clear U
     conv=>whnf
     repeat'((first|apply st|(apply sq;intro K U)|(apply si;intro A B hA hB)|(refine hA _ _ ?_;clear hB B hA A)|(apply U;clear U K)|(constructor<;>intro hc<;>(try rw[hc])<;>(replace hc:=bp hc))|fail)<;>conv=>whnf)
     .have hx:(f.kids.length==CR f.op&&(decide (0<=f.arg)&&(decide (f.arg<3)&&FE w f.path)))=false:=by rw[<-Bool.not_eq_true',<-hb,hc]
      exact AF (by rw[Pu];simp only[DB];simp only[Bool.and_eq_false_iff]at hx ⊢;rcases hx with h|h|h|h<;>simp[h])
     .exact hJ () _ _ rfl hc Sat.nil)
    clear U
    conv=>whnf
    repeat'((first|apply st|(refine hA _ _ ?_;clear hB B hA A)|refine⟨rfl,?_⟩|refine⟨kZ,?_⟩|refine Pure.use (ma _ _ _) ?_|(constructor<;>intro hc<;>(try rw[hc])<;>(replace hc:=bp hc)<;>(try simp(disch:=omega) only[BL,wrap64,AM]at hc))|fail)<;>conv=>whnf)
    all_goals exact hJ _ _ _ rfl (by simp[*]<;>omega) Sat.nil)
   clear U
   conv=>whnf
   repeat'((first|apply st|(apply sq;intro K U)|(apply si;intro A B hA hB)|(refine hA _ _ ?_;clear hB B hA A)|(apply U;clear U K)|refine⟨rfl,?_⟩|refine⟨kZ,?_⟩|refine Pure.use (kL _ _) ?_|(constructor<;>intro hc<;>(try rw[hc])<;>(replace hc:=bp hc))|fail)<;>conv=>whnf)
   all_goals first
    | exact AF (by rw[Pu];simp only[DB,XV];simp[*]<;>omega)
    | exact hJ () _ _ (by simp[CR, *];rfl) (by simp[XV, *]<;>omega) Sat.nil
def nS (xs:List Int) (f:Bool) (x:Int):Pure zP 250 [.l (iL xs) f,eI x] (.b (xs.contains x)):=Pure.fit (by kernel_rfl) fun hf=>gW xs f x (Lo hf.1)
def DC (w:AH) (f:Fact):Bool:=decide (CQ f 24<=24)&&(decide (D8 f<=12)&&Bk w f)
def jr (w:AH) (f:Fact):Pure zP 129 [.a (A1 w),.a (xF f)] (.b (DC w f)):=by
 refine wM kZ ?_
 conv=>whnf
 repeat'((first|clear U K|apply st|(apply zk;intro K U)|refine zn ?_|refine Pure.use (jP _) ?_|refine za (fun hc=>?_) fun hc=>?_|fail)<;>conv=>whnf)
 .have:=LK f 24 (by omega) hc
  refine(kF f (by simp only[AX];omega)).use ?_
  conv=>whnf
  repeat'((first|clear U K|apply st|refine zn ?_|refine Pure.use (mw _ _) ?_|refine za (fun hc=>?_) fun hc=>?_|fail)<;>conv=>whnf)
  .exact AF (by simp[DC,hc,‹CQ f 24<=24›])
  .exact AF (by simp[DC, *];intros;omega)
 .exact AF (by simp[DC];intros;omega)
def qI (i:Nat) (pre:List Int) (c:Int):Bool:=decide (3<=c)&&(decide (c<3+i)&& !pre.contains c)
def M5 (i:Nat):List Int->List Int->Bool
 | _,[]=>true
 | pre,c::r=>qI i pre c&&M5 i (pre++[c]) r
def Io:Nat->List (List Int)->Bool
 | _,[]=>true
 | i,l::r=>decide (l.length<=3)&&(M5 i [] l&&Io (i+1) r)
def Dh (g:List (List Int)):Bool:=decide (g.length<=16)&&Io 0 g
def Ts {ls:List (List Int)} {g:Bool} (h:Eu (.l (Ek ls) g)):ls.length<=AX/\ ∀l∈ls,l.length<=AX:=by
 simp only[Ex,BL,Jf,C9]at h;exact⟨h.1,fun l hl=>(h.2 l hl).1.1⟩
def nX (g:List (List Int)) (f:Bool):Pure zP 179 [.l (Ek g) f] (.b (Dh g)):=by
 refine Pure.fit (by kernel_rfl) fun hf=>?_
 have⟨g1,g2⟩:=Ts hf.1;have hM:=Mx;refine vw kZ ?_
 conv=>whnf
 repeat'((first|clear U K|apply st|(apply zk;intro K U)|refine zn ?_|(refine zd (fun hc=>?_) (fun hc=>?_)<;>try exact⟨⟩)|fail)<;>conv=>whnf)
 .exact AF (by simp[Dh];intros;omega)
 .refine By g.length (fun k (_:Unit)=>[(3,eI (A9 k))]) (fun _ _=>[]) (fun k _=>Dh g=Io k (g.drop k)) () rfl (by simp[Dh];omega) Sat.nil ?_
  rintro k - Z hk hn hs
  conv=>whnf
  repeat'((first|clear U K|apply st|(apply zk;intro K U)|refine zn ?_|(refine fc (fun x hx hlt hc=>?_) (fun hk hc=>?_)<;>(try rw[hc])<;>clear hc)|(refine zd (fun hc=>?_) (fun hc=>?_)<;>try exact⟨⟩)|fail)<;>conv=>whnf)
  .exact AF (by rw[hn,drop_cons hx,Io];simp;intros;omega)
  .revert x
   rintro l hl hl3;have hll:=g2 l (Bz hl);have hn':Dh g=(M5 k [] l&&Io (k+1) (g.drop (k+1))):=by rw[hn,drop_cons hl,Io];simp;intros;omega
   refine By l.length (fun j (_:Unit)=>[(4,eI (A9 j))]) (fun _ _=>[]) (fun j _=>Dh g=(M5 k (l.take j) (l.drop j)&&Io (k+1) (g.drop (k+1)))) () rfl (by rw[hn'];rfl) Sat.nil ?_;rintro j - Z hj hm hs
   conv=>whnf
   repeat'((first|clear U K|apply st|(apply zk;intro K U)|refine zn ?_|(refine fc (fun x hx hlt hc=>?_) (fun hk hc=>?_)<;>(try rw[hc])<;>clear hc)|refine Pure.use (nS _ _ _) ?_|(refine zd (fun hc=>?_) (fun hc=>?_)<;>try exact⟨⟩)|fail)<;>conv=>whnf)
   .exact AF (by rw[hm,drop_cons hx,M5,qI,hc];simp)
   .refine⟨hlt,(),rfl,?_,Sat.nil⟩
    rw[hm,drop_cons hx,M5,qI,hc,AL hx];simp[*]
   .exact AF (by rw[hm,drop_cons hx,M5,qI];simp;intros;omega)
   .exact AF (by rw[hm,drop_cons hx,M5,qI];simp;intros;omega)
   .refine⟨by assumption,(),rfl,?_,Sat.nil⟩
    rw[hm,Al hk,M5,GJ]
  .exact AF (by rw[hn,Al hk];rfl)
end Go.Gl
namespace Go.Gl
def par (ps:List (List Int)) (c:Nat):List Int:=if c<3 then []else ps.getD (c - 3) []
def ordered (ps:List (List Int)):Prop:= ∀c p,p∈par ps c->3<=p/\p<(c:Int)
def eT (ps:List (List Int)):Nat->Nat->Nat->Bool
 | 0,c,b=>c==b
 | f+1,c,b=>c==b||(par ps c).any fun p=>eT ps f p.toNat b
def KD (ps:List (List Int)) (c b:Nat):Bool:=eT ps c c b
def LC {ps:List (List Int)} (ho:ordered ps): ∀(f c b:Nat),c<=f->eT ps f c b=KD ps c b
 | 0,c,b,h=>by(obtain rfl:c=0:=by omega);rfl
 | f + 1,c,b,h=>by
   cases c with
   | zero=>
     have:par ps 0= []:=rfl;simp[KD,eT,this]
   | succ c=>
     simp only[KD,eT];congr 1
     have key: ∀l:List Int,(∀p∈l,p∈par ps (c+1))->(l.any fun p=>eT ps f p.toNat b)=l.any fun p=>eT ps c p.toNat b:=by
      intro l hl
      induction l with
      | nil=>rfl
      | cons p r ih=>
        have hp:=ho (c+1) p (hl p (.head _));simp only[Q7];rw[ih fun q hq=>hl q (.tail _ hq),LC ho f p.toNat b (by omega),LC ho c p.toNat b (by omega)]
     exact key _ fun p hp=>hp
def FN {ps:List (List Int)} (ho:ordered ps) (c b:Nat):KD ps c b=(c==b||(par ps c).any fun p=>KD ps p.toNat b):=by
 cases c with
 | zero=>simp[KD,eT,par]
 | succ c=>
   simp only[KD,eT];congr 1
   have key: ∀l:List Int,(∀p∈l,p∈par ps (c+1))->(l.any fun p=>eT ps c p.toNat b)=l.any fun p=>eT ps p.toNat p.toNat b:=by
    intro l hl
    induction l with
    | nil=>rfl
    | cons p r ih=>
      have hp:=ho (c+1) p (hl p (.head _));simp only[Q7];rw[ih fun q hq=>hl q (.tail _ hq),LC ho c p.toNat b (by omega)];rfl
   exact key _ fun p hp=>hp
def Hf {ps:List (List Int)} (ho:ordered ps) (c:Nat):KD ps c c=true:=by rw[FN ho];simp
def fq {ps:List (List Int)} (ho:ordered ps): ∀(c b:Nat),KD ps c b=true->b<=c:=by
 intro c
 induction c using Nat.strongRecOn with
 | _ c ih=>
   intro b h;rw[FN ho]at h;simp only[F1,EZ,KM]at h;rcases h with rfl|⟨p,hp,h⟩
   .omega
   .have:=ho c p hp
    have:=ih p.toNat (by omega) b h;omega
def NS {ps:List (List Int)} (ho:ordered ps): ∀(a b c:Nat),KD ps a b=true->KD ps b c=true->KD ps a c=true:=by
 intro a
 induction a using Nat.strongRecOn with
 | _ a ih=>
   intro b c h k;rw[FN ho]at h ⊢;simp only[F1,EZ,KM]at h ⊢;rcases h with rfl|⟨p,hp,h⟩
   .rw[FN ho]at k
    simpa using k
   .have:=ho a p hp
    exact .inr ⟨p,hp,ih p.toNat (by omega) b c h k⟩
def Fk (bs:List Bool) (i:Nat):List Int->List Bool
 | []=>bs
 | p::r=>Fk (bs.set p.toNat (bs.getD p.toNat false||bs.getD i false)) i r
def Mg (i:Nat): ∀(a b:List Int) (bs:List Bool),Fk bs i (a++b)=Fk (Fk bs i a) i b
 | [],b,bs=>rfl
 | p::r,b,bs=>by simp only[List.cons_append,Fk];exact Mg i r b _
def Nf (i:Nat): ∀(l:List Int) (bs:List Bool),(Fk bs i l).length=bs.length
 | [],bs=>rfl
 | p::r,bs=>by simp only[Fk];rw[Nf i r];simp
def HS (ps:List (List Int)) (n c:Nat):Nat->List Bool
 | 0=>(List.replicate n false).set c true
 | k+1=>Fk (HS ps n c k) (c - k) (par ps (c - k))
def Lu (ps:List (List Int)) (n c:Nat): ∀k,(HS ps n c k).length=n
 | 0=>by simp[HS]
 | k+1=>by simp only[HS];rw[Nf,Lu ps n c k]
def EE {bs:List Bool} {j:Nat} {x:Bool} (hj:j<bs.length) (b:Nat):(bs.set j x).getD b false=if b=j then x else bs.getD b false:=by
 simp only[DL,List.getElem?_set];by_cases h:j=b
 .subst h;simp[hj]
 .rw[if_neg h,if_neg (fun e=>h e.symm)]
def Ng {i:Nat}: ∀(l:List Int) (bs:List Bool),(∀p∈l,0<=p/\p.toNat<bs.length/\p.toNat<i)-> ∀b,(Fk bs i l).getD b false=(bs.getD b false||(bs.getD i false&&l.contains (b:Int)))
 | [],bs,_,b=>by simp[Fk]
 | p ::r,bs,h,b=>by
   obtain⟨h1,h2,h3⟩:=h p (.head _);simp only[Fk];have hi:i≠p.toNat:=by omega
   rw[Ng r _ (fun q hq=>by have:=h q (.tail _ hq);simpa using this),EE h2,EE h2,if_neg hi];by_cases hb:b=p.toNat
   .subst hb
    have:((p.toNat:Nat):Int)=p:=by omega
    simp only[if_true,this,List.contains_cons,beq_self_eq_true,Bool.true_or,Bool.and_true];cases bs.getD p.toNat false<;>cases bs.getD i false<;>simp
   .rw[if_neg hb]
    have:((b:Int)==p)=false:=by simp;omega
    simp only[List.contains_cons,this,Bool.false_or]
def Vo {ps:List (List Int)} (ho:ordered ps) {n c:Nat} (hc:c<n): ∀k,k<=c - 2->(∀b,(HS ps n c k).getD b false=true->KD ps c b=true)/\(HS ps n c k).getD c false=true/\
    (∀j p,c - k<j->(HS ps n c k).getD j false=true->p∈par ps j->(HS ps n c k).getD p.toNat false=true)
 | 0,_=>by
   have hg: ∀b,(HS ps n c 0).getD b false=decide (b=c):=fun b=>by
    simp only[HS];rw[EE (by simpa using hc)];by_cases h:b=c
    .simp[h]
    .rw[if_neg h]
     simp[h,DL,List.getElem?_replicate];split<;>rfl
   refine⟨fun b hb=>?_,by rw[hg];simp,fun j p hj hb hp=>?_⟩
   .rw[hg]at hb
    simp only[CD]at hb;subst hb;exact Hf ho _
   .rw[hg]at hb
    simp only[CD]at hb;omega
 | k + 1,hk=>by
   obtain⟨h1,h2,h3⟩:=Vo ho hc k (by omega)
   have hpar: ∀p∈par ps (c - k),0<=p/\p.toNat<(HS ps n c k).length/\p.toNat<c - k:=fun p hp=>by
    have:=ho _ p hp;rw[Lu];omega
   have hg: ∀b,(HS ps n c (k+1)).getD b false=((HS ps n c k).getD b false||((HS ps n c k).getD (c - k) false&&(par ps (c - k)).contains (b:Int))):=fun b=>by
    simp only[HS];exact Ng _ _ hpar b
   refine⟨fun b hb=>?_,by rw[hg,h2];rfl,fun j p hj hb hp=>?_⟩
   .rw[hg]at hb
    simp only[F1,BD,List.contains_iff_mem]at hb;rcases hb with hb|⟨hb,hm⟩
    .exact h1 b hb
    .refine NS ho c (c - k) b (h1 _ hb) ?_
     rw[FN ho];simp only[F1,KM];exact .inr ⟨b,hm,by simpa using Hf ho b⟩
   .have hjp:=ho j p hp
    have hb':(HS ps n c k).getD j false=true:=by
     rw[hg]at hb;simp only[F1,BD,List.contains_iff_mem]at hb;rcases hb with hb|⟨_,hm⟩
     .exact hb
     .have:=ho _ _ hm
      omega
    rw[hg];by_cases e:j=c - k
    .subst e
     rw[hb'];have:((p.toNat:Nat):Int)=p:=by omega
     simp only[this,GJ,F1,List.contains_iff_mem];exact .inr hp
    .rw[h3 j p (by omega) hb' hp]
     rfl
def ZZ {ps:List (List Int)} (ho:ordered ps) {n c:Nat} (hc:c<n) (b:Nat):(HS ps n c (c - 2)).getD b false=KD ps c b:=by
 obtain⟨h1,h2,h3⟩:=Vo ho hc (c - 2) (I3 _)
 have key: ∀a,(HS ps n c (c - 2)).getD a false=true-> ∀b,KD ps a b=true->(HS ps n c (c - 2)).getD b false=true:=by
  intro a
  induction a using Nat.strongRecOn with
  | _ a ih=>
    intro ha b hb;rw[FN ho]at hb;simp only[F1,EZ,KM]at hb;rcases hb with rfl|⟨p,hp,hb⟩
    .exact ha
    .have:=ho a p hp
     exact ih p.toNat (by omega) (h3 a p (by omega) ha hp) b hb
 cases hb:KD ps c b with
 | true=>exact key c h2 b hb
 | false=>
   cases hq:(HS ps n c (c - 2)).getD b false with
   | false=>rfl
   | true=>rw[h1 b hq]at hb;cases hb
end Go.Gl
