import Derived.Test.YtcfkfhaedllcpaaGreatV14
import Derived.Test.YtcfkfhaedllcpaaGreatV15
import Derived.Test.YtcfkfhaedllcpaaGreatV18
import Derived.Test.YtcfkfhaedllcpaaGreatV19
import Derived.Test.YtcfkfhaedllcpaaGreatV22
import Derived.Test.YtcfkfhaedllcpaaGreatV23
import Derived.Test.YtcfkfhaedllcpaaGreatV25
set_option linter.all false
set_option linter.defProp false
set_option maxHeartbeats 8000000
noncomputable section
namespace Go.Gl
open Go.Proofs
attribute [local irreducible] A6 Ar Ah AR AI Ae AQ AT AK Ad AN AO Ay A7 Sat AY A5 Ai W
def LQ {f g:Nat->Bool}: ∀ {l:List Nat},(∀x∈l,f x=g x)->l.all f=l.all g
 | [],_=>rfl
 | x::r,h=>by rw[KK,KK,h x (.head _),LQ fun y hy=>h y (.tail _ hy)]
def YE {A B:Int->Int->Bool} {l:List Int} (h: ∀x∈l,∀y∈l,A x y=B x y) {i:Nat} (hi:i<l.length):G6 A l i l.length=G6 B l i l.length:=by
 rw[G6,G6];refine LQ fun k hk=>?_
 rw[h _ (D0 hi) _ (D0 (List.mem_range.1 hk))]
def find_congr {f g:Nat->Bool}: ∀ {l:List Nat},(∀x∈l,f x=g x)->l.find? f=l.find? g
 | [],_=>rfl
 | x::r,h=>by
   rw[List.find?_cons,List.find?_cons,h x (.head _),find_congr fun y hy=>h y (.tail _ hy)]
def Uj {A B:Int->Int->Bool} {l:List Int} (h: ∀x∈l,∀y∈l,A x y=B x y):D7 A l=D7 B l:=
 find_congr fun i hi=>YE h (List.mem_range.1 hi)
def Mp {A B:Int->Int->Bool}: ∀(k:Nat) (l:List Int),(∀x∈l,∀y∈l,A x y=B x y)->BR A k l=BR B k l
 | 0,_,_=>rfl
 | k + 1,l,h=>by
   rw[BR,BR,Uj h];cases D7 B l with
   | none=>rfl
   | some i=>
     dsimp only;rw[Mp k (l.eraseIdx i) fun x hx y hy=>h x (List.mem_of_mem_eraseIdx hx) y (List.mem_of_mem_eraseIdx hy)]
def YU {A B:Int->Int->Bool} {l:List Int} (h: ∀x∈l,∀y∈l,A x y=B x y):M1 A l=M1 B l:=
 find_congr fun i hi=>by
  rw[Kl,Kl];refine LQ fun k hk=>?_
  rw[h _ (D0 (List.mem_range.1 hk)) _ (D0 (List.mem_range.1 hi))]
def Q2 {A B:Int->Int->Bool}: ∀(k:Nat) (l:List Int),(∀x∈l,∀y∈l,A x y=B x y)->DE A k l=DE B k l
 | 0,_,_=>rfl
 | k+1,l,h=>by
   rw[DE,DE,YU h,Q2 k (l.eraseIdx _) fun x hx y hy=>h x (List.mem_of_mem_eraseIdx hx) y (List.mem_of_mem_eraseIdx hy)]
def Py {x y:Int} {out:List Int}:y∈G9 x out↔y=x\/y∈out:=by
 have h:=List.takeWhile_append_dropWhile (p:=fun y=>decide (y<x)) (l:=out);rw[G9];constructor
 .intro hy
  rcases FC.1 hy with hy|hy
  .right;rw[<-h];exact Q9 _ hy
  .rcases GK.1 hy with rfl|hy
   .exact .inl rfl
   .right;rw[<-h];exact N1 _ hy
 .rintro(rfl|hy)
  .exact N1 _ (.head _)
  .rw[<-h]at hy
   rcases FC.1 hy with hy|hy
   .exact Q9 _ hy
   .exact N1 _ (.tail _ hy)
def Qq: ∀(l out:List Int) (y:Int),y∈l.foldl (fun out x=>G9 x out) out↔y∈l\/y∈out
 | [],out,y=>by simp
 | x ::r,out,y=>by
   rw[List.foldl_cons,Qq r,Py,GK];constructor
   .rintro(h|h|h)
    .exact .inl (.inr h)
    .exact .inl (.inl h)
    .exact .inr h
   .rintro((h|h)|h)
    .exact .inr (.inl h)
    .exact .inl h
    .exact .inr (.inr h)
def J4 {l:List Int} {y:Int}:y∈Co l↔y∈l:=by rw[Co,Qq];simp
def Qr: ∀(l out:List Int),(l.foldl (fun out x=>G9 x out) out).length=l.length+out.length
 | [],out=>by simp
 | x::r,out=>by rw[List.foldl_cons,Qr r,MR,JD];omega
def SE (l:List Int):(Co l).length=l.length:=by rw[Co,Qr];simp
structure Tm (p:Prog) (l:List Int):Prop where
 Ip: ∀x∈l,BQ p x=true
 alike: ∀x∈l,∀y∈l,DH p x y=true
 many:l.length<=16
def bP (p:Prog) (l:List Int) (kd:Bool) (x:Int):Bool:=BQ p x&&((Bf p x).gen==(Bf p (l.getD 0 0)).gen&&(!kd||DH p x (l.getD 0 0)))
def Ed (p:Prog) (l:List Int) (kd:Bool):Bool:=l.all (bP p l kd)&&decide l.Nodup
def Sc {p:Prog} {l:List Int} {kd:Bool} {i:Nat} {x:Int} (hx:l[i]? =some x) (h:bP p l kd x=false):Ed p l kd=false:=by
 rw[Ed,Bool.and_eq_false_iff];left;rw[<-Bool.not_eq_true,Er];intro h2;rw[h2 x (Bz hx)]at h;cases h
def Sb {p:Prog} {l:List Int} {kd:Bool} {i k:Nat} {x:Int} (hx:l[i]? =some x) (hk:l[k]? =some x) (h:k<i):Ed p l kd=false:=by
 rw[Ed,Bool.and_eq_false_iff];right;rw[decide_eq_false_iff_not];intro h2;have hi:=(Ii.1 hx)
 have hj:=(Ii.1 hk)
 have:=(List.nodup_iff_pairwise_ne.1 h2)
 rw[List.pairwise_iff_getElem]at this;exact this k i hj.1 hi.1 h (by rw[hj.2,hi.2])
def QY {l:List Int} {i:Nat} {x:Int} (hx:l[i]? =some x) (h:(l.take i).Nodup) (hn: ∀k y,k<i->l[k]? =some y->y≠x):(l.take (i+1)).Nodup:=by
 rw[AL hx,List.nodup_append];refine⟨h,by simp,fun a ha b hb=>?_⟩;rw[LV.1 hb];obtain⟨k,hk⟩:=List.getElem?_of_mem ha;rw[List.getElem?_take]at hk;split at hk
 .exact hn k a (by assumption) hk
 .cases hk
def V3: ∀(n:Nat) (l:List Int),l.Nodup->(∀x∈l,0<=x/\x<(n:Int))->l.length<=n
 | 0,l,_,h=>by
   cases l with
   | nil=>simp
   | cons x r=>have:=h x (.head _);omega
 | n + 1,l,hn,h=>by
   have h1:=V3 n (l.erase (n:Int)) (hn.erase _) fun x hx=>by
    have hm:=(List.Nodup.mem_erase_iff hn).1 hx;have:=h x hm.2;have:=hm.1;omega
   have h2:=List.length_erase (a:=(n:Int)) (l:=l);split at h2<;>omega
def NF (w:AH) (f:Fact):Bool:=decide (0<=f.arg)&&(decide (f.arg<3)&&(FE w f.path&&(if f.op=2 then f.n==0&&RY w f.cls else f.cls==0&&(decide (-1000000000<=f.n)&&decide (f.n<=1000000000)))))
def Eb (w:AH) (f:Fact):Int->Int->Bool×Int:=f.H7 fun f l left deep=>
 if IntKind.i64.wrap (left - 1)<0\/deep=0\/f.op<1\/7<f.op\/f.kids.length≠CR f.op then(false,IntKind.i64.wrap (left - 1))else
 if B8 f then(NF w f,IntKind.i64.wrap (left - 1))else
 if f.arg≠0\/0<f.path.length\/f.cls≠0\/f.n≠0 then(false,IntKind.i64.wrap (left - 1))else
 Ch (fun(k:Int->Int->Bool×Int) s=>k s (deep - 1)) l (IntKind.i64.wrap (left - 1))
def Ma {α β S:Type} (g:α->β) (stp:β->S->Bool×S): ∀(l:List α) (s:S),Ch stp (l.map g) s=Ch (fun a s=>stp (g a) s) l s
 | [],_=>rfl
 | a::r,s=>by simp only[E8,Ch,Ma g stp r]
def Hj (w:AH) (f:Fact) (left deep:Int):Eb w f left deep =
    if IntKind.i64.wrap (left - 1)<0\/deep=0\/f.op<1\/7<f.op\/f.kids.length≠CR f.op then(false,IntKind.i64.wrap (left - 1))else
    if B8 f then(NF w f,IntKind.i64.wrap (left - 1))else
    if f.arg≠0\/0<f.path.length\/f.cls≠0\/f.n≠0 then(false,IntKind.i64.wrap (left - 1))else
    Ch (fun k s=>Eb w k s (deep - 1)) f.kids (IntKind.i64.wrap (left - 1)):=by
 rw[Eb,Fact.Dy,Ma];rfl
def ZG {w:AH} {f:Fact} {left deep L1:Int} {b:Bool} {nL:Nat} {Z:AE} (hs:Sat Z [.box nL [eI L1]]) (h:Eb w f left deep=(b,L1)):Ar Z (.b b) fun r Z'=> ∃post:List At,(r=R.ret (.b (Eb w f left deep).1)/\post= [.box nL [eI (Eb w f left deep).2]])/\Sat Z' post:=by
 rw[h];exact AU ⟨_,⟨rfl,rfl⟩,hs⟩
def mu (w:AH) (us:List Nat) (hw1:w.parents.length<=60) (hw2:w.owner.length<=60) (nL:Nat) (f:Fact): ∀(left deep:Int),0<=deep->deep<=12->
    Be zP 334 [.rp (wC w us),.a (xF f),.p nL 0,eI deep] [.box nL [eI left]] fun r post=>r= .ret (.b (Eb w f left deep).1)/\post= [.box nL [eI (Eb w f left deep).2]]:=by
 induction f using Fact.ind with
 | h f ih=>
   intro left deep hd0 hd1 Z hs;refine A6.fit (by kernel_rfl) fun hf=>?_
   have⟨h2,h3,h4⟩:=KZ hf.2.1;have hM:=Mx;have hdw:IntKind.i64.wrap (deep - 1)=deep - 1:=wrap64 (by omega) (by omega);refine tt kZ ?_
   have hstep:C3 zP (.f (.func 368) [] [.rp [.rp (wC w us)],.rp [.p nL 0],.rp [eI deep]]) (fun y=> .a (xF y)) (fun s=>[.box nL [eI s]]) (fun k s=>Eb w k s (deep - 1)) (fun y _=>y∈f.kids/\deep≠0):=by
    rintro y s ⟨hy,hdn⟩ Z hs;refine Bh ?_;show A6 zP 368 ([]++[.a (xF y)]++[.rp [.rp (wC w us)],.rp [.p nL 0],.rp [eI deep]]) Z _;refine ta kZ ?_;refine zz ?_;(repeat clear U K);repeat intro K U
    rw[hdw];refine(ih y hy s (deep - 1) (by omega) (by omega)).use (rest:=[]) hs ?_;rintro r post Z ⟨rfl,rfl⟩ hs;refine zz ?_;(repeat clear U K);repeat intro K U
    exact AU ⟨rfl,hs⟩
   conv=>whnf
   repeat'((first|clear U K|apply st|(apply zk;intro K U)|refine zY ?_|refine rk ?_ ?_|exact fun s e=>by cases e;rfl|refine zs fun Z hs=>?_|refine Pure.use (UH _) ?_|refine Pure.use (nN _) ?_|refine Pure.use (kK w us _ hw1) ?_|refine Pure.use (mZ w us _ _ hw2) ?_|(refine zd (fun hc=>?_) (fun hc=>?_)<;>try exact⟨⟩)|fail)<;>conv=>whnf)
   all_goals first
    | (refine ZG hs ?_;rw[Hj,if_pos (by omega)];done)
    | (refine ZG hs ?_;rw[Hj,if_neg (by omega),if_pos (by assumption)];simp[NF, *];done)
    | (refine ZG hs ?_;rw[Hj,if_neg (by omega),if_pos (by assumption)];simp[NF, *];intros;omega)
    | (refine ZG hs ?_;rw[Hj,if_neg (by omega),if_neg (by simp[*]),if_pos (by omega)];done)
    | skip
   refine(iC 368 [] _ _ _ _ hstep f.kids false (IntKind.i64.wrap (left - 1)) h2 (HD fun y hy _=>⟨hy,by omega⟩)).use (rest:=[]) hs ?_;have hE:=Hj w f left deep;rw[if_neg (by omega),if_neg (by simp[*]),if_neg (by omega)]at hE;rw[<-hE];rintro r post Z ⟨rfl,rfl⟩ hs;refine zz ?_;(repeat clear U K);repeat intro K U
   exact AU ⟨_,⟨rfl,rfl⟩,hs⟩
def Lm (w:AH) (f:Fact):Bool:=(Eb w f 24 12).1
def dM (w:AH) (us:List Nat) (hw1:w.parents.length<=60) (hw2:w.owner.length<=60) (f:Fact):Pure zP 333 [.a (xF f),.rp [.rp (wC w us)]] (.b (Lm w f)):=by
 refine Pure.of ?_;refine tu kZ ?_;have hs:=Sn
 conv=>whnf
 repeat'((first|clear U K|apply st|(apply zk;intro K U)|refine zY ?_|refine zs fun Z hs=>?_|refine zo fun nn hnn Z hs=>?_|fail)<;>conv=>whnf)
 refine(mu w us hw1 hw2 _ f 24 12 (by omega) (by omega)).use (rest:=[]) hs ?_;rintro r post Z ⟨rfl,rfl⟩ hs;refine zz ?_;(repeat clear U K);repeat intro K U
 exact AU rfl
def oe {g:FuncId} {fi ca:List V} {f:Fact->Bool} {xs:List Fact} (b:Bool) (hl:xs.length<=AX) (h: ∀y∈xs,Pure zP g (fi++[.a (xF y)]++ca) (.b (f y))):Pure zP 332 [.l (facts xs) b,.f (.func g) fi ca] (.b (xs.all f)):=by
 have:=iC g fi ca (fun _=>[]) (fun y (_:Unit)=>(f y,())) (fun y _=>y∈xs) (fun y s hy Z hs=>Bh (A6.mono ((h y hy).use (k:=fun v Z'=>v= .b (f y)/\Sat Z' []) (kp:=fun _ _=>False) ⟨rfl,Sat.nil⟩) (by
  rintro(v|v) Z' hq
  .obtain⟨rfl,h⟩:=hq
   exact⟨rfl,h⟩
  .exact hq.elim))) xs b () hl (HD fun y hy _=>hy)
 rw[KB]at this;exact Pure.of (A6.mono (this emp Sat.nil) fun r Z' ⟨post,⟨h1,h2⟩,h3⟩=>h1)
def dO (w:AH) (us:List Nat) (hw1:w.parents.length<=60) (hw2:w.owner.length<=60) (l:List Fact) (b:Bool) (hl:l.length<=60):Pure zP 299 [.rp (wC w us),.l (facts l) b] (.b (l.all (Lm w))):=by
 have hall:=oe (g:=333) (fi:=[]) (ca:=[.rp [.rp (wC w us)]]) (f:=Lm w) (xs:=l) b (by simp only[AX];omega) fun y _=>dM w us hw1 hw2 y
 refine uP kZ ?_;have hs:=Sn;exact zW
def Zk (w:AH) (hw:D2 w) (l:List Fact) (b:Bool) (hl:l.length<=60):Pure zP 266 [.a (A1 w),.l (facts l) b] (.t [.rp (wC w (Es w.parents)),.b (l.all (Lm w))]):=by
 have hfo:=dO w (Es w.parents) (by have:=hw.1.1;omega) (by have:=hw.2.1;omega) l b hl;refine uf kZ ?_;have hs:=Sn
 conv=>whnf
 repeat'((first|clear U K|apply st|(apply zk;intro K U)|refine zY ?_|refine Pure.use (mh w hw) ?_|refine hfo.use ?_|fail)<;>conv=>whnf)
 all_goals exact AF rfl
def eH (w:AH) (hw:D2 w) (f:Fact):Pure zP 204 [.a (A1 w),.a (xF f)] (eI (if Lm w f then 0 else 2)):=by
 have hfo: ∀b,Pure zP 266 [.a (A1 w),.l [GR f] b] (.t [.rp (wC w (Es w.parents)),.b (Lm w f)]):=fun b=>by
  have:=Zk w hw [f] b (by simp);simpa using this
 refine vK kZ ?_;have hs:=Sn;refine zz ?_;(repeat clear U K);repeat intro K U
 rw[BX]at hfo;refine(hfo _).use ?_
 conv=>whnf
 repeat'((first|clear U K|apply st|(apply zk;intro K U)|refine Pure.use (YK _) ?_|fail)<;>conv=>whnf)
 exact AF rfl
end Go.Gl
namespace Go.Gl
def Mf {most:Int}: ∀(l:List Fact) (n:Int),(∀k∈l,∀m:Int,(Mv k:Int)<=m->CQ k m=Mv k)->n+(l.map Mv).sum<=most->DW (l.map CQ) n most=n+(l.map Mv).sum
 | [],n,_,_=>by simp[DW]
 | k::r,n,h,h1=>by
   simp only[E8,List.sum_cons,DW]at *;rw[if_pos (by omega),h k (.head _) (most - n) (by omega),Mf r _ (fun k' hk'=>h k' (.tail _ hk')) (by omega)];omega
def Uc (f:Fact): ∀m:Int,(Mv f:Int)<=m->CQ f m=Mv f:=by
 induction f using Fact.ind with
 | h f ih=>
   intro m hm;rw[J8];rw[K1]at *;rw[Mf f.kids 1 ih (by omega)];omega
def cZ (f:Fact) {m:Int} (h0:0<=m):CQ f m<=m↔(Mv f:Int)<=m:=
 ⟨fun h=>by rw[<-LK f m h0 h];exact h,fun h=>by rw[Uc f m h];exact h⟩
def oQ (f:Fact):1<=Mv f:=by rw[K1];omega
def Gh {m:Int}: ∀(l:List Int) (a:Int),l.foldl KH a<=m↔a<=m/\ ∀x∈l,x<=m
 | [],a=>by simp
 | x ::r,a=>by
   rw[List.foldl_cons,Gh r];unfold KH;constructor
   .rintro⟨h1,h2⟩
    refine⟨by split at h1<;>omega,fun y hy=>?_⟩;rcases GK.1 hy with rfl|hy
    .split at h1<;>omega
    .exact h2 y hy
   .rintro⟨h1,h2⟩
    have hx:=h2 x (.head _);exact⟨by split<;>omega,fun y hy=>h2 y (.tail _ hy)⟩
def kE (f:Fact) {m:Int}:D8 f<=m↔1<=m/\ ∀k∈f.kids,D8 k<=m - 1:=by
 rw[Hz];constructor
 .intro h
  have:=(Gh (m:=m - 1) (f.kids.map D8) 0).1 (by omega);exact⟨by omega,fun k hk=>this.2 _ (List.mem_map_of_mem hk)⟩
 .rintro⟨h1,h2⟩
  have:=(Gh (m:=m - 1) (f.kids.map D8) 0).2 ⟨by omega,fun x hx=>by
   obtain⟨k,hk,rfl⟩:=Mt.1 hx
   exact h2 k hk⟩
  omega
def fR (w:AH) (f:Fact) (left deep:Int):Prop:=(Mv f:Int)<=left/\D8 f<=deep/\Bk w f=true
def TD (w:AH) {deep:Int}: ∀(l:List Fact) (left:Int),0<=left->left<=24->(∀k∈l,∀left:Int,0<=left->left<=24->((Eb w k left deep).1=true↔fR w k left deep)/\((Eb w k left deep).1=true->(Eb w k left deep).2=left - Mv k))->
    ((Ch (fun k s=>Eb w k s deep) l left).1=true↔((l.map Mv).sum:Int)<=left/\ ∀k∈l,D8 k<=deep/\Bk w k=true)/\((Ch (fun k s=>Eb w k s deep) l left).1=true->(Ch (fun k s=>Eb w k s deep) l left).2=left - ((l.map Mv).sum:Nat))
 | [],left,h0,h1,_=>by simp[Ch];exact h0
 | k ::r,left,h0,h1,h=>by
   obtain⟨ha,hb⟩:=h k (.head _) left h0 h1;simp only[Ch,E8,List.sum_cons];cases hk:(Eb w k left deep).1
   .simp only[KQ,if_false,false_iff,false_implies,and_true]
    rintro⟨h2,h3⟩;have:=ha.2 ⟨by omega,(h3 k (.head _)).1,(h3 k (.head _)).2⟩;rw[hk]at this;cases this
   .obtain⟨g1,g2,g3⟩:=ha.1 hk
    have hc:=oQ k;rw[if_pos rfl,hb hk];obtain⟨i1,i2⟩:=TD w r (left - Mv k) (by omega) (by omega) fun k' hk'=>h k' (.tail _ hk')
    refine⟨i1.trans ⟨fun⟨e1,e2⟩=>⟨by omega,fun x hx=>?_⟩,fun⟨e1,e2⟩=>⟨by omega,fun x hx=>e2 x (.tail _ hx)⟩⟩,fun h=>by rw[i2 h];omega⟩;rcases GK.1 hx with rfl|hx
    .exact⟨g2,g3⟩
    .exact e2 x hx
def mr (w : AH) (f:Fact): ∀left deep:Int,0<=left->left<=24->0<=deep->((Eb w f left deep).1=true↔fR w f left deep)/\((Eb w f left deep).1=true->(Eb w f left deep).2=left - Mv f):=by
 induction f using Fact.ind with
 | h f ih=>
   intro left deep h0 h1 hd;have hw:IntKind.i64.wrap (left - 1)=left - 1:=wrap64 (by omega) (by omega);rw[Hj,hw];have hc:=K1 f;have hn:=Cs w f;have hdl:=kE f (m:=deep)
   have hko:DB w f=true->f.kids.length=CR f.op:=fun h=>by
    simp only[DB,BD,EZ]at h;exact h.2.1
   have hop:DB w f=true->1<=f.op/\f.op<=7:=fun h=>by
    simp only[DB,BD]at h;have h1:=h.1;unfold XV at h1;split at h1
    .omega
    split at h1
    .omega
    simp at h1;omega
   by_cases hbad:left - 1<0\/deep=0\/f.op<1\/7<f.op\/f.kids.length≠CR f.op
   .rw[if_pos hbad]
    simp only[KQ,false_iff,false_implies,and_true];rintro⟨g1,g2,g3⟩;rw[hn,BD]at g3;have g4:=hko g3.1;have g5:=hop g3.1;have g6:=(hdl.1 g2).1;omega
   rw[if_neg hbad];by_cases hl:B8 f=true
   .rw [if_pos hl]
    have hl':f.op=2\/f.op=3\/f.op=4:=by
     simp only[B8,F1,EZ]at hl;omega
    have hk0:f.kids= []:=by
     have:f.kids.length=CR f.op:=by omega
     rw[CR,if_neg (by omega),if_neg (by omega)]at this;exact Y5.1 this
    have hd1:D8 f=1:=by rw[Hz,hk0];rfl
    have hc1:Mv f=1:=by rw[hc,hk0];rfl
    have hh:DB w f=NF w f:=by
     unfold DB XV NF;rw[hl,hk0];have e:CR f.op=0:=by rw[CR,if_neg (by omega),if_neg (by omega)]
     rw[e];simp only[List.length_nil,beq_self_eq_true,GJ,Bool.true_or,Bool.and_true];rcases hl' with e|e|e
     .rw[if_pos e,if_pos e]
      cases(f.n==0&&RY w f.cls)<;>simp
     .rw[if_neg (show¬f.op=2 by omega),if_neg (show¬f.op=2 by omega),if_pos (show f.op=3\/f.op=4 from .inl e)]
      cases(f.cls==0&&(decide (-1000000000<=f.n)&&decide (f.n<=1000000000)))<;>simp
     .rw[if_neg (show¬f.op=2 by omega),if_neg (show¬f.op=2 by omega),if_pos (show f.op=3\/f.op=4 from .inr e)]
      cases(f.cls==0&&(decide (-1000000000<=f.n)&&decide (f.n<=1000000000)))<;>simp
    refine⟨⟨fun h=>⟨by omega,by omega,?_⟩,fun⟨_,_,h⟩=>?_⟩,fun _=>by dsimp only;omega⟩
    .rw[hn,hk0,hh];simpa using h
    .rw[hn,hk0,hh]at h;simpa using h
   .have hl':f.op=1\/f.op=5\/f.op=6\/f.op=7:=by
     simp only[B8,F1,EZ]at hl;omega
    have hlf:B8 f=false:=by simpa using hl
    rw[if_neg hl];by_cases hz:f.arg≠0\/0<f.path.length\/f.cls≠0\/f.n≠0
    .rw[if_pos hz]
     simp only[KQ,false_iff,false_implies,and_true];rintro⟨g1,g2,g3⟩;rw[hn,BD]at g3;have g4:=g3.1;simp only[DB,hlf,Bool.false_or,BD,EZ]at g4;omega
    .rw [if_neg hz]
     obtain⟨i1,i2⟩:=TD w (deep:=deep - 1) f.kids (left - 1) (by omega) (by omega) fun k hk left hl0 hl1=>ih k hk left (deep - 1) hl0 hl1 (by omega)
     have hh:DB w f=true:=by
      have hp:f.path= []:=Y5.1 (by omega)
      have e1:XV w f=true:=by
       unfold XV;rw[if_neg (by omega),if_neg (by omega)];simp only[F1,EZ];omega
      have z1:f.arg=0:=by omega
      have z2:f.cls=0:=by omega
      have z3:f.n=0:=by omega
      have z4:f.kids.length=CR f.op:=by omega
      simp[DB,e1,hlf,hp,z1,z2,z3,z4,FE]
     refine⟨i1.trans ⟨fun⟨e1,e2⟩=>⟨by omega,hdl.2 ⟨by omega,fun k hk=>(e2 k hk).1⟩,?_⟩,fun⟨g1,g2,g3⟩=>⟨by omega,fun k hk=>⟨(hdl.1 g2).2 k hk,?_⟩⟩⟩,fun h=>by rw[i2 h];omega⟩
     .rw[hn,hh,GJ,Er]
      exact fun k hk=>(e2 k hk).2
     .rw[hn,hh,GJ,Er]at g3
      exact g3 k hk
def aK (w:AH) (f:Fact):Lm w f=DC w f:=by
 have:=(mr w f 24 12 (by omega) (by omega) (by omega)).1;rw[Lm,DC,KO,this,fR];simp only[BD,CD];rw[cZ f (by omega)]
end Go.Gl
namespace Go.Gl
open Go.Proofs
attribute [local irreducible] A6 Ar Ah AR AI Ae AQ AT AK Ad AN AO Ay A7 Sat AY A5 Ai W
def kJ (xs:List Int) (f:Bool):Pure zP 25 [.l (iL xs) f] (.l (iL xs) false):=by
 refine Pure.fit (by kernel_rfl) fun hf=>?_
 have hxl:=Pd hf.1;have hM:=Mx;refine fe kZ ?_;have hs:=Sn
 conv=>whnf
 repeat'((first|clear U K|apply st|(apply zk;intro K U)|fail)<;>conv=>whnf)
 refine⟨fun e t=>?_,fun _=>?_⟩
 .have hx:xs= []:=List.map_eq_nil_iff.1 e
  subst hx
  conv=>whnf
  repeat'((first|clear U K|apply st|(apply zk;intro K U)|refine za (fun hc=>?_) fun hc=>?_|fail)<;>conv=>whnf)
  .exact Ab II
  .replace hs:=Ci hs 1
   refine GP hs 0 (xs:=[]) (ys:=[]) rfl (by simp) Bc fun v Z hs=>?_
   refine zz ?_;(repeat clear U K);repeat intro K U
   exact EF hs 0 rfl rfl
 .refine zz ?_;(repeat clear U K);repeat intro K U
  replace hs:=Ci hs 1;refine GP hs 0 (xs:=[]) (ys:=xs) rfl (by simp;omega) Bc fun v Z hs=>?_
  refine zz ?_;(repeat clear U K);repeat intro K U
  exact EF hs 0 rfl rfl
def rT (c:RJ):Pure zP 295 [.a (PG c)] (.l (iL c.parents) false):=by
 refine uT kZ ?_;have hs:=Sn
 conv=>whnf
 repeat'((first|clear U K|apply st|(apply zk;intro K U)|refine Pure.use (kJ _ _) ?_|fail)<;>conv=>whnf)
 exact AF rfl
def oU (xs:List (List Int)) (v:V) (hl:xs.length<=AX):Be zP 325 [v] [.own v 1 (Ek xs)] fun r post=>r= .ret (.l (Ek xs) true)/\post= []:=by
 intro Z hs;have hg:=C8 C7 xs;refine uC kZ ?_;refine zz ?_;(repeat clear U K);repeat intro K U
 refine pt (i:=0) hs rfl hg.1 (by simpa using hl) fun Z hs=>?_
 refine zz ?_;(repeat clear U K);repeat intro K U
 exact Am hs (List.Sublist.refl _) (.refl _) fun Z' hs'=>⟨_,⟨rfl,rfl⟩,hs'⟩
def Pj (xs:List Int) (v:V) (hl:xs.length<=AX):Be zP 231 [v] [.own v 1 (iL xs)] fun r post=>r= .ret (.l (iL xs) true)/\post= []:=by
 intro Z hs;have hg:=C8 Bc xs;refine gl kZ ?_;refine zz ?_;(repeat clear U K);repeat intro K U
 refine pt (i:=0) hs rfl hg.1 (by simpa using hl) fun Z hs=>?_
 refine zz ?_;(repeat clear U K);repeat intro K U
 exact Am hs (List.Sublist.refl _) (.refl _) fun Z' hs'=>⟨_,⟨rfl,rfl⟩,hs'⟩
def oD (cs:List RJ) (hl:cs.length<=1000000):Pure zP 294 [.l (cs.map PG) false,.f (.func 295) [] []] (.l (Ek (cs.map (·.parents))) false):=by
 have hM:=Mx;refine uU kZ ?_;have hs:=Sn;refine zz ?_;(repeat clear U K);repeat intro K U
 refine By cs.length (fun k v=>[(5,v),(10,eI (A9 k))]) (fun k v=>[.own v 1 (Ek ((cs.take k).map (·.parents)))]) (fun _ _=>True) (.l [] true) rfl trivial (Ci hs 1) ?_;clear hs;rintro k v Z hk - hs;rcases A3 cs hk with⟨c,hc,hlt⟩|hke
 .conv=>whnf
  repeat'((first|clear U K|apply st|(apply zk;intro K U)|refine zY ?_|refine zs fun Z hs=>?_|refine zo fun nn hnn Z hs=>?_|fail)<;>conv=>whnf)
  refine Bh ((rT c).use ?_)
  conv=>whnf
  repeat'((first|clear U K|apply st|(apply zk;intro K U)|refine zY ?_|refine aq fun v Z hs hsl=>?_|fail)<;>conv=>whnf)
  exact⟨hlt,_,rfl,trivial,by rw[AL hc,Uw];exact hs.less (LW _ _)⟩
 .rw[Ap hke]at hs
  refine zz ?_;(repeat clear U K);repeat intro K U
  refine(oU (cs.map (·.parents)) v (by simp;omega)).use (rest:=[]) hs ?_;clear hs;rintro r post Z ⟨rfl,rfl⟩ hs;refine zz ?_;(repeat clear U K);repeat intro K U
  exact Ab fY
def MT (p:Prog) (hk0:p.AJ.length<=1000):Pure zP 259 [.a (BK p)] (.l (Ek (Ax p)) false):=by
 refine Pure.fit (by kernel_rfl) fun hf=>?_
 have hP:=N9 hf.1;refine um kZ ?_;have hs:=Sn;refine zz ?_;(repeat clear U K);repeat intro K U
 refine(oD p.AJ (by omega)).use ?_;exact zW
def Vg (p:Prog) (hk0:p.AJ.length<=1000) (hm:Bl p.AJ<=AX):Pure zP 203 [.a (BK p)] (.a (A1 (AS p))):=by
 refine Pure.fit (by kernel_rfl) fun hf=>?_
 have hP:=N9 hf.1;have hcl:=hP.1;have hM:=Mx;refine vL kZ ?_;have hs:=Sn
 conv=>whnf
 repeat'((first|clear U K|apply st|(apply zk;intro K U)|refine zY ?_|refine zs fun Z hs=>?_|refine Pure.use (MT _ hk0) ?_|refine zo fun nn hnn Z hs=>?_|fail)<;>conv=>whnf)
 rename_i n2 _ _ _ _ _
 rename Nat=>n3
 replace hs:Sat Z [.box n3 [.l (Ek (Ax p)) false,.l [] true],.box n2 [.l [] true,.l [] true]]:=hs;refine By p.AJ.length (fun k (_:V)=>[(12,eI (A9 k))]) (fun k v=>[.own v 1 (iL (BM 0 (p.AJ.take k))),.box n3 [.l (Ek (Ax p)) false,v],.box n2 [.l [] true,.l [] true]]) (fun _ _=>True) (.l [] true) rfl trivial (Ci hs 1) ?_;clear hs;rintro k v Z hk - hs;rcases A3 p.AJ hk with⟨c,hc,hlt⟩|hke
 .have hcm:=hP.2 c (Bz hc)
  have htk:=Qg hc;have hck:A9 k=k:=AM (by omega)
  have hap:BM 0 (p.AJ.take (k+1))=BM 0 (p.AJ.take k)++List.replicate c.AG.length ((k:Int)+3):=by
   rw[AL hc,I1];have:(p.AJ.take k).length=k:=by simp;omega
   rw[this];simp[BM]
  have hol:=CU 0 (p.AJ.take k);have hw3:IntKind.i64.wrap (A9 k+3)=(k:Int)+3:=by rw[hck,wrap64 (by omega) (by omega)]
  have hcs:=hcm.2.1;generalize BM 0 (p.AJ.take k)=os at *
  conv=>whnf
  repeat'((first|clear U K|apply st|(apply zk;intro K U)|refine zY ?_|refine zs fun Z hs=>?_|refine zo fun nn hnn Z hs=>?_|fail)<;>conv=>whnf)
  refine By c.AG.length (fun j (_:V)=>[(20,eI (A9 j))]) (fun j v=>[.own v 1 (iL (os++List.replicate j ((k:Int)+3))),.box n3 [.l (Ek (Ax p)) false,v],.box n2 [.l [] true,.l [] true]]) (fun _ _=>True) v rfl trivial (by simpa using hs.less (LW _ _)) ?_;clear hs;rintro j v Z hj - hs;rcases A3 c.AG hj with⟨s,hsl,hjlt⟩|hje
  .have hsv0:=H5 hs 0 rfl
   conv=>whnf
   repeat'((first|clear U K|apply st|(apply zk;intro K U)|refine zY ?_|refine zs fun Z hs=>?_|refine aq fun v Z hs hsl=>?_|fail)<;>conv=>whnf)
   have hsv:=H5 hs 0 rfl
   conv=>whnf
   refine⟨hjlt,v,rfl,trivial,?_⟩;rw[List.replicate_succ',<-XO];rw[hw3]at hs;exact hs
  .refine zz ?_;(repeat clear U K);repeat intro K U
   exact⟨hlt,v,rfl,trivial,by rw[hap,<-hje];exact hs⟩
 .rw[Ap hke]at hs
  have hsv:=H5 hs 0 rfl
  conv=>whnf
  repeat'((first|clear U K|apply st|(apply zk;intro K U)|refine zY ?_|refine zs fun Z hs=>?_|fail)<;>conv=>whnf)
  exact Ab (.a (.cons (.refl _) (.cons (hs.HP 0 rfl) .nil)))
def sL:Pure zP 352 [.i .u64 0] (eI 0):=by
 refine tq kZ ?_;have hs:=Sn
 conv=>whnf
 repeat'((first|clear U K|apply st|(apply zk;intro K U)|refine zY ?_|(refine zb (fun hc=>?_) (fun hc=>?_)<;>try exact⟨⟩)|fail)<;>conv=>whnf)
 refine⟨by decide,?_⟩;exact zW
def sM:Pure zP 309 [.i .u64 0] (eI 0):=by
 refine uK kZ ?_;have hs:=Sn
 conv=>whnf
 repeat'((first|clear U K|apply st|(apply zk;intro K U)|refine sL.use ?_|fail)<;>conv=>whnf)
 all_goals exact AF rfl
def sT:Pure zP 342 [.l [] true,eI 0,eI 0] (.t []):=by
 refine tr kZ ?_;have hs:=Sn;refine zz ?_;(repeat clear U K);repeat intro K U
 refine DF (fun(_:Unit)=>0) (fun _=>[(6,eI 1)]) (fun _=>[]) (fun _=>True) () rfl trivial hs ?_;clear hs;rintro - Z - hs;exact zW
def rR:Pure zP 308 [.l [] true,eI 0,eI 0,eI 0] (.t []):=by
 refine uL kZ ?_;have hs:=Sn;refine zz ?_;(repeat clear U K);repeat intro K U
 refine DF (fun(_:Unit)=>0) (fun _=>[]) (fun _=>[]) (fun _=>True) () rfl trivial hs ?_;clear hs;rintro - Z - hs
 conv=>whnf
 repeat'((first|clear U K|apply st|(apply zk;intro K U)|refine zY ?_|refine sT.use ?_|(refine zb (fun hc=>?_) (fun hc=>?_)<;>try exact⟨⟩)|fail)<;>conv=>whnf)
 all_goals exact AF rfl
def iu:Pure zP 279 [.l [] true] (.t []):=by
 refine ua kZ ?_;have hs:=Sn
 conv=>whnf
 repeat'((first|clear U K|apply st|(apply zk;intro K U)|refine sM.use ?_|refine rR.use ?_|fail)<;>conv=>whnf)
 all_goals exact AF rfl
def fK {xs:List Int} {v:V} (hv:(Bg v).isSome=true\/(v= .l [] true/\xs= [])):Be zP 279 [v] [.own v 1 (iL xs)] fun r post=>r= .ret (.t [])/\post= [.own v 1 (iL (xs.mergeSort HO))]:=by
 rcases hv with hv|⟨rfl,rfl⟩
 .obtain⟨n,l,c,rfl⟩:=fM hv
  exact mC xs n l c
 .intro Z hs
  have:=iu.use (Z:=Z) (k:=fun v Z'=>v= .t []/\Z'=Z) (kp:=fun _ _=>False) ⟨rfl,rfl⟩;refine A6.mono this ?_;rintro(u|u) Z' hq
  .obtain⟨rfl,rfl⟩:=hq
   exact⟨_,⟨rfl,rfl⟩,by simpa using hs⟩
  .exact hq.elim
def W9 {b:Nat} {Z:AE} {sz:Nat} {v:V} {ys:List (List V)} {f:Bool} {K:V->AE->Prop} (h:AI b Z sz v (.l ys f) fun v' Z'=>((Bg v').isSome=true\/(v'=v/\ys= []))->K v' Z'):AI b Z sz v (.l ys f) K:=by
 unfold AI at *;obtain⟨h1,h2,h3⟩:=h;refine⟨h1,h2,?_⟩;cases v with
 | l es full=>exact⟨h3.1,h3.2.1,fun e=>h3.2.2.1 e (.inr ⟨rfl,e⟩),fun e=>⟨(h3.2.2.2 e).1,fun n cap hn hc=>(h3.2.2.2 e).2 n cap hn hc (.inl rfl)⟩⟩
 | sl n len cap=>
   simp only at h3 ⊢;split at h3
   .exact⟨h3.1,h3.2.1,h3.2.2.1,h3.2.2.2.1,fun n' cap' hn hc=>h3.2.2.2.2 n' cap' hn hc (.inl rfl)⟩
   .exact h3.elim
 | _=>exact h3.elim
def TJ (M:List Int):List (V×V):=M.map fun k=>(eI k,.b true)
def PC (M:List Int) (k:Int):List Int:=if M.contains k then M else M++[k]
def Vz (M:List Int) (k b:Int):(PC M k).contains b=(M.contains b||b==k):=by
 unfold PC;split
 .rename_i h
  by_cases hb:b=k
  .subst hb;simpa using h
  .have:(b==k)=false:=by simpa using hb
   rw[this,Bool.or_false]
 .simp[List.contains_append]
  rfl
def Z5 (M:List Int) (k:Int):Da (eI k) (.b true) (TJ M)=TJ (PC M k):=by
 induction M with
 | nil=>rfl
 | cons x r ih=>
   simp only[TJ,E8,Da]at *;have he:Dj (eI k) (eI x)=(k==x):=rfl;rw[he];cases hx:k==x
   .rw[cond_false,ih]
    unfold PC;have:(x::r).contains k=r.contains k:=by rw[List.contains_cons,hx,Bool.false_or]
    rw[this];split<;>simp
   .rw[cond_true]
    have hk:k=x:=by simpa using hx
    subst hk;unfold PC;simp
def MP (M:List Int) (k:Int):found (.b false) false (Ca (eI k) (TJ M))= .b (M.contains k):=by
 induction M with
 | nil=>rfl
 | cons x r ih=>
   simp only[TJ,E8,Ca]at *;have he:Dj (eI k) (eI x)=(k==x):=rfl;rw[he,List.contains_cons];cases k==x
   .simpa using ih
   .rfl
def Hm (M:List Int): ∀kv∈TJ M,BO (.i .i64) kv.1=true:=by
 intro kv h;obtain⟨e,_,rfl⟩:=Mt.1 h;rfl
end Go.Gl
