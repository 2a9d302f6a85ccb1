import Derived.Test.YtcfkfhaedllcpaaGreatV14
import Derived.Test.YtcfkfhaedllcpaaGreatV15
import Derived.Test.YtcfkfhaedllcpaaGreatV19
import Derived.Test.YtcfkfhaedllcpaaGreatV20
import Derived.Test.YtcfkfhaedllcpaaGreatV21
set_option linter.all false
set_option linter.defProp false
set_option maxHeartbeats 8000000
noncomputable section
namespace Go.Gl
open Go.Proofs
attribute [local irreducible] A6 Ar Ah AR AI Ae AQ AT AK Ad AN AO Ay A7 Sat AY A5 Ai W
def I8 (w:AH) (x:Fact):Prop:= ∃g,Bk w g=true/\B8 g=true/\(x=g\/x=Fi g)
def F5 {g:Fact} (h:B8 g=true):g.op=2\/g.op=3\/g.op=4:=by
 simp only[B8,F1,EZ]at h;omega
def Ei {w : AH} (f:Fact):Bk w f=true-> ∀c,∀l∈BG f c,∀x∈l,I8 w x:=by
 induction f using Fact.ind with
 | h f ih=>
   intro h c;have har:=Cu f h;have h':=h;rw[Cs,BD,Er]at h';rw[GG,FR];by_cases h1:f.op=1
   .rw[if_pos h1]
    cases c
    .rw[if_neg (by decide)]
     intro l hl x hx;simp at hl;subst hl;cases hx
    .rw[if_pos rfl]
     intro l hl;cases hl
   rw[if_neg h1];by_cases h5:f.op=5
   .obtain⟨a,ha,hb⟩:=IL har h5
    rw[if_pos h5,ha];exact ih a (by rw[ha];exact .head _) (h'.2 a (by rw[ha];exact .head _)) (!c)
   rw[if_neg h5];by_cases h6:f.op=6\/f.op=7
   .obtain⟨a,b,ha,hb1,hb2⟩:=IK har h6
    rw[if_pos h6,ha];have i1:=ih a (by rw[ha];exact .head _) (h'.2 a (by rw[ha];exact .head _)) c;have j1:=ih b (by rw[ha];exact .tail _ (.head _)) (h'.2 b (by rw[ha];exact .tail _ (.head _))) c;simp only[E8,List.map_nil,List.getD_cons_zero,List.getD_cons_succ];split
    .intro l hl
     rcases FC.1 hl with hl|hl
     .exact i1 l hl
     .exact j1 l hl
    .intro l hl x hx
     simp only[Df,List.mem_flatMap,Mt]at hl;obtain⟨y,hy,z,hz,rfl⟩:=hl;rcases Sh _ _ _ hx with h|h
     .exact i1 y hy x h
     .exact j1 z hz x h
   .rw [if_neg h6]
    have hlf:B8 f=true:=by
     have ho:XV w f=true:=by
      have:=h'.1;simp only[DB,BD]at this;exact this.1
     simp only[B8,F1,EZ];unfold XV at ho;split at ho
     .omega
     .split at ho
      .omega
      .simp only[F1,EZ]at ho
       omega
    cases c
    .rw[if_neg (by decide)]
     intro l hl x hx;simp at hl;subst hl;simp at hx;subst hx;exact⟨x,h,hlf,.inl rfl⟩
    .rw[if_pos rfl]
     intro l hl x hx;simp at hl;subst hl;simp at hx;subst hx;exact⟨f,h,hlf,.inr rfl⟩
def Hl {w:AH} {x:Fact} (h:I8 w x):GO x/\Bk w (Av x).1=true/\B8 (Av x).1=true:=by
 obtain⟨g,hn,hl,rfl|rfl⟩:=h
 .have:=F5 hl
  have h5: ¬x.op=5:=by omega
  exact⟨fun e=>absurd e h5,by simp only[Av,if_neg h5];exact⟨hn,hl⟩⟩
 .exact⟨fun _ e=>(by cases e),hn,hl⟩
def Je {w:AH} {l:List Fact} (h: ∀x∈l,I8 w x):(∀x∈l,GO x)/\Ve w l/\Kr l/\Te l 2:=by
 refine⟨fun x hx=>(Hl (h x hx)).1,fun x hx h2=>?_,fun x hx=>?_,fun x hx=>?_⟩
 all_goals
  obtain⟨-,hn,hl⟩:=Hl (h x hx);have hlo:=F5 hl;generalize (Av x).1=g at *;rw[Cs,BD]at hn;have hn:=hn.1;simp only[DB,BD]at hn;obtain⟨ho,-,-,-,hp,-⟩:=hn
 .unfold XV at ho
  rw[if_pos h2]at ho;simp only[RY,BD,CD]at ho;exact ho.2
 .unfold XV at ho
  split at ho
  .simp only[BD,EZ]at ho
   omega
  .split at ho
   .simp only[BD,CD]at ho
    omega
   .omega
 .simp only[FE,BD,CD]at hp
  omega
def RT (w:AH) (f:Fact):Bool:=(BG f false).any (G7 w)
def wc (w:AH) (f:Fact) (hw:Ur w) (hn:Bk w f=true) (hlv:lv f<=28):Pure zP 192 [.a (A1 w),.a (xF f)] (.b (RT w f)):=by
 have hM:=Mx;have har:=Cu f hn;have hcl:=(EY f har false).1;have hp:2 ^ lv f<=2 ^ 28:=Nat.pow_le_pow_right (by omega) hlv;have hlits:=Ei f hn false;refine vV kZ ?_;have hs:=Sn;refine zv ?_;(repeat clear U K);repeat intro K U
 refine(wj f har hlv false).use (rest:=[]) hs ?_;clear hs;rintro r post Z ⟨v,rfl,rfl⟩ hs;have hP:RT w f=(BG f false).any (G7 w):=rfl
 have hlen: ∀x∈BG f false,x.length<=1000000:=fun x hx=>by
  have:=(EY f har false).2 x hx;omega
 generalize BG f false=cs at *;refine zv ?_;(repeat clear U K);repeat intro K U
 refine By cs.length (fun k (_:Unit)=>[(10,eI (A9 k))]) (fun _ _=>[.own v 1 (lM cs)]) (fun k _=>RT w f=(cs.drop k).any (G7 w)) () rfl hP hs ?_;clear hs hP;rintro k - Z hk hP hs;rcases A3 cs hk with⟨x,hx,hlt⟩|hke
 .obtain⟨q1,q2,q3,q4⟩:=Je (hlits x (Bz hx))
  have htog:=Wo w x q1 (hlen x (Bz hx)) hw q2 q3 q4;rw[drop_cons hx,Q7]at hP;cases ht:G7 w x<;>rw[ht]at htog hP
  .conv=>whnf
   repeat'((first|clear U K|apply st|(apply zk;intro K U)|refine zX ?_|refine zC ?_|fail)<;>conv=>whnf)
   exact⟨hlt,(),rfl,hP,hs⟩
  .conv=>whnf
   repeat'((first|clear U K|apply st|(apply zk;intro K U)|refine zX ?_|refine zC ?_|fail)<;>conv=>whnf)
   exact AF (by rw[hP];rfl)
 .refine zv ?_;(repeat clear U K);repeat intro K U
  exact AF (by rw[hP,Al hke];rfl)
def TX (w:AH) (a b:Fact):Bool:= !RT w (Of a (Fi b))
def gN (a b:Fact):lv (Of a (Fi b))=lv a+lv b:=by
 rw[N7];simp only[eO,Of,Fact.op,Fact.kids,E8,List.map_nil,List.getD_cons_zero,List.getD_cons_succ];rw[N7 (Fi b)];simp[eO,Fi,Fact.op,Fact.kids]
def Pt {w:AH} {a b:Fact} (ha:Bk w a=true) (hb:Bk w b=true):Bk w (Of a (Fi b))=true:=by
 have hnb:Bk w (Fi b)=true:=by
  rw[Cs];simp[Fi,DB,XV,Fact.op,Fact.kids,Fact.arg,Fact.path,Fact.cls,Fact.n,CR,FE,B8,hb]
 rw[Cs];simp[Of,DB,XV,Fact.op,Fact.kids,Fact.arg,Fact.path,Fact.cls,Fact.n,CR,FE,B8,ha,hnb]
def c9 (w:AH) (a b:Fact) (hw:Ur w) (ha:Bk w a=true) (hb:Bk w b=true) (la:lv a<=12) (lb:lv b<=12):Pure zP 136 [.a (A1 w),.a (xF a),.a (xF b)] (.b (TX w a b)):=by
 refine wG kZ ?_;have hs:=Sn
 conv=>whnf
 repeat'((first|clear U K|apply st|(apply zk;intro K U)|refine zX ?_|refine rk ?_ ?_|exact fun s e=>by cases e;rfl|refine Pure.use (gJ _) ?_|refine Pure.use (wi _ _) ?_|refine Pure.use (wc _ _ hw (Pt ha hb) (by rw[gN];omega)) ?_|fail)<;>conv=>whnf)
 all_goals exact AF rfl
def Vw {p:Prog}: ∀ {ms:List Og} {s:List Int},(runM p ms s).isSome=true-> ∀m∈ms,Om p m=true
 | [],_,_,_,h=>by cases h
 | m ::r,s,h,x,hx=>by
   rw[runM]at h;split at h
   .rename_i hok
    split at h
    .cases h
    .rcases GK.1 hx with rfl|hx
     .exact hok
     .exact Vw h x hx
   .cases h
def FU {p:Prog} (h:(BW p).isSome=true):C2 p=true/\ ∀m∈p.methods,Om p m=true:=by
 unfold BW at h;split at h
 .rename_i hh
  refine⟨hh,?_⟩;split at h
  .cases h
  .rename_i s hs
   exact Vw (by rw[hs];rfl)
 .cases h
structure EM (p:Prog):Prop where
 wok:Ur (AS p)
 AG:Bl p.AJ<=AX
 yL:p.AJ.length<=1000
 facts: ∀m∈p.methods,Bk (AS p) m.fact=true/\lv m.fact<=12
 many:p.methods.length<=16
def look_ok {p:Prog} (h:(BW p).isSome=true):EM p:=by
 obtain⟨hh,hm⟩:=FU h;simp only[C2,BD,CD]at hh;have hc:=hh.1;simp only[A8,BD,CD]at hc;have hM:=Mx;refine⟨QK hc.1 hc.2.1 hc.2.2.2.1,by have:=(FT _ _ hc.2.1).1;omega,by have:=hc.1;omega,fun m h=>?_,hh.2.2.1⟩;have:=hm m h;simp only[Om,DC,BD,CD]at this;have hn:=this.2.2.2.2.1.2.2;refine⟨hn,?_⟩;have hcn:=LK m.fact 24 (by omega) this.2.2.2.2.1.1;have:=sD m.fact (Cu _ hn);omega
def BQ (p:Prog) (m:Int):Bool:=decide (0<=m)&&decide (m<(p.methods.length:Int))
def Bf (p:Prog) (m:Int):Og:=p.methods.getD m.toNat default
def CA {p:Prog} {m:Int} (h:BQ p m=true):p.methods[m.toNat]? =some (Bf p m):=by
 simp only[BQ,BD,CD]at h;rw[Bf,DL,Cw (by omega)];rfl
def DH (p:Prog) (m n:Int):Bool:=(Bf p m).gen==(Bf p n).gen&&(Bf p m).kind==(Bf p n).kind
def GM (p:Prog) (m n:Int):Bool:=TX (AS p) (Bf p m).fact (Bf p n).fact
def Af (p:Prog) (m n:Int):Bool:=GM p m n&& !GM p n m
def jV (p:Prog) (m:Int):Pure zP 72 [.a (BK p),eI m] (.b (BQ p m)):=by
 refine Pure.fit (by kernel_rfl) fun hf=>?_
 have⟨p1,p2,p3,p4⟩:=Ev hf.1;refine yj kZ ?_;have hs:=Sn
 conv=>whnf
 repeat'((first|clear U K|apply st|(apply zk;intro K U)|refine zX ?_|refine za (fun hc=>?_) fun hc=>?_|fail)<;>conv=>whnf)
 all_goals exact AF (by simp[BQ, *]<;>omega)
def aw (p:Prog) (m n:Int) (hm:BQ p m=true) (hn:BQ p n=true):Pure zP 73 [.a (BK p),eI m,eI n] (.b (DH p m n)):=by
 refine Pure.fit (by kernel_rfl) fun hf=>?_
 have⟨p1,p2,p3,p4⟩:=Ev hf.1;have hxm:=CA hm;have hxn:=CA hn;simp only[BQ,BD,CD]at hm hn;refine yi kZ ?_;have hs:=Sn
 conv=>whnf
 repeat'((first|clear U K|apply st|(apply zk;intro K U)|refine zX ?_|refine za (fun hc=>?_) fun hc=>?_|fail)<;>conv=>whnf)
 all_goals exact AF (by simp[DH, *])
abbrev pI (p:Int×Int):List V:=[eI p.1,eI p.2]
abbrev pP (l:List (Int×Int)):List (List V):=l.map pI
def TZ (p:Prog) (g:Int):Bool:=decide (0<=g)&&decide (g<(p.CW.length:Int))
def yW (p:Prog) (g:Int):Pure zP 147 [.a (BK p),eI g] (.b (TZ p g)):=by
 refine Pure.fit (by kernel_rfl) fun hf=>?_
 have⟨p1,p2,p3,p4⟩:=Ev hf.1;refine wE kZ ?_;have hs:=Sn
 conv=>whnf
 repeat'((first|clear U K|apply st|(apply zk;intro K U)|refine zY ?_|refine za (fun hc=>?_) fun hc=>?_|fail)<;>conv=>whnf)
 all_goals exact AF (by simp[TZ, *]<;>omega)
end Go.Gl
namespace Go.Gl
structure Kn where
 low:Int
 high:Int
 no:List Int
 B5:Nat
 Gq:Nat
 whole:Bool
 A0:Bool
 AG:List Int
def k0:Kn:=⟨-1000000000,1000000000,[],0,0,false,false,[]⟩
def JX (l:List Int) (s:Int):List Int:=if l.contains s then l else(l++[s]).mergeSort HO
def Cn (k:Kn) (f:Fact) (b:Bool):Kn:=
 if f.op=2 then(if b then {k with Gq:=k.Gq|||2 ^ f.cls.toNat}else {k with B5:=k.B5|||2 ^ f.cls.toNat})
 else if f.op=3 then(if b then {k with low:=if f.n > k.low then f.n else k.low}else {k with high:=if f.n - 1<k.high then f.n - 1 else k.high,whole:=true})
 else if b then {k with no:=k.no++[f.n]}else {k with low:=if f.n > k.low then f.n else k.low,high:=if f.n<k.high then f.n else k.high,whole:=true}
def Dg (k:Kn) (b:Bool):Kn:={k with A0:=k.A0|| !b}
def lA (k:Kn) (s:Int):Kn:={k with AG:=JX k.AG s}
def DA (a:Int) (p:List Int) (k:Kn) (l:Fact):Kn:=
 if(Av l).1.arg=a/\Br (Av l).1.path p=true then
  (if(Av l).1.path=p then Cn (Dg k (Av l).2) (Av l).1 (Av l).2 else lA (Dg k (Av l).2) ((Av l).1.path.getD p.length 0))
 else k
def kn (ls:List Fact) (a:Int) (p:List Int):Kn:=ls.foldl (DA a p) k0
def Y3 (k:Kn) (f:Fact) (b:Bool):(Cn k f b).A0=k.A0:=by
 unfold Cn
 (repeat' split)<;>rfl
def S9 (k:Kn) (f:Fact) (b:Bool):(Cn k f b).AG=k.AG:=by
 unfold Cn
 (repeat' split)<;>rfl
def Ue (a:Int) (p:List Int) (k:Kn) (l:Fact):(DA a p k l).A0=(k.A0|| !((Av l).2|| !((Av l).1.arg==a&&Br (Av l).1.path p))):=by
 unfold DA;split
 .rename_i h
  have e:((Av l).1.arg==a)=true:=by simpa using h.1
  rw[e,h.2];split
  .rw[Y3];simp[Dg]
  .simp[lA,Dg]
 .rename_i h
  have:((Av l).1.arg==a&&Br (Av l).1.path p)=false:=by
   cases hb:((Av l).1.arg==a&&Br (Av l).1.path p)with
   | false=>rfl
   | true=>rw[BD]at hb;exact absurd ⟨by simpa using hb.1,hb.2⟩ h
  rw[this];simp
def Mm (a:Int) (p:List Int): ∀(ls:List Fact) (k:Kn),(ls.foldl (DA a p) k).A0=(k.A0|| !EC ls a p)
 | [],k=>by simp[EC]
 | l::r,k=>by
   rw[List.foldl_cons,Mm a p r,Ue];simp only[EC,KK];generalize (r.all _)=x;generalize ((Av l).2||_)=y;cases k.A0<;>cases x<;>cases y<;>rfl
def Nj (ls:List Fact) (a:Int) (p:List Int):(kn ls a p).A0= !EC ls a p:=by rw[kn,Mm];rfl
def dz (l:List Int) (s x:Int):x∈JX l s↔x∈l\/x=s:=by
 unfold JX;split
 .rename_i h
  rw[List.contains_iff_mem]at h;constructor
  .exact .inl
  .rintro(h'|rfl)
   .exact h'
   .exact h
 .rw[(List.mergeSort_perm _ HO).mem_iff];simp
def Un {l:List Int} (s:Int) (h:l.Pairwise (· < ·)):(JX l s).Pairwise (· < ·):=by
 unfold JX;split
 .exact h
 .rename_i hc
  have hc':s∉l:=by simpa using hc
  have hp:=List.mergeSort_perm (l++[s]) HO;have h1:((l++[s]).mergeSort HO).Pairwise (fun a b=>HO a b=true):=List.pairwise_mergeSort (fun a b c=>by simp only[HO,CD];omega) (fun a b=>by simp only[HO,F1,CD];omega) _
  have h2:((l++[s]).mergeSort HO).Nodup:=hp.nodup_iff.2 (by
   rw[List.nodup_append];refine⟨h.imp fun hab=>by omega,by simp,fun a ha b hb=>?_⟩;simp only[LV]at hb;rintro rfl
   exact hc' (hb ▸ ha))
  exact(h1.and h2).imp fun⟨h3,h4⟩=>by
   simp only[HO,CD]at h3;omega
def LD: ∀ {l m:List Int},l.Pairwise (· < ·)->m.Pairwise (· < ·)->(∀x,x∈l↔x∈m)->l=m
 | [],[],_,_,_=>rfl
 | [],y::m,_,_,h=>absurd ((h y).2 (.head _)) (by simp)
 | x::l,[],_,_,h=>absurd ((h x).1 (.head _)) (by simp)
 | x ::l,y::m,h1,h2,h=>by
   rw[List.pairwise_cons]at h1 h2
   have hxy:x=y:=by
    rcases GK.1 ((h x).1 (.head _))with e|hx
    .exact e
    .rcases GK.1 ((h y).2 (.head _))with e|hy
     .exact e.symm
     .have:=h1.1 y hy
      have:=h2.1 x hx;omega
   subst hxy;congr 1;refine LD h1.2 h2.2 fun z=>?_
   constructor
   .intro hz
    rcases GK.1 ((h z).1 (.tail _ hz))with e|hz'
    .have:=h1.1 z hz;omega
    .exact hz'
   .intro hz
    rcases GK.1 ((h z).2 (.tail _ hz))with e|hz'
    .have:=h2.1 z hz;omega
    .exact hz'
def CT {path pre:List Int}:Br path pre=true↔ ∃t,path=pre++t:=by
 simp only[Br,BD,CD,EZ];constructor
 .rintro⟨_,h⟩
  exact⟨path.drop pre.length,by conv=>lhs;rw[<-List.take_append_drop pre.length path,h]⟩
 .rintro⟨t,rfl⟩
  simp
def XL {path p:List Int} {s:Int}:Br path (p++[s])=true↔Br path p=true/\path≠p/\path.getD p.length 0=s:=by
 rw[CT,CT];constructor
 .rintro⟨t,rfl⟩
  refine⟨⟨s::t,by simp⟩,fun e=>?_,by simp⟩;have:=congrArg List.length e;simp at this
 .rintro⟨⟨t,rfl⟩,hne,hs⟩
  cases t with
  | nil=>simp at hne
  | cons y t=>simp at hs;subst hs;exact⟨t,by simp⟩
def aG {a:Int} {p:List Int} {s:Int} {l:Fact}:Y8 a p s l=true↔(Av l).1.arg=a/\Br (Av l).1.path p=true/\(Av l).1.path≠p/\(Av l).1.path.getD p.length 0=s:=by
 rw[Y8,BD,XL,EZ]
def W7 (a:Int) (p:List Int) (k:Kn) (l:Fact):(DA a p k l).AG=if(Av l).1.arg=a/\Br (Av l).1.path p=true/\(Av l).1.path≠p then JX k.AG ((Av l).1.path.getD p.length 0)else k.AG:=by
 unfold DA;by_cases h1:(Av l).1.arg=a/\Br (Av l).1.path p=true
 .rw[if_pos h1]
  by_cases h2:(Av l).1.path=p
  .rw[if_pos h2,if_neg (fun h=>h.2.2 h2),S9];rfl
  .rw[if_neg h2,if_pos ⟨h1.1,h1.2,h2⟩];rfl
 .rw[if_neg h1,if_neg (fun h=>h1 ⟨h.1,h.2.1⟩)]
def Qp (a:Int) (p:List Int): ∀(ls:List Fact) (k:Kn),k.AG.Pairwise (· < ·)->(ls.foldl (DA a p) k).AG.Pairwise (· < ·)/\ ∀s,s∈(ls.foldl (DA a p) k).AG↔s∈k.AG\/ls.any (Y8 a p s)=true
 | [],k,h=>⟨h,fun s=>by simp⟩
 | l ::r,k,h=>by
   rw[List.foldl_cons];have e:=W7 a p k l
   have h1:(DA a p k l).AG.Pairwise (· < ·):=by
    rw[e];split
    .exact Un _ h
    .exact h
   obtain⟨i1,i2⟩:=Qp a p r _ h1;refine⟨i1,fun s=>?_⟩;rw[i2,e,Q7,F1,aG];split
   .rename_i hc
    rw[dz];constructor
    .rintro((h|rfl)|h)
     .exact .inl h
     .exact .inr (.inl ⟨hc.1,hc.2.1,hc.2.2,rfl⟩)
     .exact .inr (.inr h)
    .rintro(h|⟨-,-,-,h⟩|h)
     .exact .inl (.inl h)
     .exact .inl (.inr h.symm)
     .exact .inr h
   .rename_i hc
    constructor
    .rintro(h|h)
     .exact .inl h
     .exact .inr (.inr h)
    .rintro(h|⟨q1,q2,q3,-⟩|h)
     .exact .inl h
     .exact absurd ⟨q1,q2,q3⟩ hc
     .exact .inr h
def IB (n:Nat) (ls:List Fact):Prop:= ∀l∈ls,∀s∈(Av l).1.path,(0:Int)<=s/\s<n
def LH {n:Nat} {s:Int}:s∈Cq n↔0<=s/\s<n:=by
 simp only[Cq,Mt,List.mem_range];constructor
 .rintro⟨m,hm,rfl⟩
  exact⟨Int.natCast_nonneg m,by simpa using hm⟩
 .rintro⟨h0,h1⟩
  exact⟨s.toNat,by omega,by simp;omega⟩
def Ri (n:Nat):(Cq n).Pairwise (· < ·):=by
 rw[Cq,List.pairwise_map];exact List.pairwise_lt_range.imp fun h=>by simpa using h
def sa {n:Nat} {ls:List Fact} (h:IB n ls) {a:Int} {p:List Int} {s:Int} {l:Fact} (hl:l∈ls) (hg:Y8 a p s l=true):0<=s/\s<n:=by
 rw[aG]at hg;obtain⟨-,h2,h3,h4⟩:=hg;obtain⟨t,ht⟩:=CT.1 h2;refine h l hl s ?_;rw[ht]at h3 h4 ⊢;cases t with
 | nil=>simp at h3
 | cons y t=>simp at h4;subst h4;simp
def MQ {n:Nat} {ls:List Fact} (h:IB n ls) (a:Int) (p:List Int):(kn ls a p).AG=Bj n ls a p:=by
 obtain⟨h1,h2⟩:=Qp a p ls k0 .nil;refine LD h1 ((Ri n).filter _) fun s=>?_
 show s∈(ls.foldl (DA a p) k0).AG↔_;rw[h2,Bj,LX,LH];constructor
 .rintro(h|hs)
  .cases h
  .obtain⟨l,hl,hg⟩:=KM.1 hs
   exact⟨sa h hl hg,hs⟩
 .exact fun hs=> .inr hs.2
def Eo (os:List Fact) (k:Kn):Kn:=os.foldl (fun k l=>Cn k (Av l).1 (Av l).2) k
abbrev FL (k:Kn):Int×Int×List Int×Nat×Nat×Bool:=(k.low,k.high,k.no,k.B5,k.Gq,k.whole)
def WX {k k':Kn} (h:FL k=FL k') (f:Fact) (b:Bool):FL (Cn k f b)=FL (Cn k' f b):=by
 cases k;cases k';simp only[FL,Prod.mk.injEq]at h;obtain⟨rfl,rfl,rfl,rfl,rfl,rfl⟩:=h;unfold Cn
 (repeat' split)<;>rfl
def OV (p:List Int):Br p p=true:=CT.2 ⟨[],by simp⟩
def di (a:Int) (p:List Int) (k:Kn) (l:Fact):FL (DA a p k l)=if G4 a p l then FL (Cn k (Av l).1 (Av l).2)else FL k:=by
 unfold DA G4;by_cases h1:(Av l).1.arg=a
 .by_cases h2:(Av l).1.path=p
  .have e:((Av l).1.arg==a&&(Av l).1.path==p)=true:=by simp[h1,h2]
   rw[if_pos ⟨h1,by rw[h2];exact OV p⟩,if_pos h2,e,if_pos rfl];exact WX (k:=Dg k (Av l).2) (k':=k) rfl _ _
  .have e:((Av l).1.arg==a&&(Av l).1.path==p)=false:=by simp[h2]
   rw[if_neg h2,e,if_neg Bool.false_ne_true];split<;>rfl
 .have e:((Av l).1.arg==a&&(Av l).1.path==p)=false:=by simp[h1]
  rw[if_neg (fun h=>h1 h.1),e,if_neg Bool.false_ne_true]
def Nu (a:Int) (p:List Int): ∀(ls:List Fact) (k k':Kn),FL k=FL k'->FL (ls.foldl (DA a p) k)=FL (Eo (ls.filter (G4 a p)) k')
 | [],k,k',h=>h
 | l ::r,k,k',h=>by
   rw[List.foldl_cons,List.filter_cons];have e:=di a p k l;split
   .rename_i ho
    rw[if_pos ho]at e;exact Nu a p r _ _ (e.trans (WX h _ _))
   .rename_i ho
    rw[if_neg (by simpa using ho)]at e;exact Nu a p r _ _ (e.trans h)
def Oz (ls:List Fact) (a:Int) (p:List Int):FL (kn ls a p)=FL (Eo (ls.filter (G4 a p)) k0):=Nu a p ls k0 k0 rfl
def qG (x:Fact×Bool):Bool:= !(x.1.op==2)||(decide (x.1.cls > 1)==x.2)
def cE (x:Fact×Bool) (k:Kn):HV x (k.low,k.high,k.no)=if qG x then some ((Cn k x.1 x.2).low,(Cn k x.1 x.2).high,(Cn k x.1 x.2).no)else none:=by
 unfold HV qG Cn;by_cases h2:x.1.op=2
 .rw[if_pos h2,if_pos h2]
  cases x.2<;>cases decide (x.1.cls > 1)<;>simp[h2]
 .rw[if_neg h2,if_neg h2]
  by_cases h3:x.1.op=3
  .rw[if_pos h3,if_pos h3]
   cases x.2<;>simp[h2]
  .rw[if_neg h3,if_neg h3]
   cases x.2<;>simp[h2]
def Su: ∀(os:List Fact) (k:Kn),foldI os (k.low,k.high,k.no)=if os.all (fun l=>qG (Av l))then some ((Eo os k).low,(Eo os k).high,(Eo os k).no)else none
 | [],k=>rfl
 | l ::r,k=>by
   rw[foldI,cE,KK];cases hb:qG (Av l)with
   | false=>rfl
   | true=>
     rw[if_pos rfl,Option.bind_some,Su r,GJ];rfl
def ko (k:Kn) (f:Fact) (c:Bool) (b:Nat):(Cn k f c).B5.testBit b=(k.B5.testBit b||(f.op==2&& !c&&f.cls.toNat==b)):=by
 unfold Cn;by_cases h2:f.op=2
 .rw[if_pos h2]
  cases c<;>simp[h2,Nat.testBit_or,Nat.testBit_two_pow,Bool.beq_eq_decide_eq]
 .rw[if_neg h2]
  have:(f.op==2)=false:=by simpa using h2
  rw[this]
  repeat' split
  all_goals simp
def oX (k:Kn) (f:Fact) (c:Bool) (b:Nat):(Cn k f c).Gq.testBit b=(k.Gq.testBit b||(f.op==2&&c&&f.cls.toNat==b)):=by
 unfold Cn;by_cases h2:f.op=2
 .rw[if_pos h2]
  cases c<;>simp[h2,Nat.testBit_or,Nat.testBit_two_pow,Bool.beq_eq_decide_eq]
 .rw[if_neg h2]
  have:(f.op==2)=false:=by simpa using h2
  rw[this]
  repeat' split
  all_goals simp
def dx (k:Kn) (f:Fact) (c:Bool):(Cn k f c).whole=(k.whole||(!c&& !(f.op==2))):=by
 unfold Cn;by_cases h2:f.op=2
 .rw[if_pos h2]
  cases c<;>simp[h2]
 .rw[if_neg h2]
  have:(f.op==2)=false:=by simpa using h2
  rw[this];cases c<;>(repeat' split)<;>simp_all
def Nx: ∀(os:List Fact) (k:Kn) (b:Nat),(Eo os k).B5.testBit b=(k.B5.testBit b||os.any fun l=>(Av l).1.op==2&& !(Av l).2&&(Av l).1.cls.toNat==b)
 | [],k,b=>by simp[Eo]
 | l::r,k,b=>by
   have:=Nx r (Cn k (Av l).1 (Av l).2) b;rw[ko]at this;rw[Q7,<-Bool.or_assoc,<-this];rfl
def QE: ∀(os:List Fact) (k:Kn) (b:Nat),(Eo os k).Gq.testBit b=(k.Gq.testBit b||os.any fun l=>(Av l).1.op==2&&(Av l).2&&(Av l).1.cls.toNat==b)
 | [],k,b=>by simp[Eo]
 | l::r,k,b=>by
   have:=QE r (Cn k (Av l).1 (Av l).2) b;rw[oX]at this;rw[Q7,<-Bool.or_assoc,<-this];rfl
def LP: ∀(os:List Fact) (k:Kn),(Eo os k).whole=(k.whole||os.any fun l=> !(Av l).2&& !((Av l).1.op==2))
 | [],k=>by simp[Eo]
 | l::r,k=>by
   have:=LP r (Cn k (Av l).1 (Av l).2);rw[dx]at this;rw[Q7,<-Bool.or_assoc,<-this];rfl
def RP (m up:Nat):Bool:=(List.range 64).all fun b=> !m.testBit b||up.testBit b
def Pp {m up:Nat} (hm:m<2 ^ 64):RP m up=true↔ ∀b,m.testBit b=true->up.testBit b=true:=by
 simp only[RP,Er,List.mem_range,F1,Bool.not_eq_true'];constructor
 .intro h b hb
  have hlt:b<64:=by
   rcases Nat.lt_or_ge b 64 with h'|h'
   .exact h'
   .rw[Nat.testBit_lt_two_pow (Nat.lt_of_lt_of_le hm (Nat.pow_le_pow_right (by decide) h'))]at hb;cases hb
  rcases h b hlt with h'|h'
  .rw[hb]at h';cases h'
  .exact h'
 .intro h b _
  cases hb:m.testBit b with
  | false=>exact .inl rfl
  | true=>exact .inr (h b hb)
def QB {m n:Nat}:(m&&&n==0)=true↔ ∀b,m.testBit b=true->n.testBit b=true->False:=by
 rw[EZ];constructor
 .intro h b h1 h2
  have:=congrArg (fun x=>x.testBit b) h;simp[Nat.testBit_and,h1,h2]at this
 .intro h
  refine Nat.eq_of_testBit_eq fun b=>?_
  rw[Nat.testBit_and,Nat.zero_testBit];cases h1:m.testBit b with
  | false=>rfl
  | true=>
    cases h2:n.testBit b with
    | false=>rfl
    | true=>exact(h b h1 h2).elim
def Tz (c b:Nat):(1|||2 ^ c).testBit b=(b==0||b==c):=by
 rw[Nat.testBit_or,Nat.testBit_two_pow,show(1:Nat)=2 ^ 0 from rfl,Nat.testBit_two_pow];rw[KO];simp only[F1,CD,EZ];omega
def JM (n:Nat) (ls:List Fact):Prop:= ∀l∈ls,(Av l).1.op=2->0<=(Av l).1.cls/\(Av l).1.cls<n
def Qh {m n:Nat} (h: ∀b,m.testBit b=true->b<n):m<2 ^ n:=by
 refine Nat.lt_pow_two_of_testBit _ fun i hi=>?_
 cases hb:m.testBit i with
 | false=>rfl
 | true=>have:=h i hb;omega
def UD {os:List Fact} {n:Nat} (h:JM n os):(Eo os k0).B5<2 ^ n:=Qh fun b hb=>by
 rw[Nx]at hb;simp only[k0,Nat.zero_testBit,Bool.false_or,KM,BD,EZ]at hb;obtain⟨l,hl,⟨h2,-⟩,rfl⟩:=hb;have:=h l hl h2;omega
def rY {os:List Fact} {n:Nat} (h:JM n os):(Eo os k0).Gq<2 ^ n:=Qh fun b hb=>by
 rw[QE]at hb;simp only[k0,Nat.zero_testBit,Bool.false_or,KM,BD,EZ]at hb;obtain⟨l,hl,⟨h2,-⟩,rfl⟩:=hb;have:=h l hl h2;omega
def MO {os:List Fact} {b:Nat}:(Eo os k0).B5.testBit b=true↔ ∃l∈os,(Av l).1.op=2/\(Av l).2=false/\(Av l).1.cls.toNat=b:=by
 rw[Nx];simp only[k0,Nat.zero_testBit,Bool.false_or,KM,BD,EZ,Bool.not_eq_true',and_assoc]
def Zx {os:List Fact} {b:Nat}:(Eo os k0).Gq.testBit b=true↔ ∃l∈os,(Av l).1.op=2/\(Av l).2=true/\(Av l).1.cls.toNat=b:=by
 rw[QE];simp only[k0,Nat.zero_testBit,Bool.false_or,KM,BD,EZ,and_assoc]
def cR {os:List Fact} {n:Nat} (hn:n<=64) (h:JM n os):(RP (Eo os k0).B5 (1|||2 ^ 1)&&((Eo os k0).Gq&&&(1|||2 ^ 1)==0))=os.all fun l=>qG (Av l):=by
 rw[KO,BD,Pp (Nat.lt_of_lt_of_le (UD h) (Nat.pow_le_pow_right (by decide) hn)),QB];simp only[MO,Zx,Tz,Er,qG,F1,Bool.not_eq_true',beq_eq_false_iff_ne,EZ,ne_eq];constructor
 .rintro⟨h1,h2⟩ l hl
  by_cases ho:(Av l).1.op=2
  .right
   have hc:=h l hl ho;cases hb:(Av l).2 with
   | false=>
     have:=h1 _ ⟨l,hl,ho,hb,rfl⟩;rw[decide_eq_false_iff_not];omega
   | true=>
     rw[CD];rcases Int.lt_or_le 1 (Av l).1.cls with hlt|hle
     .exact hlt
     .exact(h2 _ ⟨l,hl,ho,hb,rfl⟩ (by omega)).elim
  .exact .inl ho
 .intro h1
  constructor
  .rintro b ⟨l,hl,ho,hb,rfl⟩
   rcases h1 l hl with h'|h'
   .exact absurd ho h'
   .have hc:=h l hl ho
    rw[hb,decide_eq_false_iff_not]at h';omega
  .rintro b ⟨l,hl,ho,hb,rfl⟩ hu
   rcases h1 l hl with h'|h'
   .exact absurd ho h'
   .have hc:=h l hl ho
    rw[hb,CD]at h';omega
def cC (x:Fact×Bool):(!Il x)=true↔(x.2=false->x.1.op=2/\(x.1.cls=0\/x.1.cls=2))/\(x.2=true-> ¬(x.1.op=2/\(x.1.cls=0\/x.1.cls=2))):=by
 have e:(x.1.op==2&&(x.1.cls==0||x.1.cls==2))=true↔x.1.op=2/\(x.1.cls=0\/x.1.cls=2):=by
  simp only[BD,F1,EZ]
 rw[<-e,Il];generalize (x.1.op==2&&(x.1.cls==0||x.1.cls==2))=y;cases x.2<;>cases y<;>simp
def bz {os:List Fact}:(!(Eo os k0).whole)=true↔ ∀l∈os,(Av l).2=false->(Av l).1.op=2:=by
 rw[LP,Bool.not_eq_true',<-Bool.not_eq_true];simp only[k0,Bool.false_or,KM,BD,Bool.not_eq_true',beq_eq_false_iff_ne];constructor
 .intro h l hl hb
  rcases Classical.em ((Av l).1.op=2)with e|e
  .exact e
  .exact absurd ⟨l,hl,hb,e⟩ h
 .rintro h ⟨l,hl,hb,e⟩
  exact e (h l hl hb)
def YR {os:List Fact} {n:Nat} (hn:n<=64) (h:JM n os):(!(Eo os k0).whole&&(RP (Eo os k0).B5 (1|||2 ^ 2)&&((Eo os k0).Gq&&&(1|||2 ^ 2)==0)))=os.all fun l=> !Il (Av l):=by
 rw[KO,BD,BD,Pp (Nat.lt_of_lt_of_le (UD h) (Nat.pow_le_pow_right (by decide) hn)),QB,bz,Er];simp only[MO,Zx,Tz,F1,EZ,cC];constructor
 .rintro⟨h0,h1,h2⟩ l hl
  refine⟨fun hb=>?_,fun hb ⟨ho,hc⟩=>h2 _ ⟨l,hl,ho,hb,rfl⟩ (by omega)⟩;have ho:=h0 l hl hb;have hc:=h l hl ho;have:=h1 _ ⟨l,hl,ho,hb,rfl⟩;exact⟨ho,by omega⟩
 .intro h1
  refine⟨fun l hl hb=>((h1 l hl).1 hb).1,?_,?_⟩
  .rintro b ⟨l,hl,ho,hb,rfl⟩
   have:=((h1 l hl).1 hb).2;omega
  .rintro b ⟨l,hl,ho,hb,rfl⟩ hu
   have hc:=h l hl ho;exact(h1 l hl).2 hb ⟨ho,by omega⟩
def NV {no:List Int}: ∀(k:Nat) (m:Int),(TO no k m).isSome=true↔ ∃j:Nat,j<k/\m+j∉no
 | 0,m=>by simp[TO]
 | k + 1,m=>by
   rw[TO];split
   .rename_i h
    simp only[Option.isSome_some,true_iff];refine⟨0,by omega,fun hm=>?_⟩;rw[Er]at h;have:=h _ hm;simp at this
   .rename_i h
    rw[NV k]
    have hm:m∈no:=by
     rcases Classical.em (m∈no)with h'|h'
     .exact h'
     .refine absurd (Er.2 fun x hx=>?_) h
      rw[zD];rintro rfl;exact h' hx
    constructor
    .rintro⟨j,hj,h'⟩
     exact⟨j+1,by omega,by rw[show m+((j+1:Nat):Int)=m+1+j by omega];exact h'⟩
    .rintro⟨j,hj,h'⟩
     cases j with
     | zero=>simp at h';exact absurd hm h'
     | succ j=>exact⟨j,by omega,by rw[show m+1+(j:Int)=m+((j+1:Nat):Int) by omega];exact h'⟩
def il {low high n:Int} {no:List Int} (h0:low<=n) (h1:n∉no) (h2: ∀m,low<=m->m<n->m∈no):(PK (low,high,no)).isSome=decide (n<=high):=by
 rw[KO,PK,NV,CD];constructor
 .rintro⟨j,hj,h⟩
  rcases Int.lt_or_le (low+j) n with hlt|hle
  .exact absurd (h2 _ (by omega) hlt) h
  .simp only at hj;omega
 .intro h
  refine⟨(n - low).toNat,by simp only;omega,?_⟩;rw[show low+((n - low).toNat:Int)=n by omega];exact h1
end Go.Gl
