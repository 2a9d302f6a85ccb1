import Derived.Test.YtcfkfhaedllcpaaGreatV14
import Derived.Test.YtcfkfhaedllcpaaGreatV22
import Derived.Test.YtcfkfhaedllcpaaGreatV26
import Derived.Test.YtcfkfhaedllcpaaGreatV27
import Derived.Test.YtcfkfhaedllcpaaGreatV28
import Derived.Test.YtcfkfhaedllcpaaGreatV30
set_option linter.all false
set_option linter.defProp false
set_option maxHeartbeats 8000000
noncomputable section
namespace Go.Gl
open Go.Proofs
attribute [local irreducible] A6 Ar Ah AR AI Ae AQ AT AK Ad AN AO Ay A7 Sat AY A5 Ai W
def sb {w:AH} (f:Fact) (hn:Bk w f=true) (hv:lv f<=100) (c:Bool) {S:Type} {fn:Fn} {fi ca:List V} {H:S->List At} {stp:List Fact->S->Bool×S} {D:List Fact->S->Prop} {s:S} (hT: ∀nW,R1 (.f fn fi ca) (fun s=> .box nW [VG nW]::H s) stp D) (hd:Us stp D (BG f c) s) (Z:AE) (hs:Sat Z (H s)) :
    A6 zP 391 [.f fn fi ca,.rp (xF f),.rp [.b c]] Z fun r Z'=>r= .ret (.t [])/\Sat Z' (H (Ch stp (BG f c) s).2):=by
 refine tN kZ ?_
 conv=>whnf
 repeat'((first|clear U K|apply st|(apply zk;intro K U)|refine zY ?_|refine zs fun Z hs=>?_|refine zo fun nn hnn Z hs=>?_|fail)<;>conv=>whnf)
 refine(lu f hn hv c S fn fi ca H stp D nn s (hT nn) hd Z hs).mono ?_;clear hs;rintro r Z ⟨rfl,hs⟩
 conv=>whnf
 repeat'((first|clear U K|apply st|fail)<;>conv=>whnf)
 exact AU ⟨rfl,hs.less (LW _ _)⟩
def kS (f:Fact) (c:Bool):Pure zP 387 [.a (xF f),.b c] (.f (.func 391) [] [.rp (xF f),.rp [.b c]]):=by
 refine tR kZ ?_;have hs:=Sn;exact zW
abbrev PA (w:AH) (l:List Fact) (s:Bool):Bool×Bool:=if G7 w l then(false,true)else(true,s)
def We {w:AH}: ∀(cs:List (List Fact)),Ch (PA w) cs false=(!cs.any (G7 w),cs.any (G7 w))
 | []=>rfl
 | l::r=>by
   rw[Ch,Q7];simp only[PA];cases h:G7 w l
   .simpa using We r
   .rfl
def Zv {w:AH} {G:List Fact->Prop}: ∀ {cs:List (List Fact)},(∀l∈cs,G l)->Us (PA w) (fun l s=>s=false/\G l) cs false
 | [],_=>trivial
 | l ::r,h=>⟨⟨rfl,h l (.head _)⟩,fun hy=>by
     cases ht:G7 w l
     .have e:(PA w l false).2=false:=by simp[PA,ht]
      rw[e];exact Zv fun x hx=>h x (.tail _ hx)
     .simp[PA,ht]at hy⟩
abbrev wx (w:AH) (L:Nat) (E:Env) (ok:FuncId->Array Tmp->Code->Code->Nat->Prop) (nF:Nat):Prop:=
 NO zP L E ok (fun(x:List Fact×Bool)=>[Xc x.1 x.2]) (fun s:Bool=>[.box nF [.b s]]) (fun _=>True) (fun x s=>if G7 w x.1 then .stop (.exit 0) true else .go s) (fun x s=>s=false/\(∀y∈x.1,I8 w y)/\x.1.length<900)
def nZ {w:AH} (f:Fact) (hn:Bk w f=true) (hv:lv f<=100) {L:Nat} {E:Env} {ok:FuncId->Array Tmp->Code->Code->Nat->Prop} {nF:Nat} (hY:wx w L E ok nF) (Z:AE) (hs:Sat Z [.obj L (.loop .ready E ok),.box nF [.b false]]) :
    A6 zP 391 [.f (.yield L) [] [],.rp (xF f),.rp [.b false]] Z fun r Z'=>r= .ret (.t [])/\Sat Z' [.obj L (.loop (if RT w f then .exit 0 else .ready) E ok),.box nF [.b (RT w f)]]:=by
 have hg:=sb f hn hv false (fn:= .yield L) (fi:=[]) (ca:=[]) (H:=fun s:Bool=>[.obj L (.loop (if s then .exit 0 else .ready) E ok),.box nF [.b s]]) (stp:=PA w) (D:=fun l s=>s=false/\(∀y∈l,I8 w y)/\l.length<900) (s:=false) (by
  rintro nW b l s ⟨rfl,hl,hlen⟩ Z hs;refine hY.use (y:=(l,b)) (s:=false) ⟨rfl,hl,hlen⟩ (rest:=[.box nW [VG nW]]) (hs.perm (Lj _ _ _ _)) ?_;intro r Z' hq;cases ht:G7 w l
  .simp only[ht,KQ,if_false]at hq
   obtain⟨rfl,hs'⟩:=hq;have e:PA w l false=(true,false):=by simp[PA,ht]
   rw[e];exact⟨rfl,hs'.perm (Lj _ _ _ _).symm⟩
  .simp only[ht,if_true]at hq
   obtain⟨rfl,hs'⟩:=hq;have e:PA w l false=(false,true):=by simp[PA,ht]
   rw[e]
   exact⟨rfl,hs'.perm (Lj _ _ _ _).symm⟩) (Zv fun l hl=>⟨Ei f hn false l hl,by have:=(EY f (Cu _ hn) false).2 l hl;omega⟩) Z hs
 rw[We]at hg;exact hg
def wb (w:AH) (hw:D2 w) (f:Fact) (hn:Bk w f=true) (hv:lv f<=100):Pure zP 371 [.rp (wC w (Es w.parents)),.a (xF f)] (.b (RT w f)):=by
 refine Pure.of ?_;refine tZ kZ ?_;have hs:=Sn
 conv=>whnf
 repeat'((first|clear U K|apply st|(apply zk;intro K U)|refine zY ?_|refine zs fun Z hs=>?_|refine Pure.use (kS _ _) ?_|refine zo fun nn hnn Z hs=>?_|fail)<;>conv=>whnf)
 rename_i _ nF hnF _ _ _ _;refine A6.mono (nZ (w:=w) f hn hv (L:=nn) (nF:=nF) ?_ Z hs) ?_
 .refine OH (fun y=>rfl) ?_
  clear hs hnn hnF;rintro⟨l,b⟩ s ⟨rfl,hl,hlen⟩ rest Z hs;dsimp only at hl hlen;have htg:=Wn w hw l b hl hlen;dsimp only;cases ht:G7 w l<;>rw[ht]at htg
  .conv=>whnf
   repeat'((first|clear U K|apply st|(apply zk;intro K U)|refine htg.use ?_|fail)<;>conv=>whnf)
   intro hn;exact Vx (H:=fun s:Bool=>[.box nF [.b s]]) (J:=fun _=>True) (s:=false) rfl hs hn
  .conv=>whnf
   repeat'((first|clear U K|apply st|(apply zk;intro K U)|refine zs fun Z hs=>?_|refine htg.use ?_|fail)<;>conv=>whnf)
   intro hn;exact YI (H:=fun s:Bool=>[.box nF [.b s]]) (J:=fun _=>True) (s:=true) (st:= .exit 0) rfl hs hn
 .clear hs hnn hnF
  cases hp:RT w f
  .rintro r Z ⟨rfl,hs⟩
   refine Pr hs fun Z hs=>?_
   refine zz ?_;(repeat clear U K);repeat intro K U
   exact AU (by rw[hp])
  .rintro r Z ⟨rfl,hs⟩
   refine YL hs fun Z hs=>?_
   refine zz ?_;(repeat clear U K);repeat intro K U
   exact AU (by rw[hp])
def rX (f:Fact):Pure zP 373 [.a (xF f)] (.a (xF (Fi f))):=by
 refine tX kZ ?_;have hs:=Sn
 conv=>whnf
 repeat'((first|clear U K|apply st|(apply zk;intro K U)|refine zX ?_|refine zr fun Z hs=>?_|refine zp fun nn hnn Z hs=>?_|fail)<;>conv=>whnf)
 refine Ab (.a (.cons (.refl _) (.cons (.refl _) (.cons II (.cons (.refl _) (.cons (.refl _) (.cons ?_ .nil)))))));refine .l (fun h=>by cases h) ?_;simp only[Fi,Fact.kids,List.map,BX];exact Eg _
def wh (f g:Fact):Pure zP 372 [.a (xF f),.a (xF g)] (.a (xF (Of f g))):=by
 refine tY kZ ?_;have hs:=Sn
 conv=>whnf
 repeat'((first|clear U K|apply st|(apply zk;intro K U)|refine zX ?_|refine zr fun Z hs=>?_|refine zp fun nn hnn Z hs=>?_|fail)<;>conv=>whnf)
 refine Ab (.a (.cons (.refl _) (.cons (.refl _) (.cons II (.cons (.refl _) (.cons (.refl _) (.cons ?_ .nil)))))));refine .l (fun h=>by cases h) ?_;simp only[Of,Fact.kids,List.map,BX];exact Eg _
def YY (w:AH) (hw:D2 w) (a b:Fact) (ha:Bk w a=true) (hb:Bk w b=true) (hl:lv a+lv b<=100):Pure zP 341 [.rp (wC w (Es w.parents)),.a (xF a),.a (xF b)] (.b (TX w a b)):=by
 have hcan:=wb w hw (Of a (Fi b)) (Pt ha hb) (by rw[gN];exact hl);refine ts kZ ?_;have hs:=Sn
 conv=>whnf
 repeat'((first|clear U K|apply st|(apply zk;intro K U)|refine zY ?_|refine rk ?_ ?_|exact fun s e=>by cases e;rfl|refine Pure.use (rX _) ?_|refine Pure.use (wh _ _) ?_|refine hcan.use ?_|fail)<;>conv=>whnf)
 all_goals exact AF rfl
def eG (w:AH) (hw:D2 w) (a b:Fact) (ha:DC w a=true) (hb:DC w b=true) (hna:Bk w a=true) (hnb:Bk w b=true) (hl:lv a+lv b<=100):Pure zP 307 [.a (A1 w),.a (xF a),.a (xF b)] (.t [.b (TX w a b),eI 0]):=by
 have hrd: ∀f,Pure zP 266 [.a (A1 w),.l [xF a,xF b] f] (.t [.rp (wC w (Es w.parents)),.b true]):=fun f=>by
  have:=Zk w hw [a,b] f (by simp);rw[show([a,b].all (Lm w))=true by simp[aK,ha,hb]]at this;simpa[BX]using this
 have hip:=YY w hw a b hna hnb hl;refine uM kZ ?_;have hs:=Sn
 conv=>whnf
 repeat'((first|clear U K|apply st|(apply zk;intro K U)|refine zY ?_|refine Pure.use (hrd _) ?_|refine hip.use ?_|fail)<;>conv=>whnf)
 all_goals exact AF rfl
def mT (a:Int) (n:Nat) (h1:1<=n) (hn:n<=120):Be zP 96 [.l [[eI a]] true,eI n] [] fun r post=> ∃v,r= .ret v/\post= [.own v 1 (iL (List.replicate n a))]/\(Bg v).isSome=true:=by
 intro Z hs;have hM:=Mx;have hw1:IntKind.u64.wrap 1=1:=rfl;have hwn:IntKind.u64.wrap (n:Int)=n:=Hg (by omega);have hwi:IntKind.i64.wrap (n:Int)=n:=wrap64 (by omega) (by omega);refine yd kZ ?_
 conv=>whnf
 repeat'((first|clear U K|apply st|(apply zk;intro K U)|refine zY ?_|(refine zb (fun hc=>?_) (fun hc=>?_)<;>try exact⟨⟩)|fail)<;>conv=>whnf)
 rw[show IntKind.u64.wrap (([[eI a]]:List (List V)).length:Nat)=1 from rfl,hwn];refine(sA n hn).use ?_
 conv=>whnf
 repeat'((first|clear U K|apply st|(apply zk;intro K U)|refine zY ?_|(refine zb (fun hc=>?_) (fun hc=>?_)<;>try exact⟨⟩)|fail)<;>conv=>whnf)
 all_goals try(exfalso;omega)
 rw[hwi];refine lX hs (I3 n) (by omega) fun v Z hs hv=>?_
 obtain⟨id,rfl⟩:=hv
 conv=>whnf
 repeat'((first|clear U K|apply st|(apply zk;intro K U)|fail)<;>conv=>whnf)
 refine yU hs 0 (ys:=[[eI a]]) rfl (by simp;omega) (fun e he=>by simp at he;subst he;rfl) (fun e he v hv=>by simp at he;subst he;simp at hv;subst hv;rfl) fun Z hs=>?_
 have hst:([[eI a]]:List (List V))++(List.replicate n [V.i .i64 0]).drop ([[eI a]]:List (List V)).length=List.replicate 1 [eI a]++List.replicate (n - 1) [eI 0]:=by simp[List.drop_replicate]
 rw[hst]at hs;refine zz ?_;(repeat clear U K);repeat intro K U
 refine DF (fun m:Nat=>n - m) (fun m=>[(8,eI m)]) (fun m=>[.own (.sl id n n) 1 (List.replicate m [eI a]++List.replicate (n - m) [eI 0])]) (fun m=>1<=m/\m<=n) 1 rfl ⟨by omega,h1⟩ hs ?_;clear hs hst;rintro m Z ⟨hm1,hmn⟩ hs
 have hgl: ∀e∈(List.replicate m [eI a]++List.replicate (n - m) [eI 0]:List (List V)),e.length=1/\ ∀v∈e,CE v=true:=fun e he=>by
  rcases FC.1 he with he|he
  .rw[(List.mem_replicate.1 he).2];exact⟨rfl,fun v hv=>by simp at hv;subst hv;rfl⟩
  .rw[(List.mem_replicate.1 he).2];exact⟨rfl,fun v hv=>by simp at hv;subst hv;rfl⟩
 have hlen:(List.replicate m [eI a]++List.replicate (n - m) [eI 0]:List (List V)).length=n:=by simp;omega
 rcases Nat.lt_or_ge m n with hlt|hge
 .have hcpy:(List.replicate m [eI a]++List.replicate (n - m) [eI 0]:List (List V)).take m++(((List.replicate m [eI a]++List.replicate (n - m) [eI 0]:List (List V)).take m).take (min m (n - m))++(List.replicate m [eI a]++List.replicate (n - m) [eI 0]:List (List V)).drop (m+min m (n - m)))=List.replicate (m+min m (n - m)) [eI a]++List.replicate (n - (m+min m (n - m))) [eI 0]:=by
   have e1:(List.replicate m [eI a]++List.replicate (n - m) [eI 0]:List (List V)).take m=List.replicate m [eI a]:=by
    rw[List.take_append_of_le_length (by simp)];simp
   rw[e1,List.take_replicate,List.drop_append,List.drop_replicate,List.drop_replicate,List.length_replicate,<-XO,List.replicate_append_replicate];have e2:m - (m+min m (n - m))=0:=by omega
   have e3:n - m - (m+min m (n - m) - m)=n - (m+min m (n - m)):=by omega
   rw[e2,e3,List.replicate_zero,List.nil_append];congr 2;omega
  conv=>whnf
  repeat'((first|clear U K|apply st|(apply zk;intro K U)|refine zY ?_|(refine zb (fun hc=>?_) (fun hc=>?_)<;>try exact⟨⟩)|fail)<;>conv=>whnf)
  all_goals try(exfalso;omega)
  refine eg ?_;refine zz ?_;(repeat clear U K);repeat intro K U
  refine qQ ?_;refine zz ?_;(repeat clear U K);repeat intro K U
  rw[JC,show((n:Int) - m).toNat=n - m by omega];refine yT hs 0 rfl (by rw[hlen];omega) (by rw[hlen];omega) (fun e he=>(hgl e he).1) (fun e he=>(hgl e he).2) fun Z hs=>?_
  rw[hcpy]at hs;refine zz ?_;(repeat clear U K);repeat intro K U
  refine⟨m+min m (n - m),by omega,?_,⟨by omega,by omega⟩,hs⟩;rw[wrap64 (by omega) (by omega)];rfl
 .have hme:m=n:=by omega
  subst hme
  conv=>whnf
  repeat'((first|clear U K|apply st|(apply zk;intro K U)|refine zY ?_|(refine zb (fun hc=>?_) (fun hc=>?_)<;>try exact⟨⟩)|fail)<;>conv=>whnf)
  all_goals try(exfalso;omega)
  refine Am hs (List.Sublist.refl _) (.refl _) fun Z' hs'=>⟨_,⟨_,rfl,?_,rfl⟩,hs'⟩
  simp[iL]
def cK (n:Nat) (h1:1<=n) (hn:n<=120):Be zP 96 [.l [[eI (-1)]] true,eI n] [] fun r post=> ∃v,r= .ret v/\post= [.own v 1 (iL (List.replicate n (-1)))]/\(Bg v).isSome=true:=mT (-1) n h1 hn
def MU {p:Prog} (h:A8 p=true):D2 (AS p)/\Bl p.AJ<=40/\p.AJ.length<=10:=by
 have h1:=h;rw[Qx]at h1;simp only[BD,CD]at h1;have h2:=h;simp only[A8,BD,CD]at h2;have hm:=(FT _ _ h2.2.1).1;refine⟨⟨jo (Ds h1.2.2.2.1),?_,fun o ho=>?_⟩,by omega,h1.1⟩
 .rw[AS,CU];omega
 .have:=F9 ho
  simp only[AS,Ax,BL];omega
def lB (s:List Int):Prop:= ∀x∈s,(-1:Int)<=x
def na {s:List Int} (h:lB s) (i:Nat) {x:Int} (hx:0<=x):lB (s.set i x):=fun y hy=>by
 rcases List.mem_or_eq_of_mem_set hy with hy|rfl
 .exact h y hy
 .omega
def WC {f:Int->Int->List Int->Option (List Int)} (hf: ∀ {a b s s'},0<=b->f a b s=some s'->lB s->lB s') {op size:Int} (h0:0<=size): ∀(i:Nat) (l:List Int) {s s':List Int},Fl f op size i l s=some s'->lB s->lB s'
 | _,[],s,s',h,hs=>by cases h;exact hs
 | i,k::r,s,s',h,hs=>by
   simp only[Fl]at h;split at h
   .cases h
   .rename_i s1 h1
    refine WC hf h0 (i+1) r h (hf ?_ h1 hs);split<;>omega
def MA {p:Prog} {next:Bool}: ∀(d:Nat) {n size:Int} {s s':List Int},0<=size->CK p next d n size s=some s'->lB s->lB s'
 | 0,_,_,_,_,_,h,_=>by cases h
 | d + 1,n,size,s,s',h0,h,hs=>by
   simp only[CK]at h;split at h
   .cases h
   .split at h
    .cases h
    .split at h
     .exact WC (fun hb h hs=>MA d hb h hs) h0 0 _ h (na hs _ h0)
     .cases h
def nc {s:List Int} (h:lB s):(s.all fun n=>decide (0<=n))= !s.contains (-1):=by
 rw[KO];simp only[Er,CD,Bool.not_eq_true',<-Bool.not_eq_true,List.contains_iff_mem];constructor
 .intro h1 h2
  have:=h1 _ h2;omega
 .intro h1 x hx
  have:=h x hx;rcases Int.lt_or_le x 0 with hlt|hle
  .exact absurd ((show x= -1 by omega) ▸ hx) h1
  .exact hle
def xB (p:Prog) (nO:Nat) (r:R) (Z:AE):Prop:=
 match BW p with
 | some s=>r= .ret (.t [])/\ ∃v,Sat Z [.box nO [v],.own v 1 (iL s)]
 | none=>r= .Bd Dp/\ ∃v s,Sat Z [.box nO [v],.own v 1 (iL s)]
def bN {p:Prog} {nO:Nat} {Z:AE} {v:V} {s:List Int} {l:List At} (h:BW p=none) (hs:Sat Z l) (hsub: [At.box nO [v],.own v 1 (iL s)].Sublist l):Ah Z Dp (xB p nO):=DJ (by
 rw[xB,h]
 exact⟨rfl,v,s,hs.less hsub⟩)
def szT {p:Prog} {nO:Nat} {Z:AE} {v:V} {s:List Int} {l:List At} (h:BW p=some s) (hs:Sat Z l) (hsub: [At.box nO [v],.own v 1 (iL s)].Sublist l):Ar Z (.t []) (xB p nO):=AU (by
 rw[xB,h]
 exact⟨rfl,v,hs.less hsub⟩)
def Tl {p:Prog} (h:C2 p=false):BW p=none:=by unfold BW;rw[h];rfl
def oY {w:AH} {f:Fact} (h:DC w f=true):R0 f=true:=Qb (w:=w) f (by simp only[DC,BD]at h;exact h.2.2)
def Yh {w:AH} (hw:D2 w) (f:Fact):Pure zP 204 [.a (A1 w),.a (xF f)] (eI (if DC w f then 0 else 2)):=by
 rw[<-aK];exact eH w hw f
def cS {α:Type} (a b c:α): [a,b,c].Perm [c,b,a]:=by simpa using(List.reverse_perm [a,b,c]).symm
def iv (p : Prog) (nO:Nat) (Z:AE) (hs:Sat Z [.box nO [.l [] true]]):A6 zP 196 [.rp (BK p),.p nO 0] Z (xB p nO):=by
 refine A6.fit (by kernel_rfl) fun hf=>?_
 have hM:=Mx
 have hfp:Eu (.a (BK p)):=by
  have:=hf.1;simp only[UR]at this;simpa only[GV]using this
 have⟨p1,p2,p3,p4⟩:=Ev hfp;refine vR kZ ?_;have hcl:=Y0 p;replace hs:Sat Z [.box nO [.l [] true],.own (.l [] true) 1 (iL [])]:=FA hs 1;cases hcB:A8 p with
 | false=>
   rw[hcB]at hcl
   conv=>whnf
   repeat'((first|apply st|(apply sq;intro K U)|(apply si;intro A B hA hB)|refine⟨kZ,?_⟩|fail)<;>conv=>whnf)
   refine hcl.use (pre:=[]) (rest:=[.box nO [.l [] true],.own (.l [] true) 1 (iL [])]) hs ?_;rintro r post Z ⟨rfl,rfl⟩ hs
   conv=>whnf
   repeat'((first|(refine hB _ _ _ ?_;clear hB B hA A)|clear U K)<;>conv=>whnf)
   exact bN (Tl (by simp[C2,hcB])) hs (.refl _)
 | true=>
   rw[hcB]at hcl;obtain⟨hgW,hmS,h10⟩:=MU hcB
   conv=>whnf
   repeat'((first|apply st|(apply sq;intro K U)|(apply si;intro A B hA hB)|refine⟨kZ,?_⟩|fail)<;>conv=>whnf)
   refine hcl.use (pre:=[]) (rest:=[.box nO [.l [] true],.own (.l [] true) 1 (iL [])]) hs ?_;clear hs;rintro r post Z ⟨rfl,rfl⟩ hs
   conv=>whnf
   repeat'((first|apply st|(apply sq;intro K U)|(apply si;intro A B hA hB)|(refine hA _ _ ?_;clear hB B hA A)|(refine hB _ _ _ ?_;clear hB B hA A)|(apply U;clear U K)|refine⟨rfl,?_⟩|(refine Cm (fun hc=>?_) (fun hc=>?_)<;>(replace hc:=bp hc)<;>(try simp(disch:=omega) only[BL,wrap64,AM]at hc)<;>(try(cases hc;done)))|(constructor<;>intro hc<;>(try rw[hc])<;>(replace hc:=bp hc)<;>(try simp(disch:=omega) only[BL,wrap64,AM]at hc))|clear U K)<;>conv=>whnf)
   rotate_left
   all_goals first
    | exact bN (Tl (by simp[C2, *];intros;omega)) hs (.refl _)
    | skip
   have a1:p.CW.length<=8:=by omega
   have a2:p.methods.length<=16:=by omega
   have a3:1<=p.nodes.length:=by omega
   have a4:p.nodes.length<=120:=by omega
   have hg:C2 p=p.CW.all fun g=>decide (1<=g)&&decide (g<=3):=by
    simp only[C2,a1,a2,a3,a4,decide_true,GJ];simp[*]
   refine By p.CW.length (fun k (_:Unit)=>[(36,eI (A9 k))]) (fun _ _=>[.box nO [.l [] true],.own (.l [] true) 1 (iL [])]) (fun k _=>C2 p=(p.CW.drop k).all fun g=>decide (1<=g)&&decide (g<=3)) () rfl (by simpa using hg) hs ?_;clear hs hg;rintro k - Z hk hn hs;rcases A3 p.CW hk with⟨g,hgk,hlt⟩|hke
   .rw[drop_cons hgk,KK]at hn
    conv=>whnf
    repeat'((first|apply st|(apply sq;intro K U)|(apply si;intro A B hA hB)|(refine hA _ _ ?_;clear hB B hA A)|(refine hB _ _ _ ?_;clear hB B hA A)|(apply U;clear U K)|refine⟨rfl,?_⟩|refine ix ?_|(refine OY (fun hc=>?_)<;>(try rw[hc])<;>clear hc)|(refine Cm (fun hc=>?_) (fun hc=>?_)<;>(replace hc:=bp hc)<;>(try simp(disch:=omega) only[BL,wrap64,AM]at hc)<;>(try(cases hc;done)))|(constructor<;>intro hc<;>(try rw[hc])<;>(replace hc:=bp hc))|clear U K)<;>conv=>whnf)
    .exact⟨hlt,(),rfl,by rw[hn];simp[*],hs⟩
    .exact bN (Tl (by rw[hn,decide_eq_false (show¬g<=3 by omega)];simp)) hs (.refl _)
    .exact bN (Tl (by rw[hn,decide_eq_false (show¬1<=g by omega)];simp)) hs (.refl _)
   .have hh : C2 p=true:=by rw[hn,Al hke];rfl
    have hL:=Z1 hh;clear hn
    conv=>whnf
    repeat'((first|apply st|(apply sq;intro K U)|(apply si;intro A B hA hB)|(refine hA _ _ ?_;clear hB B hA A)|(apply U;clear U K)|refine⟨rfl,?_⟩|(refine XQ (fun hc=>?_)<;>(try rw[hc])<;>clear hc)|clear U K)<;>conv=>whnf)
    rw[BL];refine(cK p.nodes.length a3 a4).use (pre:=[]) (rest:=[.box nO [.l [] true],.own (.l [] true) 1 (iL [])]) hs ?_;clear hs;rintro r post Z ⟨v,rfl,rfl,hv⟩ hs
    conv=>whnf
    repeat'((first|apply st|(apply sq;intro K U)|(apply si;intro A B hA hB)|(refine hA _ _ ?_;clear hB B hA A)|(apply U;clear U K)|refine⟨kZ,?_⟩|refine zG fun Z hs=>?_|refine Gk fun Z hs=>?_|refine Pure.use (Vg p (by omega) (by omega)) ?_|(intro nn hnn;generalize hg:BV _ nn _=Z;refine G5 hg fun hs=>?_;clear hg)|fail)<;>conv=>whnf)
    rename_i nw hnw _ hs;generalize nn=n5 at *;replace hs:=hs.less (show [At.box n5 (A1 (AS p)),.own v 1 (iL (List.replicate p.nodes.length (-1))),.box nO [v]].Sublist _ from .cons₂ _ (.cons₂ _ (.cons₂ _ (.cons _ .slnil))));refine By p.methods.length (fun k (s:List Int)=>[(59,eI (A9 k))]) (fun _ s=>[.box nO [v],.own v 1 (iL s),.box n5 (A1 (AS p))]) (fun k s=>s.length=p.nodes.length/\lB s/\BW p=KW p (runM p (p.methods.drop k) s)) (List.replicate p.nodes.length (-1)) rfl ⟨by simp,fun x hx=>by rw[List.eq_of_mem_replicate hx];omega,hL⟩ (hs.perm (cS _ _ _)) ?_;clear hs hnw hnn;rintro k s Z hk ⟨hl,hge,hn⟩ hs;rcases A3 p.methods hk with⟨m,hm,hlt⟩|hke
    .have hF:=Yh hgW m.fact
     cases hfB:DC (AS p) m.fact with
     | false=>
       rw[hfB,if_neg Bool.false_ne_true]at hF;have hno:=DT hm hn (by simp[Om,hfB])
       conv=>whnf
       repeat'((first|apply st|(apply sq;intro K U)|(apply si;intro A B hA hB)|(refine hA _ _ ?_;clear hB B hA A)|(refine hB _ _ _ ?_;clear hB B hA A)|(refine hB _ _ fun Z hsub=>?_;clear hB B hA A)|(apply U;clear U K)|apply dr|refine rk ?_ ?_|exact fun s e=>by cases e;rfl|refine⟨rfl,?_⟩|refine⟨kZ,?_⟩|refine ix ?_|refine ld ?_|refine Gk fun Z hs=>?_|(refine OY (fun hc=>?_)<;>(try rw[hc])<;>clear hc)|(refine Cm (fun hc=>?_) (fun hc=>?_)<;>(replace hc:=bp hc)<;>(try simp(disch:=omega) only[BL,wrap64,AM]at hc)<;>(try(cases hc;done)))|refine hF.use ?_|(constructor<;>intro hc<;>(try rw[hc])<;>(replace hc:=bp hc)<;>try(exfalso;omega))|(intro nn hnn;generalize hg:BV _ nn _=Z;refine G5 hg fun hs=>?_;clear hg)|clear U K)<;>conv=>whnf)
       all_goals first
        | (refine bN (v:=v) (s:=s) hno hs ?_;(repeat first|exact Jm _|apply List.Sublist.cons₂|apply List.Sublist.cons);done)
        | (refine bN (v:=v) (s:=s) hno (hs.up (by assumption)) ?_;(repeat first|exact Jm _|apply List.Sublist.cons₂|apply List.Sublist.cons);done)
        | skip
     | true=>
       rw[hfB,if_pos rfl]at hF;have hsp:=cF _ (oY hfB)
       conv=>whnf
       repeat'((first|apply st|(apply sq;intro K U)|(apply si;intro A B hA hB)|(refine hA _ _ ?_;clear hB B hA A)|(refine hB _ _ _ ?_;clear hB B hA A)|(refine hB _ _ fun Z hsub=>?_;clear hB B hA A)|(apply U;clear U K)|apply dr|refine rk ?_ ?_|exact fun s e=>by cases e;rfl|refine⟨rfl,?_⟩|refine⟨kZ,?_⟩|refine ix ?_|refine Y7 ?_|refine iq fun x hx=>?_|refine ld ?_|refine Gk fun Z hs=>?_|(refine OY (fun hc=>?_)<;>(try rw[hc])<;>clear hc)|(refine Cm (fun hc=>?_) (fun hc=>?_)<;>(replace hc:=bp hc)<;>(try simp(disch:=omega) only[BL,wrap64,AM]at hc)<;>(try(cases hc;done)))|refine hF.use ?_|refine hsp.use ?_|(constructor<;>intro hc<;>(try rw[hc])<;>(replace hc:=bp hc)<;>(try simp(disch:=omega) only[BL,wrap64,AM]at hc)<;>try(exfalso;omega))|(intro nn hnn;generalize hg:BV _ nn _=Z;refine G5 hg fun hs=>?_;clear hg)|clear U K)<;>conv=>whnf)
       all_goals first
        | (refine bN (v:=v) (s:=s) (DT hm hn ?_) hs ?_;(simp[Om, *];intros;omega);(repeat first|exact Jm _|apply List.Sublist.cons₂|apply List.Sublist.cons);done)
        | (refine bN (v:=v) (s:=s) (DT hm hn ?_) (hs.up (by assumption)) ?_;(simp[Om, *];intros;omega);(repeat first|exact Jm _|apply List.Sublist.cons₂|apply List.Sublist.cons);done)
        | skip
       rotate_left 2
       .refine bN (v:=v) (s:=s) (DT hm hn ?_) (hs.up (by assumption)) ?_
        .simp only[Om,show p.CW.getD m.gen.toNat 0=x by rw[DL,hx];rfl,decide_eq_false (show¬GS m.fact<=x by omega),Bool.and_false]
        .repeat first|exact Jm _|apply List.Sublist.cons₂|apply List.Sublist.cons
       all_goals
        have hx13:=Sj hh hx;have hgd:p.CW.getD m.gen.toNat 0=x:=by rw[DL,hx];rfl
        have hok:Om p m=true:=by simp only[Om,hgd,BD,CD];exact⟨by omega,by omega,by omega,by omega,hfB,by assumption⟩
        have hgo:=fun s'=>Zg (s':=s') hm hn hok
        have hno:=SJ hm hn hok;rw[hgd]at hgo hno
       .have hnb:KV m.kind=(m.kind==4):=by simp[KV, *]
        rw[hnb]at hgo hno;refine Bh ((UX p (m.kind==4) hv m.node x s (by omega) (by omega) hl [.box n5 (A1 (AS p))] Z (hs.less (.cons _ (.refl _)))).mono ?_);cases hw:CK p (m.kind==4) 12 m.node x s with
        | none=>
          clear hs;rintro r Z' ⟨rfl,s',hl',hs⟩
          conv=>whnf
          repeat'((first|(refine hB _ _ fun Z hsub=>?_;clear hB B hA A)|clear U K)<;>conv=>whnf)
          exact bN (v:=v) (s:=s') (hno hw) (hs.up (by assumption)) (.cons₂ _ (.cons₂ _ (Jm _)))
        | some s2=>
          clear hs;rintro r Z' ⟨rfl,hs⟩
          conv=>whnf
          repeat'((first|(apply si;intro A B hA hB)|(refine hA _ _ ?_;clear hB B hA A)|(apply U;clear U K)|apply dr|refine⟨rfl,?_⟩|clear U K)<;>conv=>whnf)
          exact⟨hlt,s2,rfl,⟨(J1 _ hw).trans hl,MA _ (by omega) hw hge,hgo s2 hw⟩,hs⟩
       .have hnb:KV m.kind=true:=by simp[KV, *]
        rw[hnb]at hgo hno;refine Bh ((UX p true hv m.node x s (by omega) (by omega) hl [.box n5 (A1 (AS p))] Z (hs.less (.cons _ (.refl _)))).mono ?_);cases hw:CK p true 12 m.node x s with
        | none=>
          clear hs;rintro r Z' ⟨rfl,s',hl',hs⟩
          conv=>whnf
          repeat'((first|(refine hB _ _ fun Z hsub=>?_;clear hB B hA A)|clear U K)<;>conv=>whnf)
          exact bN (v:=v) (s:=s') (hno hw) (hs.up (by assumption)) (.cons₂ _ (.cons₂ _ (Jm _)))
        | some s2=>
          clear hs;rintro r Z' ⟨rfl,hs⟩
          conv=>whnf
          repeat'((first|(apply si;intro A B hA hB)|(refine hA _ _ ?_;clear hB B hA A)|(apply U;clear U K)|apply dr|refine⟨rfl,?_⟩|clear U K)<;>conv=>whnf)
          exact⟨hlt,s2,rfl,⟨(J1 _ hw).trans hl,MA _ (by omega) hw hge,hgo s2 hw⟩,hs⟩
    .subst hke
     rw[List.drop_length,runM]at hn
     conv=>whnf
     repeat'((first|apply st|(apply sq;intro K U)|(apply si;intro A B hA hB)|(refine hA _ _ ?_;clear hB B hA A)|(apply U;clear U K)|refine⟨rfl,?_⟩|refine⟨kZ,?_⟩|refine ix ?_|refine ld ?_|refine Gk fun Z hs=>?_|(refine fc (fun x hx hlt hc=>?_) (fun hk hc=>?_)<;>(try rw[hc])<;>clear hc)|(constructor<;>intro hc<;>(try rw[hc])<;>(replace hc:=bp hc)<;>try(exfalso;omega))|(intro nn hnn;generalize hg:BV _ nn _=Z;refine G5 hg fun hs=>?_;clear hg)|clear U K)<;>conv=>whnf)
     rw[KW]at hn;refine Bh ((UX p false hv p.main 0 s (by omega) (by omega) hl [.box n5 (A1 (AS p))] Z hs).mono ?_);cases hw:CK p false 12 p.main 0 s with
     | none=>
       rw[hw]at hn;clear hs;rintro r Z' ⟨rfl,s',hl',hs⟩
       conv=>whnf
       repeat'((first|(refine hB _ _ _ ?_;clear hB B hA A)|clear U K)<;>conv=>whnf)
       exact bN (v:=v) (s:=s') hn hs (.cons₂ _ (.cons₂ _ (Jm _)))
     | some s2=>
       rw[hw]at hn;have hge2:=MA _ (by omega) hw hge;simp only[nc hge2]at hn;clear hs;rintro r Z' ⟨rfl,hs⟩;have hct:=fun f=>Dt s2 f (-1)
       cases hyes:s2.contains (-1)with
       | true=>
         rw[hyes]at hct hn
         conv=>whnf
         repeat'((first|(apply si;intro A B hA hB)|(refine hA _ _ ?_;clear hB B hA A)|(apply U;clear U K)|refine ld ?_|fail)<;>conv=>whnf)
         refine Pure.bZ (hct false) (.cons (hs.HP 1 rfl) (.cons (.refl _) .nil)) rfl ?_
         conv=>whnf
         repeat'((first|(refine hB _ _ _ ?_;clear hB B hA A)|(refine Cm (fun hc=>?_) (fun hc=>?_)<;>(replace hc:=bp hc)<;>(try simp(disch:=omega) only[BL,wrap64,AM]at hc)<;>(try(cases hc;done)))|fail)<;>conv=>whnf)
         all_goals exact bN (v:=v) (s:=s2) hn (by first|exact hs|exact hs.up (by assumption)) (.cons₂ _ (.cons₂ _ (Jm _)))
       | false=>
         rw[hyes]at hct hn
         conv=>whnf
         repeat'((first|(apply si;intro A B hA hB)|(refine hA _ _ ?_;clear hB B hA A)|(apply U;clear U K)|refine ld ?_|fail)<;>conv=>whnf)
         refine Pure.bZ (hct false) (.cons (hs.HP 1 rfl) (.cons (.refl _) .nil)) rfl ?_
         conv=>whnf
         repeat'((first|(refine hA _ _ ?_;clear hB B hA A)|(refine Cm (fun hc=>?_) (fun hc=>?_)<;>(replace hc:=bp hc)<;>(try simp(disch:=omega) only[BL,wrap64,AM]at hc)<;>(try(cases hc;done)))|fail)<;>conv=>whnf)
         all_goals exact szT (v:=v) hn hs (.cons₂ _ (.cons₂ _ (Jm _)))
attribute [local irreducible] HA
def zm (p:Prog) (nO:Nat) (r:R) (post:List At):Prop:=
 match BW p with
 | some s=>r= .ret (.t [])/\ ∃v,post= [.box nO [v],.own v 1 (iL s)]
 | none=>r= .Bd Dp/\ ∃v s,post= [.box nO [v],.own v 1 (iL s)]
def cH (p:Prog) (nO:Nat):Be zP 196 [.rp (BK p),.p nO 0] [.box nO [.l [] true]] (zm p nO):=fun Z hs=>
 A6.mono (iv p nO Z hs) fun r Z' hq=>by
  unfold xB at hq;unfold zm;cases h:BW p with
  | some s=>
    rw[h]at hq;obtain⟨h1,v,h2⟩:=hq;exact⟨_,⟨h1,v,rfl⟩,h2⟩
  | none=>
    rw[h]at hq;obtain⟨h1,v,s,h2⟩:=hq;exact⟨_,⟨h1,v,s,rfl⟩,h2⟩
def oN {Z:AE} {n:Nat} {x:V} {rest:List At} (hs:Sat Z (.box n [x]::rest)) {Q:AE->Prop} (hq: ∀Z',Sat Z' (.box n [.b false]::rest)->Q Z'):HA zP 258 [.p n 0] (some Dp) Z Q:=by
 refine aX kZ ?_
 conv=>whnf
 repeat'((first|clear U K|apply st|(apply zk;intro K U)|refine zY ?_|refine zs fun Z hs=>?_|refine qL rfl ?_|refine zo fun nn hnn Z hs=>?_|fail)<;>conv=>whnf)
 exact hq _ (hs.less (LW _ _))
def oO {Z:AE} {n:Nat} {x:V} {rest:List At} (hs:Sat Z (.box n [x]::rest)) {Q:AE->Prop} (hq: ∀Z',Sat Z' (.box n [x]::rest)->Q Z'):HA zP 258 [.p n 0] none Z Q:=by
 refine aX kZ ?_;refine zz ?_;(repeat clear U K);repeat intro K U
 exact hq _ hs
def dN (p:Prog) (nO:Nat):Be zP 195 [.f (.func 196) [] [.rp (BK p),.p nO 0]] [.box nO [.l [] true]] fun r post=>r= .ret (.b (BW p).isSome)/\ ∃v s,post= [.box nO [v],.own v 1 (iL s)]/\(BW p=none\/BW p=some s):=by
 intro Z hs;refine vS kZ ?_
 conv=>whnf
 repeat'((first|clear U K|apply st|(apply zk;intro K U)|refine zo fun nn hnn Z hs=>?_|fail)<;>conv=>whnf)
 refine Bh ?_;refine(cH p nO).use (rest:=[.box nn [.b false]]) (hs.perm (.swap _ _ _)) ?_;clear hs hnn;rintro r post Z hq hs;unfold zm at hq;cases h:BW p with
 | none=>
   rw[h]at hq;obtain⟨rfl,v,s,rfl⟩:=hq
   conv=>whnf
   repeat'((first|clear U K|apply st|fail)<;>conv=>whnf)
   refine oN (rest:=[.box nO [v],.own v 1 (iL s)]) (hs.perm Rn) fun Z hs=>?_
   refine zz ?_;(repeat clear U K);repeat intro K U
   exact AU ⟨_,⟨by rw[h];rfl,v,s,rfl,.inl h⟩,hs.less (LW _ _)⟩
 | some s=>
   rw[h]at hq;obtain⟨rfl,v,rfl⟩:=hq
   conv=>whnf
   repeat'((first|clear U K|apply st|(apply zk;intro K U)|refine zs fun Z hs=>?_|fail)<;>conv=>whnf)
   replace hs:Sat Z ([.box nO [v],.own v 1 (iL s)]++[.box nn [.b true]]):=hs;refine oO (x:= .b true) (rest:=[.box nO [v],.own v 1 (iL s)]) (hs.perm Rn) fun Z hs=>?_
   refine zz ?_;(repeat clear U K);repeat intro K U
   exact AU ⟨_,⟨by rw[h];rfl,v,s,rfl,.inr h⟩,hs.less (LW _ _)⟩
def iw (p:Prog):Be zP 137 [.a (BK p)] [] fun r post=> ∃v s,r= .ret (.t [v,.b (BW p).isSome])/\post= [.own v 1 (iL s)]/\(BW p=none\/BW p=some s):=by
 intro Z hs;refine wF kZ ?_
 conv=>whnf
 repeat'((first|clear U K|apply st|(apply zk;intro K U)|refine zo fun nn hnn Z hs=>?_|fail)<;>conv=>whnf)
 refine(dN p nn).use (rest:=[]) (by simpa using hs) ?_;clear hs;rintro r post Z ⟨rfl,v,s,rfl,hl⟩ hs;refine zz ?_;(repeat clear U K);repeat intro K U
 exact AU ⟨_,⟨v,s,rfl,rfl,hl⟩,hs.less (.cons _ (.cons₂ _ (Jm _)))⟩
def Wl (p:Prog):Pure zP 76 [.a (BK p)] (eI (if(BW p).isSome then 0 else 2)):=by
 refine Pure.of ?_;have hz:=iw p;cases h:(BW p).isSome<;>rw[h]at hz
 all_goals
  refine yf kZ ?_;have hs:=Sn;refine zz ?_;(repeat clear U K);repeat intro K U
  refine hz.use (rest:=[]) (by simpa using hs) ?_;clear hs;rintro r post Z ⟨v,s,rfl,rfl,-⟩ hs;refine zz ?_;(repeat clear U K);repeat intro K U
  exact AU rfl
def yM {p:Prog} (h:(BW p).isSome=true):Bl p.AJ<=40:=by
 obtain⟨hh,-⟩:=FU h;simp only[C2,BD,CD]at hh;exact(MU hh.1).2.1
def we {p:Prog} (h:(BW p).isSome=true):p.AJ.length<=10:=by
 obtain⟨hh,-⟩:=FU h;simp only[C2,BD,CD]at hh;exact(MU hh.1).2.2
def yX {p:Prog} (h:(BW p).isSome=true):D2 (AS p):=by
 obtain⟨hh,-⟩:=FU h;simp only[C2,BD,CD]at hh;exact(MU hh.1).1
def ot (p:Prog):Pure zP 160 [.a (BK p)] (if(BW p).isSome then .t [.a (A1 (AS p)),eI 0]else .t [.a [.l [] true,.l [] true],eI 2]):=by
 have hz:=Wl p;have hM:=Mx;cases h:(BW p).isSome<;>rw[h]at hz
 .simp only[KQ,if_false]at hz ⊢
  refine gu kZ ?_;have hs:=Sn
  conv=>whnf
  repeat'((first|clear U K|apply st|(apply zk;intro K U)|refine zY ?_|refine zs fun Z hs=>?_|refine hz.use ?_|(refine zb (fun hc=>?_) (fun hc=>?_)<;>try exact⟨⟩)|refine zo fun nn hnn Z hs=>?_|fail)<;>conv=>whnf)
  all_goals exact AF rfl
 .simp only[if_true]at hz ⊢
  have hm:=yM h;have hc10:=we h;refine gu kZ ?_;have hs:=Sn
  conv=>whnf
  repeat'((first|clear U K|apply st|(apply zk;intro K U)|refine zY ?_|refine zs fun Z hs=>?_|refine hz.use ?_|refine Pure.use (Vg p (by omega) (by omega)) ?_|(refine zb (fun hc=>?_) (fun hc=>?_)<;>try exact⟨⟩)|refine zo fun nn hnn Z hs=>?_|fail)<;>conv=>whnf)
  all_goals exact AF rfl
end Go.Gl
namespace Go.Gl
open Go.Proofs
attribute [local irreducible] A6 Ar Ah AR AI Ae AQ AT AK Ad AN AO Ay A7 Sat AY A5 Ai W
abbrev rkC (p:Prog) (L:Nat):List V:=BK p++(A1 (AS p)++[.m L])
abbrev TI (p:Prog) (L:Nat):V:= .rp (rkC p L)
abbrev kM (x:Int×Int):V:= .a [eI x.1,eI x.2]
def Ki (p:Prog) (M:List (Int×Int)):List (V×V):=M.map fun x=>(kM x,.b (GM p x.1 x.2))
def Pw (p:Prog) (M:List (Int×Int)): ∀kv∈Ki p M,BO (.a [.i64,.i64]) kv.1=true:=by
 intro kv h;obtain⟨e,_,rfl⟩:=Mt.1 h;rfl
def pU (x y:Int×Int):Dj (kM x) (kM y)=(x==y):=by
 obtain⟨a,b⟩:=x;obtain⟨c,d⟩:=y;have e:Dj (kM (a,b)) (kM (c,d))=(a==c&&b==d):=by simp[Dj,Bq,kM]
 rw[e];rfl
def V9 (p:Prog) (x:Int×Int): ∀(M:List (Int×Int)),Ca (kM x) (Ki p M)=if M.contains x then some (.b (GM p x.1 x.2))else none
 | []=>rfl
 | y ::r=>by
   rw[Ki,E8,Ca,pU,List.contains_cons];cases h:x==y
   .rw[cond_false,Bool.false_or]
    exact V9 p x r
   .rw[cond_true,Bool.true_or,if_pos rfl]
    have:x=y:=by simpa using h
    rw[this]
def Z4 (p:Prog) (x:Int×Int): ∀(M:List (Int×Int)),M.contains x=false->Da (kM x) (.b (GM p x.1 x.2)) (Ki p M)=Ki p (M++[x])
 | [],_=>rfl
 | y::r,h=>by
   rw[List.contains_cons,Bool.or_eq_false_iff]at h;have ih:=Z4 p x r h.2;simp only[Ki]at ih;rw[Ki,E8,Da,pU,h.1,cond_false,ih];rfl
def iy (p:Prog):Be zP 97 [.a (BK p)] [] fun r post=>if(BW p).isSome then∃L,r= .ret (TI p L)/\post= [.map L []]else r= .ret .pn/\post= []:=by
 intro Z hs;have hw:=ot p;cases h:(BW p).isSome<;>rw[h]at hw
 .simp only[KQ,if_false]at hw ⊢
  refine po kZ ?_
  conv=>whnf
  repeat'((first|clear U K|apply st|(apply zk;intro K U)|refine zY ?_|refine zs fun Z hs=>?_|refine hw.use ?_|(refine zb (fun hc=>?_) (fun hc=>?_)<;>try exact⟨⟩)|refine zo fun nn hnn Z hs=>?_|fail)<;>conv=>whnf)
  exact AU ⟨_,⟨rfl,rfl⟩,hs.less (Jm _)⟩
 .simp only[if_true]at hw ⊢
  refine po kZ ?_
  conv=>whnf
  repeat'((first|clear U K|apply st|(apply zk;intro K U)|refine zY ?_|refine zs fun Z hs=>?_|refine hw.use ?_|(refine zb (fun hc=>?_) (fun hc=>?_)<;>try exact⟨⟩)|refine zo fun nn hnn Z hs=>?_|fail)<;>conv=>whnf)
  exact AU ⟨_,⟨nn,rfl,rfl⟩,hs.less (.cons₂ _ (Jm _))⟩
def yR (p:Prog) (L:Nat) (m:Int):Pure zP 228 [eI m,.rp [TI p L]] (.b (!BQ p m)):=by
 refine vE kZ ?_;have hs:=Sn
 conv=>whnf
 repeat'((first|clear U K|apply st|(apply zk;intro K U)|refine zY ?_|refine za (fun hc=>?_) fun hc=>?_|fail)<;>conv=>whnf)
 .refine AF ?_
  have e1:decide (0<=m)=true:=decide_eq_true hc;rw[BQ,e1,GJ,BL];show V.b (decide (m≥(p.methods.length:Int)))=_;by_cases hl:m<(p.methods.length:Int)
  .rw[decide_eq_true hl,decide_eq_false (by omega)];rfl
  .rw[decide_eq_false hl,decide_eq_true (by omega)];rfl
 .refine AF ?_
  rw[BQ,decide_eq_false (by omega)];rfl
def I2 {g:FuncId} {fi ca:List V} {f:Int->Bool} {xs:List Int} (b:Bool) (h: ∀y∈xs,Pure zP g (fi++[eI y]++ca) (.b (f y))):Pure zP 139 [.l (iL xs) b,.f (.func g) fi ca] (.b (xs.any f)):=by
 have:=Gi g fi ca (fun _=>[]) (fun y (_:Unit)=>(f y,())) (fun y _=>y∈xs) (QP fun y hy=>h y hy) xs b () (HD fun y hy _=>hy);rw[MV]at this;exact Pure.of (A6.mono (this emp Sat.nil) fun r Z' ⟨post,⟨h1,h2⟩,h3⟩=>h1)
def yS (p:Prog) (L:Nat) (l:List Int) (b:Bool):Pure zP 161 [TI p L,.l (iL l) b] (.b (l.all (BQ p))):=by
 have hc:=fun b=>I2 (g:=228) (fi:=[]) (ca:=[.rp [TI p L]]) (f:=fun m=> !BQ p m) (xs:=l) b fun y _=>yR p L y
 refine gr kZ ?_;have hs:=Sn
 conv=>whnf
 repeat'((first|clear U K|apply st|(apply zk;intro K U)|refine Pure.use (hc _) ?_|fail)<;>conv=>whnf)
 all_goals exact AF (by rw[List.all_eq_not_any_not];rfl)
def sV (l:List Int) (b:Bool):Pure zP 161 [.pn,.l (iL l) b] (.b false):=by
 refine gr kZ ?_;have hs:=Sn;exact zW
def oh (p:Prog) (L:Nat) (m n:Int) (hm:BQ p m=true) (hn:BQ p n=true):Pure zP 162 [TI p L,eI m,eI n] (.b (DH p m n)):=by
 refine Pure.fit (by kernel_rfl) fun hf=>?_
 have hxm:=CA hm;have hxn:=CA hn;simp only[BQ,BD,CD]at hm hn;refine wA kZ ?_;have hs:=Sn
 conv=>whnf
 repeat'((first|clear U K|apply st|(apply zk;intro K U)|refine zY ?_|refine rk ?_ ?_|exact fun s e=>by cases e;rfl|refine zs fun Z hs=>?_|refine za (fun hc=>?_) fun hc=>?_|refine zo fun nn hnn Z hs=>?_|fail)<;>conv=>whnf)
 all_goals exact AF (by simp[DH, *])
def nv {p:Prog} (h:(BW p).isSome=true): ∀x∈p.methods,DC (AS p) x.fact=true:=fun x hx=>by
 have:=(FU h).2 x hx;simp only[Om,BD]at this;exact this.2.2.2.2.1
end Go.Gl
