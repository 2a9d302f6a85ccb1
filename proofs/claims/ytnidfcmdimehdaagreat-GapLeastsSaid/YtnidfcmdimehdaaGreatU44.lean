import Derived.KernelRfl
import Derived.Test.YtnidfcmdimehdaaGreatU14
import Derived.Test.YtnidfcmdimehdaaGreatU25
import Derived.Test.YtnidfcmdimehdaaGreatU34
import Derived.Test.YtnidfcmdimehdaaGreatU40
import Derived.Test.YtnidfcmdimehdaaGreatU42
import Derived.Test.YtnidfcmdimehdaaGreatU43
set_option linter.all false
set_option linter.defProp false
set_option maxHeartbeats 8000000
noncomputable section
namespace Go.Gl
open Go.Proofs
abbrev W4:List (List Int×Int):=[([],4),([0],1),([0,2],1),([0,1],1)]
abbrev W5:List (List Int×Int):=[([],4),([0],1),([0,2],1),([0,1],1),([0,1,2],3)]
def qz:VR Kw 0 (FC (AG Kw))= .t [.l (W5.map O2) false,eI 0]:=by kernel_rfl
def ia:VR Kw 0 (Kx (AG Kw) [])= .t [.l (W4.map O2) false,eI 0]:=by kernel_rfl
def x_of:ly Kw 0 [4]= .t [.l ([([0,1],1)].map O2) false,eI 0]:=by kernel_rfl
def x7:ly Kw 0 [0]= .t [.l [] true,eI 2]:=by kernel_rfl
def iZ:NX Kw 0 4 [1]:=fun _ _=> .here (by kernel_rfl)
def iY:NX Kw 0 1 [3]:=fun _ _=> .there (cs':=[2]) (by kernel_rfl) (by kernel_rfl) (.there (cs':=[3]) (by kernel_rfl) (by kernel_rfl) (.here (by kernel_rfl)))
def rC:HY Kw 0 3 []=false:=by kernel_rfl
def iX:NX Kw 0 3 []:=fun _ h=>by rw[rC]at h;cases h
def rB:Tl Kw 0 4 [1]= .t [.l (iL [1]) false,eI 0]:=by kernel_rfl
def rA:Tl Kw 0 1 [3]= .t [.l (iL [3]) false,eI 0]:=by kernel_rfl
def q9:Tl Kw 0 3 []= .t [.l [] true,eI 5]:=by kernel_rfl
def l7:Tt exH 0 [0,1,2,3]=(2,0):=by kernel_rfl
def rD:Ze Kw 0 [0,1]=(Jb (PX 3) (Jb (PX 4) (Ca (PX 5))),0):=by kernel_rfl
def q8:Mi Kw 0=(Ca (PX 3),0):=by kernel_rfl
def x8:B9 Kw 0=true->Bv (AG Kw) (L7 Kw 0)=true->fR (AG Kw) (L7 Kw 0):=fun _ h=>kQ h (of_decide_eq_true (by kernel_rfl))
end Go.Gl
namespace Go.Gl
open Go.Proofs
attribute [local irreducible] As Af AV AQ AI AU AP AR AJ AT AM AN Ag Ar Sat AS Ap AX W
attribute [local irreducible] Fz
def YR (p:Prog) (gen:Int):Pure zP 32 [.a (On p gen)] (.b true):=by
 refine pw kZ ?_;have hs:=Sn;exact zW
def k7 (p : Prog) (gen:Int) (hsh:B9 p gen=true->Bv (AG p) (L7 p gen)=true->fR (AG p) (L7 p gen)):Pure zP 40 [.a (A3 p),eI gen] (.t [.a (xF (Mi p gen).1),eI (Mi p gen).2]):=by
 refine Pure.fit (by kernel_rfl) fun hf=>?_
 have hP:=H6 hf.1;have⟨p1,p2,p3,p4⟩:=F0 hf.1;have hM:=Mx;have c1:=Jy p gen 32 [] true fun _=>YR p gen
 rw[Mi];cases h1:B9 p gen
 .rw[(DA h1 _).1,(DA h1 _).2]at c1
  rw[if_neg (by decide)];refine fO kZ ?_;have hs:=Sn
  conv=>whnf
  repeat'((first|clear U K|apply st|(apply zk;intro K U)|refine zY ?_|refine zs fun Z hs=>?_|refine zC ?_|(refine zb (fun hc=>?_) (fun hc=>?_)<;>try exact⟨⟩)|refine zo fun nn hnn Z hs=>?_|fail)<;>conv=>whnf)
  all_goals exact AY (.t (.cons Hi (.cons (.refl _) .nil)))
 rw[if_pos rfl];replace hsh:=hsh h1;rw[(C6 h1).1,(C6 h1).2]at c1;by_cases h3:(Bo p gen).length<=8
 .rw [if_pos h3]at c1 ⊢
  rw[B9,A7]at h1;have h16:=(look_ok h1.1).many;have c4:=fh p gen (L7 p gen) h1.1;have c5:=PR p;rw[h1.1,if_pos rfl]at c5;have hgw:=Jr h1.1;have hmm:=gM (p:=p) (gen:=gen);refine fO kZ ?_;have hs:=Sn
  conv=>whnf
  repeat'((first|apply st|(refine dz ?_;intro K U)|(apply si;intro A B hA hB)|(refine hA _ _ ?_;clear hB B hA A)|(apply U;clear U K)|refine⟨rfl,?_⟩|refine⟨kZ,?_⟩|refine ld ?_|refine ZL fun Z hs=>?_|refine c1.use ?_|refine qS ?_|(constructor<;>intro hc<;>(try rw[hc])<;>(replace hc:=bp hc)<;>(try simp(disch:=omega) only[Bh,wrap64,AW]at hc)<;>try(exfalso;omega))|(intro nn hnn;generalize hg:Bz _ nn _=Z;refine bT hg fun hs=>?_;clear hg)|fail)<;>conv=>whnf)
  rename_i n4 _ _ _ _ _;refine Ba (Bo p gen).length (fun k v=>[(8,v),(27,eI (Au k))]) (fun k v=>[.box nn (On p gen),.box n4 [.i .i64 0,.i .i64 0,.l [] true,.i .i64 0,.i .i64 0,.l [] true],.own v 6 (facts (Fw p ((Bo p gen).take k)))]) (fun _ _=>True) (.l [] true) rfl trivial (Ce hs 6) ?_;clear hs;rintro k v Z hk - hs;rcases Aw (Bo p gen) hk with⟨x,hx,hlt⟩|hke
  .have hck:Au k=k:=AW (by omega)
   have hst:=Yh p ((Bo p gen).take k) x;rw[<-AO hx]at hst;have hmx:=hmm x (BY hx);have hxP:=Br hmx;have hxr:=hmx;simp only[BG,A7,CF]at hxr;have hzl:(Fw p ((Bo p gen).take k)).length<=8:=Nat.le_trans (Sr _ _) (by rw[Ib];omega);generalize Fw p ((Bo p gen).take k)=zl at *;have hll:zl.length<AZ/\(zl.length+1)*80<=140737488355328:=by omega
   generalize BK p x=mx at *;by_cases hkd:mx.kind=1
   .rw[if_pos (Cd.2 hkd)]at hst
    conv=>whnf
    repeat'((first|clear U K|apply st|(apply zk;intro K U)|refine zY ?_|refine oz fun v Z hs hsl=>?_|(refine zb (fun hc=>?_) (fun hc=>?_)<;>try exact⟨⟩)|fail)<;>conv=>whnf)
    all_goals try(exfalso;simp[hkd]at hc;done)
    all_goals exact⟨hlt,_,rfl,trivial,by rw[hst];exact hs⟩
   .rw[if_neg (by simpa using hkd)]at hst
    conv=>whnf
    repeat'((first|clear U K|apply st|(apply zk;intro K U)|refine zY ?_|(refine zb (fun hc=>?_) (fun hc=>?_)<;>try exact⟨⟩)|fail)<;>conv=>whnf)
    all_goals try(exfalso;simp[hkd]at hc;done)
    all_goals exact⟨hlt,_,rfl,trivial,by rw[hst];exact hs⟩
  .rw [Ak hke]at hs
   have hpl:(Fw p (Bo p gen)).length<=8:=Nat.le_trans (Sr _ _) h3;have hmf:L7 p gen=if(Fw p (Bo p gen)).isEmpty then .mk 1 0 [] 0 0 []else Ca (lO 7 (Fw p (Bo p gen))):=rfl
   have c3:=qh 7 (Fw p (Bo p gen)) (by omega);generalize Fw p (Bo p gen)=ls at *
   conv=>whnf
   repeat'((first|(refine dz ?_;intro K U)|(apply si;intro A B hA hB)|(refine hA _ _ ?_;clear hB B hA A)|(apply U;clear U K)|refine⟨rfl,?_⟩|fail)<;>conv=>whnf)
   refine qS ?_
   conv=>whnf
   repeat'((first|apply st|(refine dz ?_;intro K U)|(apply U;clear U K)|(refine qT (fun hc=>?_)<;>(try rw[hc])<;>clear hc)|clear U K)<;>conv=>whnf)
   refine fI hs 2 rfl (fun Z2 h=> .cons (.refl _) (.cons (.refl _) (.cons (.refl _) (.cons h .nil)))) fun Z hs=>?_
   generalize L7 p gen=xf at *
   have hfin:Bv (AG p) xf=true->Pure zP 100 [.a (Ax (AG p)),.a (xF xf)] (.t [.a (xF (DE (AG p) 200 xf)),eI 0]):=fun h4=>by
    obtain⟨C,M,hS,hx,hm,-⟩:=hsh h4;exact mN (AG p) hgw hS xf hx (by rw[Um];exact h4) hm
   clear hsh;cases ls with
   | nil =>
     rw[List.isEmpty_nil,if_pos rfl]at hmf;subst hmf;cases h4:Bv (AG p) (.mk 1 0 [] 0 0 [])<;>rw[h4]at c4
     .rw[if_neg (by decide),if_neg (by decide)]at c4
      conv=>whnf
      repeat'((first|clear U K|apply st|(apply zk;intro K U)|refine zY ?_|refine zs fun Z hs=>?_|refine Pure.use (c3 _) ?_|refine c4.use ?_|(refine zb (fun hc=>?_) (fun hc=>?_)<;>try exact⟨⟩)|refine zo fun nn hnn Z hs=>?_|fail)<;>conv=>whnf)
      all_goals try(exfalso;simp at hc;done)
      all_goals try(exfalso;simp at hc;omega)
      all_goals first
       | exact AF rfl
       | exact AY (.t (.cons Hi (.cons (.refl _) .nil)))
     .rw[if_pos rfl,if_pos rfl]at c4
      have c6:=hfin h4
      conv=>whnf
      repeat'((first|clear U K|apply st|(apply zk;intro K U)|refine zY ?_|refine zs fun Z hs=>?_|refine Pure.use (c3 _) ?_|refine c4.use ?_|refine c5.use ?_|refine c6.use ?_|(refine zb (fun hc=>?_) (fun hc=>?_)<;>try exact⟨⟩)|refine zo fun nn hnn Z hs=>?_|fail)<;>conv=>whnf)
      all_goals try(exfalso;simp at hc;done)
      all_goals try(exfalso;simp at hc;omega)
      all_goals first
       | exact AF rfl
       | exact AY (.t (.cons Hi (.cons (.refl _) .nil)))
   | cons x r=>
     rw[if_neg (by simp)]at hmf;have c2:=xx (lO 7 (x::r));rw[<-hmf]at c2;cases h4:Bv (AG p) xf<;>rw[h4]at c4
     .rw[if_neg (by decide),if_neg (by decide)]at c4
      conv=>whnf
      repeat'((first|clear U K|apply st|(apply zk;intro K U)|refine zY ?_|refine zs fun Z hs=>?_|refine c2.use ?_|refine Pure.use (c3 _) ?_|refine c4.use ?_|(refine zb (fun hc=>?_) (fun hc=>?_)<;>try exact⟨⟩)|refine zo fun nn hnn Z hs=>?_|fail)<;>conv=>whnf)
      all_goals try(exfalso;simp at hc;done)
      all_goals try(exfalso;simp at hc;omega)
      all_goals first
       | exact AF rfl
       | exact AY (.t (.cons Hi (.cons (.refl _) .nil)))
     .rw[if_pos rfl,if_pos rfl]at c4
      have c6:=hfin h4
      conv=>whnf
      repeat'((first|clear U K|apply st|(apply zk;intro K U)|refine zY ?_|refine zs fun Z hs=>?_|refine c2.use ?_|refine Pure.use (c3 _) ?_|refine c4.use ?_|refine c5.use ?_|refine c6.use ?_|(refine zb (fun hc=>?_) (fun hc=>?_)<;>try exact⟨⟩)|refine zo fun nn hnn Z hs=>?_|fail)<;>conv=>whnf)
      all_goals try(exfalso;simp at hc;done)
      all_goals try(exfalso;simp at hc;omega)
      all_goals first
       | exact AF rfl
       | exact AY (.t (.cons Hi (.cons (.refl _) .nil)))
 .rw[if_neg h3]at c1 ⊢
  refine fO kZ ?_;have hs:=Sn
  conv=>whnf
  repeat'((first|clear U K|apply st|(apply zk;intro K U)|refine zY ?_|refine zs fun Z hs=>?_|refine zC ?_|(refine zb (fun hc=>?_) (fun hc=>?_)<;>try exact⟨⟩)|refine zo fun nn hnn Z hs=>?_|fail)<;>conv=>whnf)
  all_goals exact AY (.t (.cons Hi (.cons (.refl _) .nil)))
end Go.Gl
namespace Go.Gl
open Go.Proofs
attribute [local irreducible] As Af AV AQ AI AU AP AR AJ AT AM AN Ag Ar Sat AS Ap AX W
def xy (c:Int):Pure zP 43 [eI c] (.a [eI 2,eI 0,.l [] true,eI c,eI 0,.l [] true]):=by
 refine pq kZ ?_;have hs:=Sn;exact zW
def pZ (c:Int):Pure zP 43 [eI c] (.a (xF (PX c))):=by
 refine pq kZ ?_;have hs:=Sn
 conv=>whnf
 repeat'((first|clear U K|apply st|(apply zk;intro K U)|refine zY ?_|refine zs fun Z hs=>?_|refine zo fun nn hnn Z hs=>?_|fail)<;>conv=>whnf)
 all_goals exact AY (.a (.cons (.refl _) (.cons (.refl _) (.cons BS (.cons (.refl _) (.cons (.refl _) (.cons BS .nil)))))))
def yO (f g:Fact):Pure zP 98 [.a (xF f),.a (xF g)] (.a (xF (orF f g))):=by
 refine ym kZ ?_;have hs:=Sn
 conv=>whnf
 repeat'((first|clear U K|apply st|(apply zk;intro K U)|refine zY ?_|refine zs fun Z hs=>?_|refine zo fun nn hnn Z hs=>?_|fail)<;>conv=>whnf)
 refine AY (.a (.cons (.refl _) (.cons (.refl _) (.cons BS (.cons (.refl _) (.cons (.refl _) (.cons ?_ .nil)))))));refine .l (fun h=>by cases h) ?_;simp only[orF,Fact.kids,List.map,A9];exact CU _
def Pc (j:Nat):List V:=[eI 1,eI 0,eI 2,eI 0,.l [] true,eI (IntKind.i64.wrap (3+Au j)),eI 0,.l [] true,eI 0]
def lT (j:Nat) (n:Int):List V:=[eI 1,eI 0,eI 2,eI 0,.l [] true,eI (IntKind.i64.wrap (3+Au j)),eI 0,.l [] true,eI n]
def nR (b:Bool) (_:Nat):List V:=[eI 2,eI 0,.l [] b]
def N0:Dp Pc 9:=fun x=>by
 refine⟨rfl,fun v hv=>?_⟩;simp only[Pc,Ff,List.not_mem_nil,or_false]at hv;rcases hv with rfl|rfl|rfl|rfl|rfl|rfl|rfl|rfl|rfl<;>rfl
def GO:Dp (nR true) 3:=fun x=>⟨rfl,fun v hv=>by
 simp only[nR,Ff,List.not_mem_nil,or_false]at hv
 rcases hv with rfl|rfl|rfl<;>rfl⟩
abbrev Pf:V:= .l [[.l [] true,.l [] true,.l [] true],[.l [[eI 3]] true,.l [] true,.l [] true],[.l [[eI 3]] true,.l [] true,.l [] true]] true
abbrev SI:List V:=[.l [] true,eI 0,.l [] true,.l [] true,.l [] true,eI 0]
def Gp {Z:AD} {l:List At} (h:Sat Z l) (i:Nat) {n len cap sz k off:Nat} {es:List (List V)} {e:List V} {x:V} (hi:l[i]? =some (.own (.sl n len cap) sz es)) (he:es[k]? =some e) (h1:DL x=true) (ho:off+1<=sz) {K:AD->Prop}
    (hk: ∀Z',Sat Z' (l.set i (.own (.sl n len cap) sz (es.set k (e.set off x))))->K Z'):AR Z 1 (.pe n sz k off) x K:=by
 rcases h.get hi with⟨h0,_⟩|⟨m,cap',h0,hn⟩
 .cases h0
 .cases h0
  unfold AR;rw[TJ h1];refine⟨rfl,by simp[h1],?_⟩;simp only[hn,he];refine⟨trivial,ho,hk _ ?_⟩;refine h.change hi (fun b hb ha=>FG hb fun m hm=>?_) (fun b hb ha m hm=>ha m hm) (.inr ⟨n,cap,by simp,by simp[Bz,putAt]⟩);rw[Cg];intro e;subst e;exact ha m rfl hm
def er (k:Nat):List (List V):=[lT 0 0,lT 1 (if 1<k then 1 else 0),lT 2 (if 2<k then 2 else 0)]
def bW (n:Int):List V:=[eI 4,eI 0,eI 7,eI 0,.l [] false,eI 0,eI 0,.l (facts [PX 4,PX 5]) false,eI n]
def pE (k:Nat):List (List V):=er k++[bW (if 3<k then 3 else 0)]
def cz:Dp bW 9:=fun x=>by
 refine⟨rfl,fun v hv=>?_⟩;simp only[bW,Ff,List.not_mem_nil,or_false]at hv;rcases hv with rfl|rfl|rfl|rfl|rfl|rfl|rfl|rfl|rfl<;>rfl
def Xq (j:Nat) (n:Int):List V:=[eI 1,eI 0,eI 2,eI 0,.l [] false,eI (IntKind.i64.wrap (3+Au j)),eI 0,.l [] false,eI n]
def IC {Z:AD} (j:Nat) (n:Int):Cm Z emp (lT j n) (Xq j n):= .cons (.refl _) (.cons (.refl _) (.cons (.refl _) (.cons (.refl _) (.cons BS (.cons (.refl _) (.cons (.refl _) (.cons BS (.cons (.refl _) .nil))))))))
def fv {Z:AD} (k:Nat):Cm Z emp (nR true k) (nR false k):= .cons (.refl _) (.cons (.refl _) (.cons BS .nil))
def Wi {Z:AD}:Fa Z emp Pf (.l (Kw.AK.map LP) false):=
 .l (fun h=>by cases h) (.cons (.cons BS (.cons BS (.cons BS .nil))) (.cons (.cons OJ (.cons BS (.cons BS .nil))) (.cons (.cons OJ (.cons BS (.cons BS .nil))) .nil)))
def ma:Pure zP 36 [.l [] true] (.a (A3 Kw)):=by
 refine Pure.of ?_;have hM:=Mx;refine pt kZ ?_;have hs:=Sn
 conv=>whnf
 repeat'((first|clear U K|apply st|(apply zk;intro K U)|refine zs fun Z hs=>?_|refine zo fun nn hnn Z hs=>?_|fail)<;>conv=>whnf)
 rename_i n0 _ _ _ _ _;generalize nn=n1 at *;refine Ba 3 (fun k (_:V)=>[(4,eI (Au k))]) (fun k x=>[.box n1 [Pf,eI 0,.l [[eI 1]] true,x,.l [] true,eI 0],.box n0 SI,.own x 9 ((List.range k).map Pc)]) (fun k x=>0<k->(Bd x).isSome=true) (.l [] true) rfl (fun h=>absurd h (Nat.lt_irrefl 0)) (Ce hs 9) ?_;clear hs;rintro k v Z hk hv hs;have hck:Au k=k:=AW (by omega);have hlr:(List.range k).length=k:=xc;by_cases hlt:k<3
 .have e1:(List.range (k+1)).map Pc=(List.range k++[k]).map Pc:=by rw[List.range_succ]
  have hll:(List.range k).length<AZ/\((List.range k).length+1)*104<=140737488355328:=by omega
  generalize List.range k=ks at *
  conv=>whnf
  repeat'((first|clear U K|apply st|(apply zk;intro K U)|refine zY ?_|refine rk ?_ ?_|exact fun s e=>by cases e;rfl|refine zs fun Z hs=>?_|refine Pure.use (xy _) ?_|refine aq (enc:=Pc) (x:=k) (fun v Z hs hsl=>?_) (hg:=N0)|(refine zb (fun hc=>?_) (fun hc=>?_)<;>try exact⟨⟩)|fail)<;>conv=>whnf)
  exact⟨hlt,_,rfl,fun _=>hsl,by rw[e1];exact hs⟩
 .obtain rfl:k=3:=by omega
  conv=>whnf
  repeat'((first|clear U K|apply st|(apply zk;intro K U)|refine zY ?_|(refine zb (fun hc=>?_) (fun hc=>?_)<;>try exact⟨⟩)|fail)<;>conv=>whnf)
  replace hv:=hv (by decide);refine FX hv (EH hs 2 (xs:=List.range 3) (ys:=[]) (enc:=Pc) rfl ⟨by decide,by decide⟩ N0 fun v Z hs hsl=>?_);clear hv hck hlr hlt hk
  conv=>whnf
  repeat'((first|clear U K|apply st|(apply zk;intro K U)|refine zs fun Z hs=>?_|fail)<;>conv=>whnf)
  obtain⟨n9,l9,c9,rfl⟩:=VW hsl;replace hs:Sat Z [.box n1 [Pf,eI 0,.l [[eI 1]] true,.sl n9 l9 c9,.l [] true,eI 0],.box n0 SI,.own (.sl n9 l9 c9) 9 (er 0)]:=hs;refine Ba 3 (fun k (_:V)=>[(5,eI (Au k))]) (fun k x=>[.box n1 [Pf,eI 0,.l [[eI 1]] true,.sl n9 l9 c9,x,eI 0],.box n0 SI,.own (.sl n9 l9 c9) 9 (er k),.own x 3 ((List.range k).map (nR true))]) (fun _ _=>True) (.l [] true) rfl trivial (Ce hs 3) ?_;clear hs;rintro k x Z hk - hs;rcases(show k=0\/k=1\/k=2\/k=3 by omega)with rfl|rfl|rfl|rfl
  .conv=>whnf
   repeat'((first|clear U K|apply st|(apply zk;intro K U)|refine zY ?_|refine zs fun Z hs=>?_|refine NR hs 2 rfl (by decide) ?_|refine Gp hs 2 rfl rfl rfl (by decide) fun Z hs=>?_|refine aq (enc:=nR true) (xs:=List.range 0) (x:=0) (fun v Z hs hsl=>?_) (hl:=by decide) (hg:=GO)|(refine zd (fun hc=>?_) (fun hc=>?_)<;>try exact⟨⟩)|fail)<;>conv=>whnf)
   all_goals first
    | exact⟨_,rfl,trivial,hs⟩
    | (exfalso;revert hc;decide)
  .conv=>whnf
   repeat'((first|clear U K|apply st|(apply zk;intro K U)|refine zY ?_|refine zs fun Z hs=>?_|refine NR hs 2 rfl (by decide) ?_|refine Gp hs 2 rfl rfl rfl (by decide) fun Z hs=>?_|refine aq (enc:=nR true) (xs:=List.range 1) (x:=1) (fun v Z hs hsl=>?_) (hl:=by decide) (hg:=GO)|(refine zd (fun hc=>?_) (fun hc=>?_)<;>try exact⟨⟩)|fail)<;>conv=>whnf)
   all_goals first
    | exact⟨_,rfl,trivial,hs⟩
    | (exfalso;revert hc;decide)
  .conv=>whnf
   repeat'((first|clear U K|apply st|(apply zk;intro K U)|refine zY ?_|refine zs fun Z hs=>?_|refine NR hs 2 rfl (by decide) ?_|refine Gp hs 2 rfl rfl rfl (by decide) fun Z hs=>?_|refine aq (enc:=nR true) (xs:=List.range 2) (x:=2) (fun v Z hs hsl=>?_) (hl:=by decide) (hg:=GO)|(refine zd (fun hc=>?_) (fun hc=>?_)<;>try exact⟨⟩)|fail)<;>conv=>whnf)
   all_goals first
    | exact⟨_,rfl,trivial,hs⟩
    | (exfalso;revert hc;decide)
  .conv=>whnf
   repeat'((first|clear U K|apply st|(apply zk;intro K U)|refine zY ?_|refine zs fun Z hs=>?_|refine NR hs 2 rfl (by decide) ?_|refine NR hs 3 rfl (by decide) ?_|refine aq (enc:=nR true) (xs:=List.range 3) (x:=3) (fun v Z hs hsl=>?_) (hl:=by decide) (hg:=GO)|(refine zd (fun hc=>?_) (fun hc=>?_)<;>try exact⟨⟩)|fail)<;>conv=>whnf)
   all_goals try(exfalso;revert hc;decide)
   have o2:=F8 hs 3 rfl;refine FN hs 1 rfl rfl rfl (by simp[Pf,o2]) (by decide) fun Z hs=>?_
   clear o2;refine zz ?_;(repeat clear U K);repeat intro K U
   have hfr:Fa Z emp (V.a [Pf,eI 0,.l [[eI 1]] true,.sl n9 l9 c9,v,eI (((List.range 3).map (nR true)).length:Nat)]) (V.a [.l (Kw.AK.map LP) false,eI 0,.l [[eI 1]] false,.l ([Xq 0 0,Xq 1 1,Xq 2 2]) false,.l ((List.range 3++[3]).map (nR false)) false,eI (((List.range 3).map (nR true)).length:Nat)]):= .a (.cons Wi (.cons (.refl _) (.cons OJ (.cons (Own.lr (hs.get (i:=2) rfl) (.cons (IC _ _) (.cons (IC _ _) (.cons (IC _ _) .nil)))) (.cons (Own.lr (hs.get (i:=3) rfl) (Qb fv _)) (.cons (.refl _) .nil))))));refine Ft (Z2:=emp) (fun n o ho=>by cases ho) hfr ?_;show R.ret _=R.ret _
   kernel_rfl
def mZ:Pure zP 36 [.l [bW 0] true] (.a (A3 exH)):=by
 refine Pure.of ?_;have hM:=Mx;refine pt kZ ?_;have hs:=Sn
 conv=>whnf
 repeat'((first|clear U K|apply st|(apply zk;intro K U)|refine zs fun Z hs=>?_|refine zo fun nn hnn Z hs=>?_|fail)<;>conv=>whnf)
 rename_i n0 _ _ _ _ _;generalize nn=n1 at *;refine Ba 3 (fun k (_:V)=>[(4,eI (Au k))]) (fun k x=>[.box n1 [Pf,eI 0,.l [[eI 1]] true,x,.l [] true,eI 0],.box n0 SI,.own x 9 ((List.range k).map Pc)]) (fun k x=>0<k->(Bd x).isSome=true) (.l [] true) rfl (fun h=>absurd h (Nat.lt_irrefl 0)) (Ce hs 9) ?_;clear hs;rintro k v Z hk hv hs;have hck:Au k=k:=AW (by omega);have hlr:(List.range k).length=k:=xc;by_cases hlt:k<3
 .have e1:(List.range (k+1)).map Pc=(List.range k++[k]).map Pc:=by rw[List.range_succ]
  have hll:(List.range k).length<AZ/\((List.range k).length+1)*104<=140737488355328:=by omega
  generalize List.range k=ks at *
  conv=>whnf
  repeat'((first|clear U K|apply st|(apply zk;intro K U)|refine zY ?_|refine rk ?_ ?_|exact fun s e=>by cases e;rfl|refine zs fun Z hs=>?_|refine Pure.use (xy _) ?_|refine aq (enc:=Pc) (x:=k) (fun v Z hs hsl=>?_) (hg:=N0)|(refine zb (fun hc=>?_) (fun hc=>?_)<;>try exact⟨⟩)|fail)<;>conv=>whnf)
  exact⟨hlt,_,rfl,fun _=>hsl,by rw[e1];exact hs⟩
 .obtain rfl:k=3:=by omega
  conv=>whnf
  repeat'((first|clear U K|apply st|(apply zk;intro K U)|refine zY ?_|(refine zb (fun hc=>?_) (fun hc=>?_)<;>try exact⟨⟩)|fail)<;>conv=>whnf)
  replace hv:=hv (by decide);refine FX hv (hAppend hs 2 rfl (ys:=[bW 0]) ⟨by decide,by decide⟩ (by intro e he;rw[JT.1 he];rfl) (by intro e he;rw[JT.1 he];intro v hv;exact(cz 0).2 v hv) fun v Z hs hsl=>?_);clear hv hck hlr hlt hk
  conv=>whnf
  repeat'((first|clear U K|apply st|(apply zk;intro K U)|refine zs fun Z hs=>?_|fail)<;>conv=>whnf)
  obtain⟨n9,l9,c9,rfl⟩:=VW hsl;replace hs:Sat Z [.box n1 [Pf,eI 0,.l [[eI 1]] true,.sl n9 l9 c9,.l [] true,eI 0],.box n0 SI,.own (.sl n9 l9 c9) 9 (pE 0)]:=hs;refine Ba 4 (fun k (_:V)=>[(5,eI (Au k))]) (fun k x=>[.box n1 [Pf,eI 0,.l [[eI 1]] true,.sl n9 l9 c9,x,eI 0],.box n0 SI,.own (.sl n9 l9 c9) 9 (pE k),.own x 3 ((List.range k).map (nR true))]) (fun _ _=>True) (.l [] true) rfl trivial (Ce hs 3) ?_;clear hs;rintro k x Z hk - hs;rcases(show k=0\/k=1\/k=2\/k=3\/k=4 by omega)with rfl|rfl|rfl|rfl|rfl
  .conv=>whnf
   repeat'((first|clear U K|apply st|(apply zk;intro K U)|refine zY ?_|refine zs fun Z hs=>?_|refine NR hs 2 rfl (by decide) ?_|refine Gp hs 2 rfl rfl rfl (by decide) fun Z hs=>?_|refine aq (enc:=nR true) (xs:=List.range 0) (x:=0) (fun v Z hs hsl=>?_) (hl:=by decide) (hg:=GO)|(refine zd (fun hc=>?_) (fun hc=>?_)<;>try exact⟨⟩)|fail)<;>conv=>whnf)
   all_goals first
    | exact⟨_,rfl,trivial,hs⟩
    | (exfalso;revert hc;decide)
  .conv=>whnf
   repeat'((first|clear U K|apply st|(apply zk;intro K U)|refine zY ?_|refine zs fun Z hs=>?_|refine NR hs 2 rfl (by decide) ?_|refine Gp hs 2 rfl rfl rfl (by decide) fun Z hs=>?_|refine aq (enc:=nR true) (xs:=List.range 1) (x:=1) (fun v Z hs hsl=>?_) (hl:=by decide) (hg:=GO)|(refine zd (fun hc=>?_) (fun hc=>?_)<;>try exact⟨⟩)|fail)<;>conv=>whnf)
   all_goals first
    | exact⟨_,rfl,trivial,hs⟩
    | (exfalso;revert hc;decide)
  .conv=>whnf
   repeat'((first|clear U K|apply st|(apply zk;intro K U)|refine zY ?_|refine zs fun Z hs=>?_|refine NR hs 2 rfl (by decide) ?_|refine Gp hs 2 rfl rfl rfl (by decide) fun Z hs=>?_|refine aq (enc:=nR true) (xs:=List.range 2) (x:=2) (fun v Z hs hsl=>?_) (hl:=by decide) (hg:=GO)|(refine zd (fun hc=>?_) (fun hc=>?_)<;>try exact⟨⟩)|fail)<;>conv=>whnf)
   all_goals first
    | exact⟨_,rfl,trivial,hs⟩
    | (exfalso;revert hc;decide)
  .conv=>whnf
   repeat'((first|clear U K|apply st|(apply zk;intro K U)|refine zY ?_|refine zs fun Z hs=>?_|refine NR hs 2 rfl (by decide) ?_|refine Gp hs 2 rfl rfl rfl (by decide) fun Z hs=>?_|refine aq (enc:=nR true) (xs:=List.range 3) (x:=3) (fun v Z hs hsl=>?_) (hl:=by decide) (hg:=GO)|(refine zd (fun hc=>?_) (fun hc=>?_)<;>try exact⟨⟩)|fail)<;>conv=>whnf)
   all_goals first
    | exact⟨_,rfl,trivial,hs⟩
    | (exfalso;revert hc;decide)
  .conv=>whnf
   repeat'((first|clear U K|apply st|(apply zk;intro K U)|refine zY ?_|refine zs fun Z hs=>?_|refine NR hs 2 rfl (by decide) ?_|refine NR hs 3 rfl (by decide) ?_|refine aq (enc:=nR true) (xs:=List.range 4) (x:=4) (fun v Z hs hsl=>?_) (hl:=by decide) (hg:=GO)|(refine zd (fun hc=>?_) (fun hc=>?_)<;>try exact⟨⟩)|fail)<;>conv=>whnf)
   all_goals try(exfalso;revert hc;decide)
   have o2:=F8 hs 3 rfl;refine FN hs 1 rfl rfl rfl (by simp[Pf,o2]) (by decide) fun Z hs=>?_
   clear o2;refine zz ?_;(repeat clear U K);repeat intro K U
   have hfr:Fa Z emp (V.a [Pf,eI 0,.l [[eI 1]] true,.sl n9 l9 c9,v,eI (((List.range 4).map (nR true)).length:Nat)]) (V.a [.l (Kw.AK.map LP) false,eI 0,.l [[eI 1]] false,.l ([Xq 0 0,Xq 1 1,Xq 2 2]++[bW 3]) false,.l ((List.range 4++[4]).map (nR false)) false,eI (((List.range 4).map (nR true)).length:Nat)]):= .a (.cons Wi (.cons (.refl _) (.cons OJ (.cons (Own.lr (hs.get (i:=2) rfl) (.cons (IC _ _) (.cons (IC _ _) (.cons (IC _ _) (.cons (Cm.refl _ _ _) .nil))))) (.cons (Own.lr (hs.get (i:=3) rfl) (Qb fv _)) (.cons (.refl _) .nil))))));refine Ft (Z2:=emp) (fun n o ho=>by cases ho) hfr ?_;show R.ret _=R.ret _
   kernel_rfl
def sN:Pure zP 39 [] (.a (A3 exH)):=by
 refine zZ kZ ?_;have hs:=Sn
 conv=>whnf
 repeat'((first|clear U K|apply st|(apply zk;intro K U)|refine zY ?_|refine zs fun Z hs=>?_|refine Pure.use (pZ _) ?_|refine Pure.use (yO _ _) ?_|refine mZ.use ?_|refine zo fun nn hnn Z hs=>?_|fail)<;>conv=>whnf)
 all_goals exact AF rfl
end Go.Gl
namespace Go.Gl
open Go.Proofs
abbrev gsT (x:List Int×Int):List V:=[.l (iL x.1) true,eI x.2]
def gsT_frz {Z Z':AD}: ∀xs:List (List Int×Int),EL Z Z' (xs.map gsT) (xs.map O2)
 | []=> .nil
 | _::r=> .cons (.cons OJ (.cons (.refl _) .nil)) (gsT_frz r)
def slA {Z:AD} {K:V->AD->Prop} (h:K (.l (W4.map gsT) false) Z):AP Z 2 (.l (W5.map gsT) true) none (some (eI 4)) none K:=
 ⟨fun e he=>by obtain⟨x,_,rfl⟩:=GL.1 he;rfl,by decide,by decide,by decide,h⟩
def slB {Z:AD} {K:V->AD->Prop} (h:K (.l ([([0,1],1)].map gsT) false) Z):AP Z 2 (.l (W5.map gsT) true) (some (eI 3)) (some (eI 4)) none K:=
 ⟨fun e he=>by obtain⟨x,_,rfl⟩:=GL.1 he;rfl,by decide,by decide,by decide,h⟩
attribute [local irreducible] As Af AV AQ AI AU AP AR AJ AT AM AN Ag Ar Sat AS Ap AX W
def same22T (xs:List (List Int×Int)) (hxl:xs.length<=256) (f g:Bool):Pure zP 37 [.l (xs.map O2) f,.l (xs.map gsT) g] (.b true):=
 (mS xs hxl f false).arg (.cons (.refl _) (.cons (.l (fun h=>by cases h) (gsT_frz xs)) .nil))
def nK:Pure zP 9 [] (.b true):=by
 have c1:=xG Kw 0;rw[qz]at c1;have c2:=lA Kw 0;rw[ia]at c2;have c3:=x6 Kw 0 [4] true;rw[x_of]at c3;have c4:=x6 Kw 0 [0] true;rw[x7]at c4;have c5:=PV Kw 0 4 iZ;rw[rB]at c5;have c6:=PV Kw 0 1 iY;rw[rA]at c6;have c7:=PV Kw 0 3 iX;rw[q9]at c7;have c8:=xE exH 0 [0,1,2,3] true;rw[l7]at c8;have c9:=k7 Kw 0 x8;rw[q8]at c9;have d1:=AAD Kw 0 [0,1] true;rw[rD]at d1;have d3:=fun a b=>Ep [1] [1] a b
 have d4:=fun a b=>Ep [3] [3] a b
 have d5:=UN (Ca (PX 3)) (Ca (PX 3));rw[(E2 _ _).2 rfl]at d5;have d6:=UN (Jb (PX 3) (Jb (PX 4) (Ca (PX 5)))) (Jb (PX 3) (Jb (PX 4) (Ca (PX 5))));rw[(E2 _ _).2 rfl]at d6;refine ctr9 kZ ?_;have hs:=Sn
 conv=>whnf
 repeat'((first|clear U K|apply st|(apply zk;intro K U)|refine zY ?_|refine rk ?_ ?_|exact fun s e=>by cases e;rfl|refine zs fun Z hs=>?_|refine slA ?_|refine slB ?_|refine ma.use ?_|refine sN.use ?_|refine Pure.use (pZ _) ?_|refine Pure.use (X8 _) ?_|refine Pure.use (iA _ _) ?_|refine c1.use ?_|refine c2.use ?_|refine c3.use ?_|refine c4.use ?_|refine c5.use ?_|refine c6.use ?_|refine c7.use ?_|refine c8.use ?_|refine c9.use ?_|refine d1.use ?_|refine Pure.use (same22T W5 (by decide) _ _) ?_|refine Pure.use (same22T W4 (by decide) _ _) ?_|refine Pure.use (same22T [([0,1],1)] (by decide) _ _) ?_|refine Pure.use (d3 _ _) ?_|refine Pure.use (d4 _ _) ?_|refine d5.use ?_|refine d6.use ?_|(refine zb (fun hc=>?_) (fun hc=>?_)<;>try exact⟨⟩)|refine zo fun nn hnn Z hs=>?_|fail)<;>conv=>whnf)
 all_goals first
  | exact AF rfl
  | (exfalso;simp at hc;done)
  | (exfalso;clear hc;rename_i hc;simp at hc;done)
end Go.Gl
