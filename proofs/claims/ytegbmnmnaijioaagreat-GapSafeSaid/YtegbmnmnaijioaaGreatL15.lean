import Derived.Test.YtegbmnmnaijioaaGreatL5
import Derived.Test.YtegbmnmnaijioaaGreatL6
import Derived.Test.YtegbmnmnaijioaaGreatL9
import Derived.Test.YtegbmnmnaijioaaGreatL11
import Derived.Test.YtegbmnmnaijioaaGreatL13
import Derived.Test.YtegbmnmnaijioaaGreatL14
set_option linter.all false
set_option linter.defProp false
noncomputable section
namespace Go.Gl
open Go.Proofs
abbrev uV (w:AJ) (us:List Nat) (L:Nat) (cs:List Int) (f:Bool):List V:=[.rp (gW w us),.m L,.l (iL cs) f]
attribute [local irreducible] As Am Ac AQ AM Ab AP AR AL Aa AN AO Ao Ax Sat AW Au Ad W
set_option maxHeartbeats 8000000 in
def Rn (w : AJ) (hw:CY w) {kf:Int->List Int->Kn} (hr:Dp w kf) (cs:List Int) (f:Bool) (hcs:cs.length<=3) {a:Int} (ha:0<=a) {p:List Int} (hp:p.length<=2) (fit:Nat->Bool) (hfit:p= []/\fit=IV cs a\/p≠[]/\fit=fun _=>true) (can:Int->Bool) {L:Nat}
    (hcan: ∀s∈(kf a p).AI,∀es,Br kf es->BK Tryz.prog 145 [.a (uV w (BQ w.parents) L cs f),B6 a (p++[s])] (Bk L es) fun r post=>r= .ret (.b (can s))/\GO kf L es post) {es:List Bx} (h:Br kf es) :
    BK Tryz.prog 145 [.a (uV w (BQ w.parents) L cs f),B6 a p] (Bk L es) fun r post=>r= .ret (.b ((List.range (3+w.parents.length)).any fun c=>decide (1<=c)&&(fit c&&UF w kf a p can c)))/\GO kf L es post:=by
 intro σ hs;have hM:=Mx;have hu:oY (BQ w.parents):=F6 _ _ (by have:=hw.1.1;omega);have hul:(BQ w.parents).length=3+w.parents.length:=DJ _ _;have hwp:=hw.1.1;have hint:=fun es (h:Br kf es)=>ux w hr h (L:=L) (a:=a) hp
 have hnon:=fun es (h:Br kf es)=>nk w hr h (L:=L) (a:=a) hp
 have hobj:=fun up hup es (hi:Br kf es)=>Y1 w hw (BQ w.parents) hr hp up hup 145 [.a (uV w (BQ w.parents) L cs f)] [] can (L:=L) hcan (es:=es) hi
 have hcP: ∀c,UF w kf a p can c=if c=1 then FT kf a p else if c=2 then C9 kf a p else QF w kf a p ((BQ w.parents).getD c 0) can:=fun _=>rfl
 generalize UF w kf a p can=cP at *;generalize BQ w.parents=us at *;have eul:((us.map fun u=>[eU u]).length:Int)=us.length:=by simp
 have hR0:((List.range (3+w.parents.length)).any fun c=>decide (1<=c)&&(fit c&&cP c))=((List.range us.length).drop 1).any fun c=>decide (1<=c)&&(fit c&&cP c):=by
  rw[hul,show 3+w.parents.length=(2+w.parents.length)+1 by omega,List.range_succ_eq_map];simp
 generalize ((List.range (3+w.parents.length)).any fun c=>decide (1<=c)&&(fit c&&cP c))=R at *;refine tY kZ ?_
 conv=>whnf
 repeat'((first|apply st|(apply sq;intro K U)|(apply si;intro A B Y Z)|(apply Y;clear Z B Y A)|(apply U;clear U K)|fail)<;>conv=>whnf)
 refine D3 (us.length - 1) (fun k (_:List Bx)=>[(5,eI ((k+1:Nat):Int))]) (fun _ x=>Bk L x) (fun k x=>(Br kf x/\Jb es x)/\R=((List.range us.length).drop (k+1)).any fun c=>decide (1<=c)&&(fit c&&cP c)) es rfl ⟨⟨h,.refl _⟩,hR0⟩ hs ?_;clear hs hR0;rintro k x σ hk ⟨⟨hi,hx⟩,hn⟩ hs;have hwk:IntKind.i64.wrap (((k+1:Nat):Int)+1)=((k+1+1:Nat):Int):=by rw[wrap64 (by omega) (by omega)];omega
 rcases Nat.lt_or_ge k (us.length - 1)with hlt|hge
 .have hrk : (List.range us.length)[k+1]? =some (k+1):=List.getElem?_range (by omega)
  rw[drop_cons hrk,QB,decide_eq_true (show 1<=k+1 by omega),D2]at hn;obtain⟨u,hu2⟩: ∃u,us[k+1]? =some u:=⟨_,ES (by omega)⟩
  have hu3:us[(((k+1:Nat):Int)).toNat]? =some u:=by rw[Hd];exact hu2
  have hug:us.getD (k+1) 0=u:=by rw[Ds,hu2];rfl
  have hu64:u<18446744073709551616:=hu u (Dm hu2);have hck:=hcP (k+1);rw[hug]at hck
  have d216:k+1<3->BK Tryz.prog 216 [.a (gv w us L),B6 a p,eI ((k+1:Nat):Int)] (Bk L x) fun r post=>r= .ret (.b (cP (k+1)))/\GO kf L x post:=fun h3=>by
   rcases k with _|_|k
   .rw[hck];exact hint x hi
   .rw[hck];exact hnon x hi
   .omega
  have d217:3<=k+1->BK Tryz.prog 217 [.a (gv w us L),B6 a p,eU u,.f (.func 145) [.a (uV w us L cs f)] []] (Bk L x) fun r post=>r= .ret (.b (cP (k+1)))/\GO kf L x post:=fun h3=>by
   rw[hck,if_neg (by omega),if_neg (by omega)];exact hobj u hu64 x hi
  clear hck hint hnon hobj hcP;generalize cP (k+1)=B at *;rcases hfit with⟨rfl,rfl⟩|⟨hpn,rfl⟩
  .by_cases hac:a<(cs.length:Int)
   .obtain ⟨y,hy⟩: ∃y,cs[a.toNat]? =some y:=⟨_,ES (by omega)⟩
    have hfv:IV cs a (k+1)=(y==((k+1:Nat):Int)):=by
     rw[IV,decide_eq_false (by omega),Bool.false_or,Ds,hy];rfl
    rw[hfv]at hn;by_cases hyk:y=((k+1:Nat):Int)
    .rw [Cr.2 hyk,D2]at hn
     cases B
     all_goals
      conv=>whnf
      repeat'((first|apply st|(apply sq;intro K U)|(apply si;intro A B Y Z)|(apply Y;clear Z B Y A)|(apply U;clear U K)|apply dr|refine⟨rfl,?_⟩|refine⟨kZ,?_⟩|refine Kf ?_|(constructor<;>intro hc<;>(try rw[hc])<;>(replace hc:=bp hc)<;>(try simp(disch:=omega) only[Bu,wrap64,AV]at hc)<;>try(exfalso;omega))|fail)<;>conv=>whnf)
      all_goals try(exfalso;omega)
      all_goals try(exfalso;simp at hc;done)
      all_goals
       first
        | refine(d216 (by omega)).use (rest:=[]) (by simpa using hs) ?_
        | refine(d217 (by omega)).use (rest:=[]) (by simpa using hs) ?_
       clear hs;rintro r post σ ⟨rfl,es2,hx2,hi2,rfl⟩ hs;rw[Ep]at hs
       conv=>whnf
       repeat'((first|apply st|(apply sq;intro K U)|(apply si;intro A B Y Z)|(apply Y;clear Z B Y A)|(apply U;clear U K)|apply dr|refine⟨rfl,?_⟩|refine FX ?_|refine Es ?_|refine Wr ?_|refine Ws ?_|(constructor<;>intro hc<;>(try rw[hc])<;>(replace hc:=bp hc)<;>try(exfalso;omega))|clear U K)<;>conv=>whnf)
       first
        | exact AK ⟨_,⟨by rw[hn];rfl,es2,hx.trans hx2,hi2,rfl⟩,hs⟩
        | exact⟨by omega,es2,by rw[hwk];rfl,⟨⟨hi2,hx.trans hx2⟩,by rw[hn];rfl⟩,hs⟩
    .rw[beq_eq_false_iff_ne.2 hyk,Bool.false_and,Bool.false_or]at hn
     conv=>whnf
     repeat'((first|apply st|(apply sq;intro K U)|(apply si;intro A B Y Z)|(apply Y;clear Z B Y A)|(apply U;clear U K)|apply dr|refine⟨rfl,?_⟩|refine⟨kZ,?_⟩|refine Kf ?_|(constructor<;>intro hc<;>(try rw[hc])<;>(replace hc:=bp hc)<;>(try simp(disch:=omega) only[Bu,wrap64,AV]at hc)<;>try(exfalso;omega))|clear U K)<;>conv=>whnf)
     all_goals try(exfalso;omega)
     all_goals try(exfalso;simp at hc;done)
     all_goals try exact absurd (by assumption) hyk
     all_goals try exact absurd rfl (by assumption)
     all_goals exact⟨by omega,x,by rw[hwk];rfl,⟨⟨hi,hx⟩,hn⟩,hs⟩
   .have hfv:IV cs a (k+1)=true:=by rw[IV,decide_eq_true (by omega)];rfl
    rw[hfv,D2]at hn;cases B
    all_goals
     conv=>whnf
     repeat'((first|apply st|(apply sq;intro K U)|(apply si;intro A B Y Z)|(apply Y;clear Z B Y A)|(apply U;clear U K)|apply dr|refine⟨rfl,?_⟩|refine⟨kZ,?_⟩|refine Kf ?_|(constructor<;>intro hc<;>(try rw[hc])<;>(replace hc:=bp hc)<;>(try simp(disch:=omega) only[Bu,wrap64,AV]at hc)<;>try(exfalso;omega))|fail)<;>conv=>whnf)
     all_goals try(exfalso;omega)
     all_goals try(exfalso;simp at hc;done)
     all_goals
      first
       | refine(d216 (by omega)).use (rest:=[]) (by simpa using hs) ?_
       | refine(d217 (by omega)).use (rest:=[]) (by simpa using hs) ?_
      clear hs;rintro r post σ ⟨rfl,es2,hx2,hi2,rfl⟩ hs;rw[Ep]at hs
      conv=>whnf
      repeat'((first|apply st|(apply sq;intro K U)|(apply si;intro A B Y Z)|(apply Y;clear Z B Y A)|(apply U;clear U K)|apply dr|refine⟨rfl,?_⟩|refine FX ?_|refine Es ?_|refine Wr ?_|refine Ws ?_|(constructor<;>intro hc<;>(try rw[hc])<;>(replace hc:=bp hc)<;>try(exfalso;omega))|clear U K)<;>conv=>whnf)
      first
       | exact AK ⟨_,⟨by rw[hn];rfl,es2,hx.trans hx2,hi2,rfl⟩,hs⟩
       | exact⟨by omega,es2,by rw[hwk];rfl,⟨⟨hi2,hx.trans hx2⟩,by rw[hn];rfl⟩,hs⟩
  .rw [D2]at hn
   have hpl:p.length≠0:=fun e=>hpn (Zm.1 e)
   cases B
   all_goals
    conv=>whnf
    repeat'((first|apply st|(apply sq;intro K U)|(apply si;intro A B Y Z)|(apply Y;clear Z B Y A)|(apply U;clear U K)|apply dr|refine⟨rfl,?_⟩|refine⟨kZ,?_⟩|refine Kf ?_|(constructor<;>intro hc<;>(try rw[hc])<;>(replace hc:=bp hc)<;>(try simp(disch:=omega) only[Bu,wrap64,AV]at hc)<;>try(exfalso;omega))|fail)<;>conv=>whnf)
    all_goals try(exfalso;omega)
    all_goals try(exfalso;simp at hc;done)
    all_goals
     first
      | refine(d216 (by omega)).use (rest:=[]) (by simpa using hs) ?_
      | refine(d217 (by omega)).use (rest:=[]) (by simpa using hs) ?_
     clear hs;rintro r post σ ⟨rfl,es2,hx2,hi2,rfl⟩ hs;rw[Ep]at hs
     conv=>whnf
     repeat'((first|apply st|(apply sq;intro K U)|(apply si;intro A B Y Z)|(apply Y;clear Z B Y A)|(apply U;clear U K)|apply dr|refine⟨rfl,?_⟩|refine FX ?_|refine Es ?_|refine Wr ?_|refine Ws ?_|(constructor<;>intro hc<;>(try rw[hc])<;>(replace hc:=bp hc)<;>try(exfalso;omega))|clear U K)<;>conv=>whnf)
     first
      | exact AK ⟨_,⟨by rw[hn];rfl,es2,hx.trans hx2,hi2,rfl⟩,hs⟩
      | exact⟨by omega,es2,by rw[hwk];rfl,⟨⟨hi2,hx.trans hx2⟩,by rw[hn];rfl⟩,hs⟩
 .rw[List.drop_of_length_le (by rw[List.length_range];omega),List.any_nil]at hn
  conv=>whnf
  repeat'((first|apply st|(apply sq;intro K U)|(apply si;intro A B Y Z)|(apply Y;clear Z B Y A)|(apply U;clear U K)|refine⟨rfl,?_⟩|(constructor<;>intro hc<;>(try rw[hc])<;>(replace hc:=bp hc)<;>(try simp(disch:=omega) only[Bu,wrap64,AV]at hc)<;>try(exfalso;omega))|clear U K)<;>conv=>whnf)
  all_goals try(exfalso;omega)
  all_goals exact AK ⟨_,⟨by rw[hn],x,hx,hi,rfl⟩,hs⟩
def mo (w:AJ) (hw:CY w) {kf:Int->List Int->Kn} (hr:Dp w kf) (cs:List Int) (f:Bool) (hcs:cs.length<=3) {a:Int} (ha:0<=a) {L:Nat}: ∀(d:Nat) (fit:Nat->Bool) (p:List Int),p.length+d=2->(p= []/\fit=IV cs a\/p≠[]/\fit=fun _=>true)-> ∀es,Br kf es->
    BK Tryz.prog 145 [.a (uV w (BQ w.parents) L cs f),B6 a p] (Bk L es) fun r post=>r= .ret (.b (QI w kf a d fit p))/\GO kf L es post:=by
 intro d
 induction d with
 | zero=>
   intro fit p hp hfit es h;rw[QI];exact Rn w hw hr cs f hcs ha (by omega) fit hfit _ (fun s hs=>by rw[hr.short a p (by omega)]at hs;cases hs) h
 | succ d ih=>
   intro fit p hp hfit es h;rw[QI];exact Rn w hw hr cs f hcs ha (by omega) fit hfit _ (fun s _ es h=>ih (fun _=>true) (p++[s]) (by simp;omega) (.inr ⟨by simp,rfl⟩) es h) h
def Yh (w:AJ) (hw:CY w) (cs:List Int) (f:Bool) (hcs:cs.length<=3):QL 144 [] [.rp [.rp (gW w (BQ w.parents))],.rp [.l (iL cs) f]] w (Zw w cs):=by
 intro l b hl hlen;refine Pure.of ?_;show As Tryz.prog 144 [Jx l b,.rp [.rp (gW w (BQ w.parents))],.rp [.l (iL cs) f]] _ _;have hr:=U5 hw hl hlen;have hlk:=Vr w (BQ w.parents) l b (LC (by have:=hw.1.1;omega) hl) hlen;have hT:Zw w cs l=(Bd 3).all fun a=>QI w (kg l) a 2 (IV cs a) []:=rfl
 rw[hT];refine tZ kZ ?_;have hs:=Sn
 conv=>whnf
 repeat'((first|apply st|(apply sq;intro K U)|(apply si;intro A B Y Z)|(apply Y;clear Z B Y A)|(apply U;clear U K)|apply dr|fail)<;>conv=>whnf)
 refine hlk.use (rest:=[]) (by simpa using hs) ?_;clear hs;rintro r post σ ⟨L,es,rfl,hinv,rfl⟩ hs;rw[Ep]at hs
 conv=>whnf
 repeat'((first|apply st|apply dr|refine rk ?_ ?_|exact fun s e=>by cases e;rfl|fail)<;>conv=>whnf)
 refine(Um 145 [.a (uV w (BQ w.parents) L cs f)] [] (fun a=>QI w (kg l) a 2 (IV cs a) []) (fun a h0 _ es hi=>mo w hw hr cs f hcs h0 2 (IV cs a) [] rfl (.inl ⟨rfl,rfl⟩) es hi) hinv).use (rest:=[]) (by simpa using hs) ?_;clear hs;rintro r post σ ⟨rfl,es2,hx2,hi2,rfl⟩ hs
 conv=>whnf
 repeat'((first|apply st|(apply Y;clear Z B Y A)|(apply U;clear U K)|apply dr|fail)<;>conv=>whnf)
 exact AK rfl
end Go.Gl
namespace Go.Gl
open Go.Proofs
attribute [local irreducible] As Am Ac AQ AM Ab AP AR AL Aa AN AO Ao Ax Sat AW Au Ad W
abbrev nJ (p:Prog) (gen:Int):List V:=Ba p++[eI gen,.l (iL (Fw p gen)) false]
abbrev ui:List V:=[.l [] true,eI 0,.l [] true,.l [] true,.l [] true,eI 0,eI 0,.l [] true]
def wR (p:Prog) (gen:Int):Pure Tryz.prog 131 [.a (Ba p),eI gen] (.t [.a (if Fh p gen then nJ p gen else ui),.b (Fh p gen)]):=by
 refine Pure.fit (by kernel_rfl) fun hf=>?_
 have F:=UU hf.1;have⟨p1,p2,p3,p4⟩:=OW hf.1;have hM:=Mx;have c1:=Vt p;rw[Fh];cases h1:(Bf p).isSome<;>rw[h1]at c1
 .rw[if_neg (by decide)]at c1
  refine XJ kZ ?_;have hs:=Sn
  conv=>whnf
  repeat'((first|apply st|(apply sq;intro K U)|(apply si;intro A B Y Z)|(apply Y;clear Z B Y A)|(apply U;clear U K)|refine⟨rfl,?_⟩|refine⟨kZ,?_⟩|refine ld ?_|refine Di fun σ hs=>?_|refine c1.use ?_|(constructor<;>intro hc<;>(try rw[hc])<;>(replace hc:=bp hc)<;>try(exfalso;omega))|(intro nn hnn;generalize hg:A6 _ nn _=σ;refine Ci hg fun hs=>?_;clear hg)|clear U K)<;>conv=>whnf)
  all_goals exact AS rfl
 rw[if_pos rfl]at c1;have h16:=(look_ok h1).many;cases h2:jo p gen
 .simp only[jo,Bool.and_eq_false_iff,decide_eq_false_iff_not]at h2
  refine XJ kZ ?_;have hs:=Sn
  conv=>whnf
  repeat'((first|apply st|(apply sq;intro K U)|(apply si;intro A B Y Z)|(apply Y;clear Z B Y A)|(apply U;clear U K)|refine⟨rfl,?_⟩|refine⟨kZ,?_⟩|refine ld ?_|refine Di fun σ hs=>?_|refine c1.use ?_|(constructor<;>intro hc<;>(try rw[hc])<;>(replace hc:=bp hc)<;>(try simp(disch:=omega) only[Bu,wrap64,AV]at hc)<;>try(exfalso;omega))|(intro nn hnn;generalize hg:A6 _ nn _=σ;refine Ci hg fun hs=>?_;clear hg)|clear U K)<;>conv=>whnf)
  all_goals first
   | exact AS rfl
   | (exfalso;simp at *;omega)
 have h2r:=h2;simp only[jo,A8,Cm]at h2r;refine XJ kZ ?_;have hs:=Sn
 conv=>whnf
 repeat'((first|apply st|(apply sq;intro K U)|(apply si;intro A B Y Z)|(apply Y;clear Z B Y A)|(apply U;clear U K)|refine⟨rfl,?_⟩|refine⟨kZ,?_⟩|refine Di fun σ hs=>?_|refine c1.use ?_|(constructor<;>intro hc<;>(try rw[hc])<;>(replace hc:=bp hc)<;>(try simp(disch:=omega) only[Bu,wrap64,AV]at hc)<;>try(exfalso;omega))|(intro nn hnn;generalize hg:A6 _ nn _=σ;refine Ci hg fun hs=>?_;clear hg)|fail)<;>conv=>whnf)
 rename_i n4 _ _ _ _ _ _ _;refine D3 p.methods.length (fun k (_:V)=>[(30,eI (Bq k))]) (fun k v=>[.box nn (Ba p++[eI gen,v]),.box n4 ui,.own v 1 (iL (cu p gen k))]) (fun _ _=>True) (.l [] true) rfl trivial (OF hs 1) ?_;clear hs;rintro k v σ hk - hs;have hal:=lx p gen k;rcases BM p.methods hk with⟨x,hx,hlt⟩|hke
 .have hck:Bq k=k:=AV (by omega)
  have hxe:=lK hx;have hst:=iP p gen k;rw[hxe]at hst;generalize cu p gen k=zs at *;have hll:zs.length<Ay/\(zs.length+1)*8<=140737488355328:=by omega
  by_cases hg:x.gen=gen
  .rw[if_pos (Cr.2 hg)]at hst
   conv=>whnf
   repeat'((first|apply st|(apply sq;intro K U)|(apply si;intro A B Y Z)|(apply Y;clear Z B Y A)|(apply U;clear U K)|refine⟨rfl,?_⟩|refine⟨kZ,?_⟩|refine ix ?_|refine ld ?_|refine EK fun σ hs=>?_|refine Di fun σ hs=>?_|refine aq fun v σ hs hsl=>?_|(refine DV (fun hc=>?_)<;>(try rw[hc])<;>clear hc)|(constructor<;>intro hc<;>(try rw[hc])<;>(replace hc:=bp hc)<;>try(exfalso;omega))|(intro nn hnn;generalize hg:A6 _ nn _=σ;refine Ci hg fun hs=>?_;clear hg)|clear U K)<;>conv=>whnf)
   exact⟨hlt,_,rfl,trivial,by rw[hst,<-hck];exact hs.less (Mz _ _)⟩
  .rw[if_neg (by simpa using hg)]at hst
   conv=>whnf
   repeat'((first|apply st|(apply sq;intro K U)|(apply si;intro A B Y Z)|(apply Y;clear Z B Y A)|(apply U;clear U K)|refine⟨rfl,?_⟩|refine⟨kZ,?_⟩|refine ix ?_|refine ld ?_|refine Di fun σ hs=>?_|(refine DV (fun hc=>?_)<;>(try rw[hc])<;>clear hc)|(constructor<;>intro hc<;>(try rw[hc])<;>(replace hc:=bp hc)<;>try(exfalso;omega))|(intro nn hnn;generalize hg:A6 _ nn _=σ;refine Ci hg fun hs=>?_;clear hg)|clear U K)<;>conv=>whnf)
   exact⟨hlt,_,rfl,trivial,by rw[hst];exact hs.less (Mz _ _)⟩
 .rw[hke]at hs
  conv=>whnf
  repeat'((first|apply st|(apply sq;intro K U)|(apply si;intro A B Y Z)|(apply Y;clear Z B Y A)|(apply U;clear U K)|refine⟨rfl,?_⟩|refine⟨kZ,?_⟩|refine ld ?_|(refine EZ (fun hc=>?_)<;>(try rw[hc])<;>clear hc)|clear U K)<;>conv=>whnf)
  have o1:=IS hs 2 rfl;refine MH hs 1 rfl rfl rfl (by simp[Ba,o1]) (by decide) fun σ hs=>?_
  clear o1
  conv=>whnf
  repeat'((first|apply st|(apply Y;clear Z B Y A)|(apply U;clear U K)|refine⟨kZ,?_⟩|refine ld ?_|fail)<;>conv=>whnf)
  exact B3 (.t (.cons (.a (.cons (.refl _) (.cons (.refl _) (.cons (.refl _) (.cons (.refl _) (.cons (.refl _) (.cons (.refl _) (.cons (.refl _) (.cons (hs.IJ 2 rfl) .nil))))))))) (.cons (.refl _) .nil)))
def vW (p:Prog) (gen:Int):Pure Tryz.prog 132 [.a (nJ p gen)] (eI (if(Fw p gen).length<=8 then 0 else 3)):=by
 have e1:((iL (Fw p gen)).length:Int)=(Fw p gen).length:=by simp
 refine th kZ ?_;have hs:=Sn
 conv=>whnf
 repeat'((first|apply st|(apply sq;intro K U)|(apply si;intro A B Y Z)|(apply Y;clear Z B Y A)|(apply U;clear U K)|refine⟨rfl,?_⟩|(constructor<;>intro hc<;>(try rw[hc])<;>(replace hc:=bp hc)<;>(try simp(disch:=omega) only[Bu,wrap64,AV]at hc))|clear U K)<;>conv=>whnf)
 .exact AS (by rw[if_neg (by omega)])
 .exact AS (by rw[if_pos (by omega)])
def dw (a b c:Bool):Pure Tryz.prog 134 [.b a,.b b,.b c] (eI (if a then 4 else if b then 3 else if c then 2 else 1)):=by
 cases a<;>cases b<;>cases c
 all_goals
  refine tf kZ ?_;have hs:=Sn
  conv=>whnf
  repeat'((first|apply st|(apply sq;intro K U)|(apply si;intro A B Y Z)|(apply Y;clear Z B Y A)|(apply U;clear U K)|refine⟨rfl,?_⟩|clear U K)<;>conv=>whnf)
  all_goals exact AS rfl
def xT (l:List Int):(((iL l).length:Int)==0)=decide (l.length=0):=by
 rw[Bu,Hf,Cr,Cm];omega
set_option maxHeartbeats 4000000 in
def eM (p:Prog) (gen:Int) (l:List Int) (f:Bool) (h:Fh p gen=true) (Z:QE p gen l=true):Pure Tryz.prog 62 [.a (nJ p gen),.l (iL l) f] (eI (oW p l)):=by
 rw[Fh,A8]at h;have hok:=look_ok h.1;have c1:=uJ p l f (Nat.le_trans (gb Z) (Nat.le_trans hok.many (by decide)));rw[SP,h.1,Qv Z,Bool.and_self,if_pos rfl]at c1;rw[oW];clear h hok Z;generalize Ko (Az p) p l=x at *;obtain⟨⟨ar,cd,be,pr,prt,af⟩,b⟩:=x;cases b
 .rw[show dX (⟨ar,cd,be,pr,prt,af⟩,false)=(uf,5) from rfl]at c1
  refine oE kZ ?_;have hs:=Sn
  conv=>whnf
  repeat'((first|apply st|(apply sq;intro K U)|(apply si;intro A B Y Z)|(apply Y;clear Z B Y A)|(apply U;clear U K)|refine⟨rfl,?_⟩|refine⟨kZ,?_⟩|refine Di fun σ hs=>?_|refine c1.use ?_|refine Pure.use (dw _ _ _) ?_|(constructor<;>intro hc<;>(try rw[hc])<;>(replace hc:=bp hc)<;>(try simp(disch:=omega) only[Bu,wrap64,AV]at hc)<;>try(exfalso;omega))|(intro nn hnn;generalize hg:A6 _ nn _=σ;refine Ci hg fun hs=>?_;clear hg)|clear U K)<;>conv=>whnf)
  all_goals exact AS rfl
 rw[show dX (⟨ar,cd,be,pr,prt,af⟩,true)=(⟨ar,cd,be,pr,prt,af⟩,0) from rfl]at c1;rw[pY];cases ha:decide (ar.length=0)<;>cases hp:decide (pr.length=0)<;>cases cd<;>cases prt
 all_goals
  first|replace ha:=of_decide_eq_true ha|replace ha:=of_decide_eq_false ha
  first|replace hp:=of_decide_eq_true hp|replace hp:=of_decide_eq_false hp
  refine oE kZ ?_;have hs:=Sn
  conv=>whnf
  repeat'((first|apply st|(apply sq;intro K U)|(apply si;intro A B Y Z)|(apply Y;clear Z B Y A)|(apply U;clear U K)|refine⟨rfl,?_⟩|refine⟨kZ,?_⟩|refine ld ?_|refine Di fun σ hs=>?_|refine c1.use ?_|refine Pure.use (dw _ _ _) ?_|(constructor<;>intro hc<;>(try rw[hc])<;>(replace hc:=bp hc)<;>(try simp(disch:=omega) only[Bu,wrap64,AV]at hc)<;>try(exfalso;omega))|(intro nn hnn;generalize hg:A6 _ nn _=σ;refine Ci hg fun hs=>?_;clear hg)|fail)<;>conv=>whnf)
  all_goals first|exact AS rfl|exact AS (by simp only[xT];simp[ha,hp])
def Kl (p:Prog) (gen:Int) (b:Bool):Int:=if Fh p gen then(if b then(if(Fw p gen).length<=8 then 0 else 3)else 2)else 2
abbrev Wu (p:Prog) (gen:Int) (b:Bool):List V:=if Fh p gen&&b then nJ p gen else ui
def IC {p:Prog} {gen:Int} (h:Fh p gen=false) (b:Bool):Wu p gen b=ui/\Kl p gen b=2:=by rw[Wu,Kl,h];exact⟨rfl,rfl⟩
def oI {p:Prog} {gen:Int}:Wu p gen false=ui/\Kl p gen false=2:=by
 rw[Wu,Kl,Bool.and_false];exact⟨rfl,by split<;>rfl⟩
def IB {p:Prog} {gen:Int} (h:Fh p gen=true):Wu p gen true=nJ p gen/\Kl p gen true=if(Fw p gen).length<=8 then 0 else 3:=by rw[Wu,Kl,h];exact⟨rfl,rfl⟩
def XN (p:Prog) (gen:Int) (k:Nat) (ca:List V) (b:Bool) (c2:Fh p gen=true->Pure Tryz.prog k (.a (nJ p gen)::ca) (.b b)):Pure Tryz.prog 59 [.a (Ba p),eI gen,.f (.func k) [] ca] (.t [.a (Wu p gen b),eI (Kl p gen b)]):=by
 have c1:=wR p gen;have c3:=vW p gen;cases h1:Fh p gen<;>rw[h1]at c1
 .rw[(IC h1 b).1,(IC h1 b).2]
  rw[if_neg (by decide)]at c1;refine dm kZ ?_;have hs:=Sn
  conv=>whnf
  repeat'((first|apply st|(apply sq;intro K U)|(apply si;intro A B Y Z)|(apply Y;clear Z B Y A)|(apply U;clear U K)|refine⟨kZ,?_⟩|refine ld ?_|refine Di fun σ hs=>?_|refine Wr ?_|refine c1.use ?_|(intro nn hnn;generalize hg:A6 _ nn _=σ;refine Ci hg fun hs=>?_;clear hg)|clear U K)<;>conv=>whnf)
  all_goals exact AS rfl
 replace c2:=c2 h1;rw[if_pos rfl]at c1;cases b
 .rw[oI.1,oI.2]
  refine dm kZ ?_;have hs:=Sn
  conv=>whnf
  repeat'((first|apply st|(apply sq;intro K U)|(apply si;intro A B Y Z)|(apply Y;clear Z B Y A)|(apply U;clear U K)|refine⟨kZ,?_⟩|refine ld ?_|refine Di fun σ hs=>?_|refine FX ?_|refine Ws ?_|refine c1.use ?_|refine BD (c2.use ?_)|(intro nn hnn;generalize hg:A6 _ nn _=σ;refine Ci hg fun hs=>?_;clear hg)|clear U K)<;>conv=>whnf)
  all_goals exact AS rfl
 .rw[(IB h1).1,(IB h1).2]
  refine dm kZ ?_;have hs:=Sn
  conv=>whnf
  repeat'((first|apply st|(apply sq;intro K U)|(apply si;intro A B Y Z)|(apply Y;clear Z B Y A)|(apply U;clear U K)|apply dr|refine rk ?_ ?_|exact fun s e=>by cases e;rfl|refine⟨kZ,?_⟩|refine ld ?_|refine Di fun σ hs=>?_|refine Es ?_|refine Ws ?_|refine c1.use ?_|refine BD (c2.use ?_)|refine c3.use ?_|(intro nn hnn;generalize hg:A6 _ nn _=σ;refine Ci hg fun hs=>?_;clear hg)|fail)<;>conv=>whnf)
  all_goals exact AS rfl
end Go.Gl
namespace Go.Gl
open Go.Proofs
def Ki (so:Nat->Nat->Bool):Nat->Nat->Nat->List Nat
 | 0,many,s=>if so s many then [s]else []
 | d+1,many,s=>if so s many then Ki so d (many+1) s++Ki so d (many+1) (s|||2 ^ many)else []
def P0 (s n:Nat):CG s (n+1)=CG s n++[s.testBit n]:=by simp[CG,List.range_succ]
def Pz {s n:Nat} (h:s<2 ^ n):CG (s|||2 ^ n) (n+1)=CG s n++[true]/\CG s (n+1)=CG s n++[false]/\s|||2 ^ n<2 ^ (n+1)/\s<2 ^ (n+1):=by
 have hp:2 ^ n<2 ^ (n+1):=Nat.pow_lt_pow_right (by omega) (by omega);have hn:s.testBit n=false:=Nat.testBit_lt_two_pow h;refine⟨?_,by rw[P0,hn],Nat.or_lt_two_pow (by omega) hp,by omega⟩;rw[P0,De,hn];simp only[beq_self_eq_true,Bool.or_true];congr 1;refine List.map_congr_left fun i hi=>?_
 rw[De,beq_eq_false_iff_ne.2 (by have:=List.mem_range.1 hi;omega),Bool.or_false]
def Of {so:Nat->Nat->Bool} {E:List Bool->Bool}: ∀(d many s:Nat),s<2 ^ many->(∀s n,n<=many+d->so s n=E (CG s n))->(Ki so d many s).map (fun x=>CG x (many+d))=Gd E d (CG s many)/\ ∀x∈Ki so d many s,x<2 ^ (many+d)
 | 0,many,s,hs,hE=>by
   rw[Ki,Gd,hE s many (by omega)];split
   .exact⟨rfl,fun x hx=>by rw[My.1 hx];exact hs⟩
   .exact⟨rfl,fun x hx=>by cases hx⟩
 | d + 1,many,s,hs,hE=>by
   obtain⟨b1,b2,b3,b4⟩:=Pz hs;obtain⟨i1,i2⟩:=Of (so:=so) (E:=E) d (many+1) s b4 (fun s n hn=>hE s n (by omega));obtain⟨j1,j2⟩:=Of (so:=so) (E:=E) d (many+1) (s|||2 ^ many) b3 (fun s n hn=>hE s n (by omega));rw[b2]at i1;rw[b1]at j1;rw[show many+1+d=many+(d+1) by omega]at i1 i2 j1 j2;rw[Ki,Gd,hE s many (by omega)];split
   .refine⟨by rw[YF,i1,j1],fun x hx=>?_⟩
    rcases Dr.1 hx with hx|hx
    .exact i2 x hx
    .exact j2 x hx
   .exact⟨rfl,fun x hx=>by cases hx⟩
abbrev soV (g:FuncId) (fi ca:List V) (p:Prog) (gen:Int) (ms:List Int):V:= .f (.func 207) [] [.rp [.f (.func g) fi ca],.rp (Tu p gen ms)]
abbrev vE (p:Prog) (gen:Int) (ms:List Int) (yv:V) (nS nW:Nat):V:= .f (.func 211) [] [.p nS 0,.rp (Tu p gen ms),.rp [yv],.p nW 0]
section
variable {g:FuncId} {fi ca:List V} {p:Prog} {gen:Int} {ms:List Int} {tog:List Fact->Bool}
attribute [local irreducible] As Am Ac AQ AM Ab AP AR AL Aa AN AO Ao Ax Sat AW Au Ad W
def Uh {α S:Type} (P:Program) (x:V) (ea:α->V) (HL:S->List At->Prop) (stp:α->S->Bool×S) (D:α->S->Prop) (pre:List At):Prop:=
 ∀y s,D y s-> ∀l σ,HL s l->Sat σ (pre++l)->Ao P x [ea y] σ fun r σ'=>r= .ret (.b (stp y s).1)/\ ∃l',HL (stp y s).2 l'/\Sat σ' (pre++l')
def Uh.use {α S:Type} {P:Program} {x:V} {ea:α->V} {HL:S->List At->Prop} {stp:α->S->Bool×S} {D:α->S->Prop} {pre:List At} (h:Uh P x ea HL stp D pre) {y:α} {s:S} (hd:D y s) {l:List At} {σ:AH} (hl:HL s l) (hs:Sat σ (pre++l)) {k kp:V->AH->Prop} (hk: ∀l' σ',HL (stp y s).2 l'->Sat σ' (pre++l')->k (.b (stp y s).1) σ'):Ao P x [ea y] σ (qk k kp):=
 (h y s hd l σ hl hs).mono fun r σ' ⟨e,l',h1,h2⟩=>by rw[e];exact hk l' σ' h1 h2
abbrev jl (g:FuncId) (fi ca:List V) (p:Prog) (gen:Int) (ms:List Int) (yv:V) (nS nW:Nat):List At:=[.box nW [vE p gen ms yv nS nW],.box nS [soV g fi ca p gen ms]]
set_option maxHeartbeats 2000000 in
def jz {S:Type} (h:T8 p ms) (hcan:QL g fi ca (AT p) tog) {fn:Fn} {fiy cay:List V} {HL:S->List At->Prop} {stp:Nat->S->Bool×S} {D:Nat->S->Prop} {nS nW:Nat}
    (hy:Uh Tryz.prog (.f fn fiy cay) eU HL stp D (jl g fi ca p gen ms (.f fn fiy cay) nS nW)) :
    ∀(d many s:Nat) (z0:S),many+d=ms.length->s<2 ^ many->P9 stp D (Ki (fun s n=>Eb tog (G1 p ms) (CG s n)) d many s) z0-> ∀l σ,HL z0 l->Sat σ (jl g fi ca p gen ms (.f fn fiy cay) nS nW++l)->
    As Tryz.prog 211 [eU s,eI many,.p nS 0,.rp (Tu p gen ms),.rp [.f fn fiy cay],.p nW 0] σ fun r σ'=>r= .ret (.b (B5 stp (Ki (fun s n=>Eb tog (G1 p ms) (CG s n)) d many s) z0).1)/\
     ∃l',HL (B5 stp (Ki (fun s n=>Eb tog (G1 p ms) (CG s n)) d many s) z0).2 l'/\Sat σ' (jl g fi ca p gen ms (.f fn fiy cay) nS nW++l'):=by
 have hM:=Mx;have hfew:=h.wc;intro d
 induction d with
 | zero=>
   intro many s z0 hmd hs2 hok l σ hl hs;have hs64:s<18446744073709551616:=Nat.lt_of_lt_of_le hs2 (Nat.le_trans (Nat.pow_le_pow_right (by omega) (show many<=8 by omega)) (by decide));have c1:=nV (gen:=gen) h hcan (s:=s) (many:=many) hs64 (by omega);rw[Ki]at hok ⊢;cases Z:Eb tog (G1 p ms) (CG s many)<;>rw[Z]at c1
   .simp only[Z,Kc,if_false]at hok ⊢
    refine Sj kZ ?_
    conv=>whnf
    repeat'((first|apply st|(apply sq;intro K U)|(apply si;intro A B Y Z)|(apply Y;clear Z B Y A)|(apply U;clear U K)|refine ld ?_|refine FX ?_|refine BD (c1.use ?_)|clear U K)<;>conv=>whnf)
    all_goals exact AK ⟨rfl,l,hl,hs⟩
   .simp only[Z,if_true]at hok ⊢
    rw[PJ];refine Sj kZ ?_
    conv=>whnf
    repeat'((first|apply st|(apply sq;intro K U)|(apply si;intro A B Y Z)|(apply Y;clear Z B Y A)|(apply U;clear U K)|refine⟨rfl,?_⟩|refine ld ?_|refine Es ?_|refine BD (c1.use ?_)|(constructor<;>intro hc<;>(try rw[hc])<;>(replace hc:=bp hc)<;>(try simp(disch:=omega) only[Bu,wrap64,AV]at hc)<;>try(exfalso;omega))|fail)<;>conv=>whnf)
    all_goals try(exfalso;simp at hc;omega)
    refine hy.use hok.1 hl hs ?_;clear hs;intro l' σ hl' hs
    conv=>whnf
    repeat'((first|apply st|(apply Y;clear Z B Y A)|(apply U;clear U K)|clear U K)<;>conv=>whnf)
    exact AK ⟨rfl,l',hl',hs⟩
 | succ d ih=>
   intro many s z0 hmd hs2 hok l σ hl hs;have hs64:s<18446744073709551616:=Nat.lt_of_lt_of_le hs2 (Nat.le_trans (Nat.pow_le_pow_right (by omega) (show many<=8 by omega)) (by decide));have c1:=nV (gen:=gen) h hcan (s:=s) (many:=many) hs64 (by omega);obtain⟨-,-,b3,b4⟩:=Pz hs2;rw[Ki]at hok ⊢;cases Z:Eb tog (G1 p ms) (CG s many)<;>rw[Z]at c1
   .simp only[Z,Kc,if_false]at hok ⊢
    refine Sj kZ ?_
    conv=>whnf
    repeat'((first|apply st|(apply sq;intro K U)|(apply si;intro A B Y Z)|(apply Y;clear Z B Y A)|(apply U;clear U K)|refine ld ?_|refine FX ?_|refine BD (c1.use ?_)|clear U K)<;>conv=>whnf)
    all_goals exact AK ⟨rfl,l,hl,hs⟩
   .simp only[Z,if_true]at hok ⊢
    obtain⟨ok1,ok2⟩:=Nz hok;have i1:=ih (many+1) s z0 (by omega) b4 ok1;have i2:=fun z0 h=>ih (many+1) (s|||2 ^ many) z0 (by omega) b3 h
    have c2:=MA s (many:Int) hs64 (by omega) (by omega);rw[Hd]at c2;have hwi:IntKind.i64.wrap ((many:Int)+1)=((many+1:Nat):Int):=by rw[wrap64 (by omega) (by omega)];omega
    rw[<-hwi]at i1 i2;rw[Li];generalize Ki (fun s n=>Eb tog (G1 p ms) (CG s n)) d (many+1) s=A1 at *;generalize Ki (fun s n=>Eb tog (G1 p ms) (CG s n)) d (many+1) (s|||2 ^ many)=A2 at *;generalize hx1:B5 stp A1 z0=x1 at *;obtain⟨q1,z1⟩:=x1;dsimp only at i1 ok2 ⊢;refine Sj kZ ?_
    conv=>whnf
    repeat'((first|apply st|(apply sq;intro K U)|(apply si;intro A B Y Z)|(apply Y;clear Z B Y A)|(apply U;clear U K)|apply dr|refine⟨rfl,?_⟩|refine ld ?_|refine Es ?_|refine BD (c1.use ?_)|(constructor<;>intro hc<;>(try rw[hc])<;>(replace hc:=bp hc)<;>(try simp(disch:=omega) only[Bu,wrap64,AV]at hc)<;>try(exfalso;omega))|fail)<;>conv=>whnf)
    all_goals try(exfalso;simp at hc;omega)
    refine BD (As.mono (i1 l σ hl hs) ?_);clear hs;rintro r σ ⟨rfl,l1,hl1,hs⟩;cases q1
    .conv=>whnf
     repeat'((first|apply st|(apply Y;clear Z B Y A)|(apply U;clear U K)|apply dr|refine rk ?_ ?_|exact fun s e=>by cases e;rfl|fail)<;>conv=>whnf)
     exact AK ⟨rfl,l1,hl1,hs⟩
    .have i3:=i2 z1 (ok2 rfl)
     conv=>whnf
     repeat'((first|apply st|apply dr|refine rk ?_ ?_|exact fun s e=>by cases e;rfl|refine⟨rfl,?_⟩|refine ld ?_|refine c2.use ?_|fail)<;>conv=>whnf)
     refine BD (As.mono (i3 l1 σ hl1 hs) ?_);clear hs;rintro r σ ⟨rfl,l2,hl2,hs⟩
     conv=>whnf
     repeat'((first|apply st|(apply Y;clear Z B Y A)|(apply U;clear U K)|apply dr|fail)<;>conv=>whnf)
     exact AK ⟨rfl,l2,hl2,hs⟩
end
end Go.Gl
namespace Go.Gl
open Go.Proofs
abbrev Dv (ms:List Int) (s:Nat):List Int:=Ee ms (CG s ms.length)
abbrev L6 (p:Prog) (tog:List Fact->Bool) (ms:List Int):List Nat:=Ki (fun s n=>Eb tog (G1 p ms) (CG s n)) ms.length 0 0
def PR {P:Program} {α S:Type} {L:Nat} {E:Env} {ps:List Nat} {a b:AX} {ea:α->V} {HB:S->List At->Prop} (le:S->od) {stp:α->S->Bool×S} {D:α->S->Prop} {pre:List At} (hps:ps.length=1) (hD: ∀y s,D y s->le s= .ready)
    (h: ∀y s,D y s-> ∀l,HB s l-> ∀σ,Sat σ (l++pre)->W P a (CK (W P b fun ex env' σ'=>σ' L=none->Oo L E (Bb P ps a b) (fun r σ'=>r= .ret (.b (stp y s).1)/\ ∃l',HB (stp y s).2 l'/\Sat σ' (.obj L (.loop (le (stp y s).2) E (Bb P ps a b))::(l'++pre))) ex env' σ')) (EC ps [ea y] E) σ) :
    Uh P (.f (.yield L) [] []) ea (fun s l=> ∃l',l= .obj L (.loop (le s) E (Bb P ps a b))::l'/\HB s l') stp D pre:=by
 rintro y s hd _ σ ⟨l',rfl,hl'⟩ hs
 have hs':Sat σ (.obj L (.loop .ready E (Bb P ps a b))::(l'++pre)):=by
  have:=hs.perm Np;rw[hD y s hd]at this;exact this
 show L9 P L [ea y] σ _;refine L9.mono (KU (hs'.get (i:=0) rfl) (by rw[hps];rfl) (h y s hd l' hl' _ hs'.del)) ?_;rintro r σ' ⟨e,l2,h1,h2⟩;exact⟨e,_,⟨l2,rfl,h1⟩,h2.perm (Np (l₁:=_::l2))⟩
section
variable {g:FuncId} {fi ca:List V} {p:Prog} {gen:Int} {ms:List Int} {tog:List Fact->Bool}
abbrev Wg (g:FuncId) (fi ca:List V) (p:Prog) (gen:Int) (ms:List Int):V:= .f (.func 206) [] [.rp [.f (.func g) fi ca],.rp (Tu p gen ms)]
attribute [local irreducible] As Am Ac AQ AM Ab AP AR AL Aa AN AO Ao Ax Sat AW Au Ad W
def Yi:Pure Tryz.prog 139 [.a (Tu p gen ms),.f (.func g) fi ca] (Wg g fi ca p gen ms):=by
 refine td kZ ?_;have hs:=Sn
 conv=>whnf
 repeat'((first|apply st|(apply sq;intro K U)|(apply si;intro A B Y Z)|(apply Y;clear Z B Y A)|(apply U;clear U K)|fail)<;>conv=>whnf)
 all_goals exact AS rfl
def fC {S:Type} (h:T8 p ms) (hcan:QL g fi ca (AT p) tog) {fn:Fn} {fiy cay:List V} {HL:S->List At->Prop} {stp:Nat->S->Bool×S} {D:Nat->S->Prop}
    (hy: ∀nS nW,Uh Tryz.prog (.f fn fiy cay) eU HL stp D (jl g fi ca p gen ms (.f fn fiy cay) nS nW)) (z0:S) (hok:P9 stp D (L6 p tog ms) z0) {l:List At} {σ:AH} (hl:HL z0 l) (hs:Sat σ l) :
    As Tryz.prog 206 [.f fn fiy cay,.rp [.f (.func g) fi ca],.rp (Tu p gen ms)] σ fun r σ'=>r= .ret (.t [])/\ ∃l',HL (B5 stp (L6 p tog ms) z0).2 l'/\Sat σ' l':=by
 refine s7 kZ ?_
 conv=>whnf
 repeat'((first|(apply sq;intro K U)|(apply si;intro A B Y Z)|(apply Y;clear Z B Y A)|(apply U;clear U K)|refine ld ?_|refine EK fun σ hs=>?_|(intro nn hnn;generalize hg:A6 _ nn _=σ;refine Ci hg fun hs=>?_;clear hg)|fail)<;>conv=>whnf)
 refine BD (As.mono (jz h hcan (hy _ _) ms.length 0 0 z0 (by omega) (by decide) hok l σ hl hs) ?_);clear hs;rintro r σ ⟨rfl,l',hl',hs⟩
 conv=>whnf
 repeat'((first|(apply Y;clear Z B Y A)|fail)<;>conv=>whnf)
 exact AK ⟨rfl,l',hl',hs.less (by simp)⟩
def Y3 (h8:ms.length<=8) {s:Nat} (hs64:s<18446744073709551616):Pure Tryz.prog 101 [.a (Tu p gen ms),eU s] (.l (iL (Dv ms s)) false):=by
 have hM:=Mx;refine tt kZ ?_;have hs:=Sn
 conv=>whnf
 repeat'((first|apply st|(apply sq;intro K U)|(apply si;intro A B Y Z)|(apply Y;clear Z B Y A)|(apply U;clear U K)|fail)<;>conv=>whnf)
 refine D3 ms.length (fun k v=>[(5,v),(11,eI (Bq k))]) (fun k v=>[.own v 1 (iL (Ee ms ((CG s ms.length).take k)))]) (fun _ _=>True) (.l [] true) rfl trivial (by simpa[Ee]using OF hs 1) ?_;clear hs;rintro k v σ hk - hs;have hal:=Xo ms ((CG s ms.length).take k);rw[NT]at hal;rcases BM ms hk with⟨x,hx,hlt⟩|hke
 .have hck:Bq k=k:=AV (by omega)
  have hst:=V8 hx (Vi (s:=s) hlt);have c1:=YT s (Bq k) hs64 (by omega) (by omega);rw[hck,Hd,<-hck]at c1;generalize Ee ms ((CG s ms.length).take k)=zs at *;have hll:zs.length<Ay/\(zs.length+1)*8<=140737488355328:=by omega
  cases hb:s.testBit k<;>rw[hb]at c1 hst
  .rw[if_neg (by decide),Ep]at hst
   conv=>whnf
   repeat'((first|apply st|(apply sq;intro K U)|(apply si;intro A B Y Z)|(apply Y;clear Z B Y A)|(apply U;clear U K)|refine⟨rfl,?_⟩|refine ix ?_|(refine DV (fun hc=>?_)<;>(try rw[hc])<;>clear hc)|refine c1.use ?_|clear U K)<;>conv=>whnf)
   exact⟨hlt,_,rfl,trivial,by rw[hst];exact hs⟩
  .rw[if_pos rfl]at hst
   conv=>whnf
   repeat'((first|apply st|(apply sq;intro K U)|(apply si;intro A B Y Z)|(apply Y;clear Z B Y A)|(apply U;clear U K)|refine⟨rfl,?_⟩|refine ix ?_|refine aq fun v σ hs hsl=>?_|(refine DV (fun hc=>?_)<;>(try rw[hc])<;>clear hc)|refine c1.use ?_|clear U K)<;>conv=>whnf)
   exact⟨hlt,_,rfl,trivial,by rw[hst];exact hs⟩
 .rw[List.take_of_length_le (by rw[Rp];omega)]at hs
  conv=>whnf
  repeat'((first|apply st|(apply sq;intro K U)|(apply si;intro A B Y Z)|(apply Y;clear Z B Y A)|(apply U;clear U K)|refine⟨rfl,?_⟩|(refine EZ (fun hc=>?_)<;>(try rw[hc])<;>clear hc)|clear U K)<;>conv=>whnf)
  exact B3 (hs.IJ 0 rfl)
abbrev oq (f:Nat->List Int×Int) (y:Nat) (acc:List (List Int×Int)):Bool×List (List Int×Int):=(true,acc++[f y])
def ff (f:Nat->List Int×Int): ∀(l:List Nat) (acc:List (List Int×Int)),B5 (oq f) l acc=(true,acc++l.map f)
 | [],acc=>by simp[B5]
 | y::r,acc=>by simp[B5,ff f r]
def ni (f:Nat->List Int×Int) {Q:Nat->Prop} {m:Nat}: ∀(l:List Nat) (acc:List (List Int×Int)),(∀y∈l,Q y)->acc.length+l.length<=m->P9 (oq f) (fun y acc=>Q y/\acc.length<m) l acc
 | [],_,_,_=>trivial
 | y::r,acc,h,hl=>⟨⟨h y (.head _),by rw[Lz]at hl;omega⟩,fun _=>ni f r _ (fun z hz=>h z (.tail _ hz)) (by rw[R0,List.length_singleton];rw[Lz]at hl;omega)⟩
def VQ {tog:List Fact->Bool} (h8:ms.length<=8):(L6 p tog ms).length<=256/\ ∀s∈L6 p tog ms,s<2 ^ ms.length:=by
 obtain⟨h1,h2⟩:=Of (so:=fun s n=>Eb tog (G1 p ms) (CG s n)) (E:=Eb tog (G1 p ms)) ms.length 0 0 (by decide) (fun s n _=>rfl);rw[GM]at h1 h2;refine⟨?_,h2⟩;have h3:=JO (E:=Eb tog (G1 p ms)) ms.length (CG 0 0);have h4:=congrArg List.length h1;rw[Bu]at h4;have h5:2 ^ ms.length<=2 ^ 8:=Nat.pow_le_pow_right (by omega) h8;exact h4 ▸ Nat.le_trans h3 h5
def mF (h:T8 p ms) (hcan:QL g fi ca (AT p) tog) {stE:List Int->Int} (hst: ∀s∈L6 p tog ms,Pure Tryz.prog 62 [.a (Tu p gen ms),.l (iL (Dv ms s)) false] (eI (stE (Dv ms s)))) :
    Pure Tryz.prog 72 [.a (Tu p gen ms),Wg g fi ca p gen ms] (.l ((L6 p tog ms).map fun s=>cY (Dv ms s,stE (Dv ms s))) false):=by
 have hM:=Mx;have hfew:=h.wc;refine wG kZ ?_;have hs:=Sn
 conv=>whnf
 repeat'((first|apply st|(apply sq;intro K U)|(apply si;intro A B Y Z)|(apply Y;clear Z B Y A)|(apply U;clear U K)|(intro nn hnn;generalize hg:A6 _ nn _=σ;refine Ci hg fun hs=>?_;clear hg)|fail)<;>conv=>whnf)
 rename_i _ n5 hn5 _ _;obtain⟨hgl,hgm⟩:=VQ (p:=p) (tog:=tog) hfew;have hs2:Sat σ [_,.box n5 [.l [] true],.own (.l [] true) 2 (([]:List (List Int×Int)).map cY)]:=OF hs 2;refine As.mono (fC h hcan (hs:=hs2) (stp:=oq fun y=>(Dv ms y,stE (Dv ms y))) (D:=fun y acc=>y∈L6 p tog ms/\acc.length<256) (fun nS nW=>PR (HB:=fun(acc:List (List Int×Int)) l=> ∃v,l= [.box n5 [v],.own v 2 (acc.map cY)]) (fun _=> .ready) rfl (fun _ _ _=>rfl) ?_) [] (ni _ _ _ (fun _ h=>h) (by simpa using hgl)) ⟨_,rfl,_,rfl⟩) ?_
 .clear hs hs2 hnn hn5
  rintro y acc ⟨hy,hacc⟩ _ ⟨v,rfl⟩ σ hs;have hy64:y<18446744073709551616:=Nat.lt_of_lt_of_le (hgm y hy) (Nat.le_trans (Nat.pow_le_pow_right (by omega) hfew) (by decide));have hl1:=Y3 (p:=p) (gen:=gen) hfew hy64;have hst:=hst y hy;have hll:acc.length<Ay/\(acc.length+1)*32<=140737488355328:=by omega
  conv=>whnf
  repeat'((first|apply st|(apply sq;intro K U)|(apply si;intro A B Y Z)|(apply Y;clear Z B Y A)|(apply U;clear U K)|apply dr|refine rk ?_ ?_|exact fun s e=>by cases e;rfl|refine⟨kZ,?_⟩|refine ld ?_|refine EK fun σ hs=>?_|refine hl1.use ?_|refine hst.use ?_|refine aq (enc:=cY) (x:=(Dv ms y,stE (Dv ms y))) (fun v σ hs hsl=>?_) (hg:=lu)|clear U K)<;>conv=>whnf)
  intro hn;exact⟨rfl,_,⟨_,rfl⟩,hs.aH hn⟩
 .clear hs hs2 hnn hn5
  rw[ff];rintro r σ ⟨rfl,_,⟨_,rfl,v,rfl⟩,hs⟩;simp only[List.nil_append,uN]at hs;refine Io hs fun σ hs=>?_
  conv=>whnf
  repeat'((first|apply st|(apply sq;intro K U)|(apply si;intro A B Y Z)|(apply Y;clear Z B Y A)|(apply U;clear U K)|refine ld ?_|fail)<;>conv=>whnf)
  exact B3 (hs.IJ 1 rfl)
end
end Go.Gl
namespace Go.Gl
open Go.Proofs
attribute [local irreducible] As Am Ac AQ AM Ab AP AR AL Aa AN AO Ao Ax Sat AW Au Ad W
abbrev uL (us:List Nat):List (List V):=us.map fun u=>[eU u]
abbrev gB (w:AJ) (v:V):List V:=[.l (JY w.parents) false,.l (iL w.owner) false,v]
def fB:FI (fun u:Nat=>[eU u]) 1:=fun x=>⟨rfl,fun v hv=>by rw[My.1 hv];rfl⟩
set_option maxHeartbeats 4000000 in
def kX (w : AJ) (hw:CY w):Pure Tryz.prog 205 [.a (CW w)] (.rp (gW w (BQ w.parents))):=by
 obtain⟨⟨hl,hrow⟩,ho,how⟩:=hw;have hM:=Mx;refine s8 kZ ?_;have hs:=Sn;have hi1:((JY w.parents).length:Int)<=60:=by rw[Bu];omega
 conv=>whnf
 repeat'((first|apply st|(apply sq;intro K U)|(apply si;intro A B Y Z)|(apply Y;clear Z B Y A)|(apply U;clear U K)|refine⟨kZ,?_⟩|(intro nn hnn;generalize hg:A6 _ nn _=σ;refine Ci hg fun hs=>?_;clear hg)|fail)<;>conv=>whnf)
 generalize nn=n0 at *;refine D3 3 (fun k (_:V)=>[(13,eI (Bq k))]) (fun k v=>[.box n0 (gB w v),.own v 1 (uL ([1,3,5].take k))]) (fun k _=>True) (.l [] true) rfl trivial (OF hs 1) ?_;clear hs;rintro k v σ hk - hs;have hck:Bq k=k:=AV (by omega);have hlen:(([1,3,5]:List Nat).take k).length=k:=by simp;omega
 by_cases hlt:k<3
 .have hst:=up3 hlt
  generalize ([1,3,5]:List Nat).take k=zs at *;have hll:zs.length<Ay/\(zs.length+1)*8<=140737488355328:=by omega
  conv=>whnf
  repeat'((first|apply st|(apply sq;intro K U)|(apply si;intro A B Y Z)|(apply Y;clear Z B Y A)|(apply U;clear U K)|apply dr|refine rk ?_ ?_|exact fun s e=>by cases e;rfl|refine⟨rfl,?_⟩|refine ld ?_|refine EK fun σ hs=>?_|refine Pure.use (MA 1 _ (by decide) (by omega) (by omega)) ?_|refine aq (enc:=fun u:Nat=>[eU u]) (x:=1|||2 ^ (Bq k).toNat) (fun v σ hs hsl=>?_) (hg:=fB)|(constructor<;>intro hc<;>(try rw[hc])<;>(replace hc:=bp hc)<;>(try simp(disch:=omega) only[Bu,wrap64,AV]at hc)<;>try(exfalso;omega))|clear U K)<;>conv=>whnf)
  rw[hck,Hd,hst]at hs;exact⟨hlt,_,rfl,trivial,hs⟩
 .have hke:k=3:=by omega
  subst hke;clear hk hck hlen hlt
  conv=>whnf
  repeat'((first|apply st|(apply sq;intro K U)|(apply si;intro A B Y Z)|(apply Y;clear Z B Y A)|(apply U;clear U K)|refine⟨rfl,?_⟩|(constructor<;>intro hc<;>(try rw[hc])<;>(replace hc:=bp hc)<;>(try simp(disch:=omega) only[Bu,wrap64,AV]at hc)<;>try(exfalso;omega))|clear U K)<;>conv=>whnf)
  refine D3 w.parents.length (fun k (_:V)=>[(31,eI (Bq k))]) (fun k v=>[.box n0 (gB w v),.own v 1 (uL (Bj w.parents k))]) (fun k _=>True) v rfl trivial hs ?_;clear hs;rintro k v σ hk - hs;have hck:Bq k=k:=AV (by omega);have hul:=DJ w.parents k;have huo:=F6 w.parents k (by omega);have hw3:IntKind.i64.wrap (3+(k:Int))=3+(k:Int):=wrap64 (by omega) (by omega);rcases BM w.parents hk with⟨row,hr,hlt⟩|hke
  .obtain⟨r1,r2,r3⟩:=hrow k row hr
   rw[<-hck]at hw3
   conv=>whnf
   repeat'((first|apply st|(apply sq;intro K U)|(apply si;intro A B Y Z)|(apply Y;clear Z B Y A)|(apply U;clear U K)|refine⟨rfl,?_⟩|refine ix ?_|(refine DV (fun hc=>?_)<;>(try rw[hc])<;>clear hc)|refine Pure.use (MA 1 _ (by decide) (by omega) (by omega)) ?_|fail)<;>conv=>whnf)
   have hst0:IntKind.i64.wrap (3+Bq k)=3+(k:Int):=by rw[hck];exact wrap64 (by omega) (by omega)
   have hs0lt:1|||2 ^ (3+k)<18446744073709551616:=G8 (by decide) (F1 (by omega))
   have hs0e:1|||2 ^ (IntKind.i64.wrap (3+Bq k)).toNat=1|||2 ^ (3+k):=by rw[hst0,show(3+(k:Int)).toNat=3+k by omega]
   rw[hs0e];refine D3 row.length (fun j (s:Nat)=>[(41,eI (Bq j)),(7,eU s)]) (fun _ _=>[.box n0 (gB w v),.own v 1 (uL (Bj w.parents k))]) (fun j s=>s=R6 (Bj w.parents k) (row.take j) (1|||2 ^ (3+k))) (1|||2 ^ (3+k)) rfl rfl hs ?_;clear hs;rintro j s σ hj hse hs;rcases BM row hj with⟨c,hcj,hjlt⟩|hje
   .obtain⟨q1,q2⟩:=r3 c (Dm hcj)
    conv=>whnf
    repeat'((first|apply st|(apply sq;intro K U)|(apply si;intro A B Y Z)|(apply Y;clear Z B Y A)|(apply U;clear U K)|refine⟨rfl,?_⟩|refine ix ?_|refine ld ?_|refine oi ?_|refine ol fun x hx=>?_|(refine DV (fun hc=>?_)<;>(try rw[hc])<;>clear hc)|clear U K)<;>conv=>whnf)
    rename_i x hx;have hxd:(Bj w.parents k).getD c.toNat 0=x:=by rw[Ds,hx];rfl
    have hsl:s<18446744073709551616:=by rw[hse];exact Ns huo _ _ hs0lt
    refine⟨hjlt,s|||x,?_,?_,hs⟩
    .rw[GX hsl (huo x (Dm hx))]
     rfl
    .rw[hse,Ar hcj]
     simp only[R6,List.foldl_append];rw[<-hxd];rfl
   .have e:Bj w.parents (k+1)=Bj w.parents k++[s]:=by
     rw[hse,Bj,Ds,hr,hje,List.take_length];rfl
    generalize Bj w.parents k=zs at *;have hll:zs.length<Ay/\(zs.length+1)*8<=140737488355328:=by omega
    conv=>whnf
    repeat'((first|apply st|(apply sq;intro K U)|(apply si;intro A B Y Z)|(apply Y;clear Z B Y A)|(apply U;clear U K)|refine⟨rfl,?_⟩|refine ld ?_|refine EK fun σ hs=>?_|(refine EZ (fun hc=>?_)<;>(try rw[hc])<;>clear hc)|refine aq (enc:=fun u:Nat=>[eU u]) (x:=s) (fun v σ hs hsl=>?_) (hg:=fB)|clear U K)<;>conv=>whnf)
    rw[<-e]at hs;exact⟨hlt,_,rfl,trivial,hs⟩
  .rw[hke]at hs
   conv=>whnf
   repeat'((first|apply st|(apply sq;intro K U)|(apply si;intro A B Y Z)|(apply Y;clear Z B Y A)|(apply U;clear U K)|refine⟨rfl,?_⟩|(refine EZ (fun hc=>?_)<;>(try rw[hc])<;>clear hc)|clear U K)<;>conv=>whnf)
   exact B3 (hs.jq 0 rfl (.cons (.refl _) (.cons (.refl _) (.cons (hs.IJ 1 rfl) .nil))))
end Go.Gl
namespace Go.Gl
open Go.Proofs
def vL {p:Prog} {gen:Int} {togX togR:List Fact->Bool} {OK:(Int->H2)->Prop} (hX: ∀l,(∀x∈l,C1 (AT p) x)->(togX l=true↔ ∃M,OK M/\ ∀x∈l,EU (AT p) M x))
    (G: ∀l,(∀x∈l,C1 (AT p) x)->(togR l=true↔ ∃M,OK M/\ ∀x∈l,EU (AT p) M x)) (hn: ∀f∈MJ p gen,BT (AT p) f=true) :
    ((L6 p togX (Fw p gen)).map fun s=>cY (Dv (Fw p gen) s,oW p (Dv (Fw p gen) s)))=(FZ p gen togR).map cY:=by
 have hE: ∀l,Eb togX (G1 p (Fw p gen)) l=aD togR (MJ p gen) l:=fun l=>by
  rw[Hf];exact(Ro hX hn l).trans (Ld G hn l).symm
 obtain⟨h1,-⟩:=Of (so:=fun s n=>Eb togX (G1 p (Fw p gen)) (CG s n)) (E:=Eb togX (G1 p (Fw p gen))) (Fw p gen).length 0 0 (by decide) (fun s n _=>rfl);rw[GM,Hv hE]at h1;rw[FZ,show([]:List Bool)=CG 0 0 from rfl,<-h1,uN,uN];rfl
def TK {p:Prog} {gen:Int} (h:Fh p gen=true) (h8:(Fw p gen).length<=8):T8 p (Fw p gen):=by
 rw[Fh,A8]at h;refine⟨look_ok h.1,fun m hm=>?_,h8⟩;have:=ZD p gen m;rw[List.contains_iff_mem.2 hm]at this;exact(Bool.and_eq_true_iff.1 this.symm).1
def Ph (ms:List Int) (bs:List Bool):(Ee ms bs).Sublist ms:=by
 rw[Ee]
 induction ms generalizing bs with
 | nil=>simp
 | cons m r ih=>
   cases bs with
   | nil=>simp
   | cons b q=>
     cases b
     .simpa using(ih q).cons m
     .simpa using ih q
def qu (p:Prog) (gen:Int):(Fw p gen).Pairwise (· < ·):=by
 rw[Fw,cu];exact List.Pairwise.filter _ (Jo _)
def Yj {p:Prog} {gen:Int} {l:List Int} (h:l.Sublist (Fw p gen)):QE p gen l=true:=by
 have hp:=(qu p gen).sublist h;refine kK fun i hi=>?_
 have hm:=ZD p gen l[i];rw[List.contains_iff_mem.2 (h.subset (List.getElem_mem hi))]at hm;have hm:=Bool.and_eq_true_iff.1 hm.symm;rw[dA];have e1:l.getD i 0=l[i]:=by rw[Ds,ES hi];rfl
 rw[e1,hm.1,hm.2,D2,D2,Bool.not_eq_true',Bool.and_eq_false_iff,decide_eq_false_iff_not,decide_eq_false_iff_not];by_cases h0:0<i
 .right
  have e2:l.getD (i - 1) 0=l[i - 1]'(by omega):=by rw[Ds,ES (by omega)];rfl
  rw[e2];have:=List.pairwise_iff_getElem.1 hp (i - 1) i (by omega) hi (by omega);omega
 .exact .inl h0
attribute [local irreducible] As Am Ac AQ AM Ab AP AR AL Aa AN AO Ao Ax Sat AW Au Ad W
def Uj {p:Prog} {gen:Int} {ms:List Int} (h:(Bf p).isSome=true):Pure Tryz.prog 138 [.a (Tu p gen ms)] (.rp (gW (AT p) (BQ (AT p).parents))):=by
 have c1:=Zh p;rw[if_pos h]at c1;have c2:=kX (AT p) (Qd h);refine te kZ ?_;have hs:=Sn
 conv=>whnf
 repeat'((first|apply st|(apply sq;intro K U)|(apply si;intro A B Y Z)|(apply Y;clear Z B Y A)|(apply U;clear U K)|refine⟨kZ,?_⟩|refine ld ?_|refine Di fun σ hs=>?_|refine c1.use ?_|refine c2.use ?_|(intro nn hnn;generalize hg:A6 _ nn _=σ;refine Ci hg fun hs=>?_;clear hg)|fail)<;>conv=>whnf)
 all_goals exact AS rfl
def VA {p:Prog} {gen:Int} {ms:List Int} (h:(Bf p).isSome=true):Pure Tryz.prog 73 [.a (Tu p gen ms)] (Wg 140 [] [.rp [.rp (gW (AT p) (BQ (AT p).parents))]] p gen ms):=by
 have c1:=Uj (gen:=gen) (ms:=ms) h;refine wF kZ ?_;have hs:=Sn
 conv=>whnf
 repeat'((first|apply st|(apply sq;intro K U)|(apply si;intro A B Y Z)|(apply Y;clear Z B Y A)|(apply U;clear U K)|refine⟨kZ,?_⟩|refine EK fun σ hs=>?_|refine c1.use ?_|refine Yi.use ?_|(intro nn hnn;generalize hg:A6 _ nn _=σ;refine Ci hg fun hs=>?_;clear hg)|fail)<;>conv=>whnf)
 exact B3 (.f .nil (.cons (.rp (.cons (.f .nil (.cons (hs.jq 0 rfl (.refl _ _ _)) .nil)) .nil)) (.cons (.refl _) .nil)))
def eN {p:Prog} {gen:Int} {ms:List Int} (h:(Bf p).isSome=true) (cs:List Int) (f:Bool):Pure Tryz.prog 74 [.a (Tu p gen ms),.l (iL cs) f] (Wg 144 [] [.rp [.rp (gW (AT p) (BQ (AT p).parents))],.rp [.l (iL cs) f]] p gen ms):=by
 have c1:=Uj (gen:=gen) (ms:=ms) h;refine wE kZ ?_;have hs:=Sn
 conv=>whnf
 repeat'((first|apply st|(apply sq;intro K U)|(apply si;intro A B Y Z)|(apply Y;clear Z B Y A)|(apply U;clear U K)|refine⟨kZ,?_⟩|refine EK fun σ hs=>?_|refine c1.use ?_|refine Yi.use ?_|(intro nn hnn;generalize hg:A6 _ nn _=σ;refine Ci hg fun hs=>?_;clear hg)|fail)<;>conv=>whnf)
 exact B3 (.f .nil (.cons (.rp (.cons (.f .nil (.cons (hs.jq 0 rfl (.refl _ _ _)) (.cons (.refl _) .nil))) .nil)) (.cons (.refl _) .nil)))
def W0 (v:List V):Pure Tryz.prog 71 [.a v] (.b true):=by
 refine wH kZ ?_;have hs:=Sn
 conv=>whnf
 repeat'((first|apply st|(apply sq;intro K U)|(apply si;intro A B Y Z)|(apply Y;clear Z B Y A)|(apply U;clear U K)|fail)<;>conv=>whnf)
 all_goals exact AS rfl
abbrev Ww (p:Prog) (gen:Int) (tog:List Fact->Bool):V:= .t [if Kl p gen true=0 then .l ((FZ p gen tog).map cY) false else .l [] true,eI (Kl p gen true)]
def Mn {p:Prog} {gen:Int} (h:T8 p (Fw p gen)): ∀f∈MJ p gen,BT (AT p) f=true:=fun f hf=>by
 obtain⟨m,hm,rfl⟩:=Iz.1 hf;have:=C0 (h.Kp m hm);exact(h.ok.facts _ (Dm this)).1
def ZI {p:Prog} {gen:Int} {g:FuncId} {fi ca:List V} {togX togR:List Fact->Bool} {OK:(Int->H2)->Prop} (hX: ∀l,(∀x∈l,C1 (AT p) x)->(togX l=true↔ ∃M,OK M/\ ∀x∈l,EU (AT p) M x))
    (G: ∀l,(∀x∈l,C1 (AT p) x)->(togR l=true↔ ∃M,OK M/\ ∀x∈l,EU (AT p) M x)) (h1:Fh p gen=true) (h8:(Fw p gen).length<=8) (hcan:QL g fi ca (AT p) togX) :
    Pure Tryz.prog 72 [.a (nJ p gen),Wg g fi ca p gen (Fw p gen)] (.l ((FZ p gen togR).map cY) false):=by
 have hfn:=TK h1 h8;have:=mF (gen:=gen) hfn hcan (stE:=oW p) (fun s _=>eM p gen _ false h1 (Yj (Ph _ _)));rw[vL hX G (Mn hfn)]at this;exact this
def uG (p:Prog) (gen:Int):Pure Tryz.prog 18 [.a (Ba p),eI gen] (Ww p gen (Fg (AT p))):=by
 have c1:=XN p gen 71 [] true (fun _=>W0 _);cases h1:Fh p gen
 .rw[(IC h1 true).1,(IC h1 true).2]at c1
  rw[Ww,(IC h1 true).2];refine dt kZ ?_;have hs:=Sn
  conv=>whnf
  repeat'((first|apply st|(apply sq;intro K U)|(apply si;intro A B Y Z)|(apply Y;clear Z B Y A)|(apply U;clear U K)|refine⟨rfl,?_⟩|refine⟨kZ,?_⟩|refine Di fun σ hs=>?_|refine c1.use ?_|(constructor<;>intro hc<;>(try rw[hc])<;>(replace hc:=bp hc)<;>try(exfalso;omega))|(intro nn hnn;generalize hg:A6 _ nn _=σ;refine Ci hg fun hs=>?_;clear hg)|clear U K)<;>conv=>whnf)
  all_goals exact AS rfl
 rw[(IB h1).1,(IB h1).2]at c1;rw[Ww,(IB h1).2];by_cases h8:(Fw p gen).length<=8
 .have hl:=h1
  rw[Fh,A8]at hl;have hw:=(look_ok hl.1).ud;have c2:=VA (gen:=gen) (ms:=Fw p gen) hl.1;have c3:=ZI (fun l hl=>Uv hw fun x hx=>E6 (hl x hx)) (de hw) h1 h8 (Q4 _ (Qd hl.1));rw[if_pos h8]at c1 ⊢;rw[if_pos rfl];refine dt kZ ?_;have hs:=Sn
  conv=>whnf
  repeat'((first|apply st|(apply sq;intro K U)|(apply si;intro A B Y Z)|(apply Y;clear Z B Y A)|(apply U;clear U K)|apply dr|refine rk ?_ ?_|exact fun s e=>by cases e;rfl|refine⟨rfl,?_⟩|refine⟨kZ,?_⟩|refine ld ?_|refine Di fun σ hs=>?_|refine c1.use ?_|refine c2.use ?_|refine c3.use ?_|(constructor<;>intro hc<;>(try rw[hc])<;>(replace hc:=bp hc)<;>(try simp(disch:=omega) only[Bu,wrap64,AV]at hc)<;>try(exfalso;omega))|(intro nn hnn;generalize hg:A6 _ nn _=σ;refine Ci hg fun hs=>?_;clear hg)|fail)<;>conv=>whnf)
  all_goals exact AS rfl
 .rw[if_neg h8]at c1 ⊢
  rw[if_neg (by decide)];refine dt kZ ?_;have hs:=Sn
  conv=>whnf
  repeat'((first|apply st|(apply sq;intro K U)|(apply si;intro A B Y Z)|(apply Y;clear Z B Y A)|(apply U;clear U K)|refine⟨rfl,?_⟩|refine⟨kZ,?_⟩|refine Di fun σ hs=>?_|refine c1.use ?_|(constructor<;>intro hc<;>(try rw[hc])<;>(replace hc:=bp hc)<;>try(exfalso;omega))|(intro nn hnn;generalize hg:A6 _ nn _=σ;refine Ci hg fun hs=>?_;clear hg)|clear U K)<;>conv=>whnf)
  all_goals exact AS rfl
def jM (p:Prog) (gen:Int):Pure Tryz.prog 19 [.a (Ba p),eI gen] (Ww p gen (R8 (AT p) [])):=by
 have c1:=XN p gen 71 [] true (fun _=>W0 _);cases h1:Fh p gen
 .rw[(IC h1 true).1,(IC h1 true).2]at c1
  rw[Ww,(IC h1 true).2];refine dq kZ ?_;have hs:=Sn
  conv=>whnf
  repeat'((first|apply st|(apply sq;intro K U)|(apply si;intro A B Y Z)|(apply Y;clear Z B Y A)|(apply U;clear U K)|refine⟨rfl,?_⟩|refine⟨kZ,?_⟩|refine Di fun σ hs=>?_|refine c1.use ?_|(constructor<;>intro hc<;>(try rw[hc])<;>(replace hc:=bp hc)<;>try(exfalso;omega))|(intro nn hnn;generalize hg:A6 _ nn _=σ;refine Ci hg fun hs=>?_;clear hg)|clear U K)<;>conv=>whnf)
  all_goals exact AS rfl
 rw[(IB h1).1,(IB h1).2]at c1;rw[Ww,(IB h1).2];by_cases h8:(Fw p gen).length<=8
 .have hl:=h1
  rw[Fh,A8]at hl;have hw:=(look_ok hl.1).ud;have c2:=eN (gen:=gen) (ms:=Fw p gen) hl.1 [] true;have c3:=ZI (fun l hl=>Ow hw fun x hx=>E6 (hl x hx)) (df hw S5) h1 h8 (Yh _ (Qd hl.1) [] true (by decide));rw[if_pos h8]at c1 ⊢;rw[if_pos rfl];refine dq kZ ?_;have hs:=Sn
  conv=>whnf
  repeat'((first|apply st|(apply sq;intro K U)|(apply si;intro A B Y Z)|(apply Y;clear Z B Y A)|(apply U;clear U K)|apply dr|refine rk ?_ ?_|exact fun s e=>by cases e;rfl|refine⟨rfl,?_⟩|refine⟨kZ,?_⟩|refine ld ?_|refine Di fun σ hs=>?_|refine c1.use ?_|refine c2.use ?_|refine c3.use ?_|(constructor<;>intro hc<;>(try rw[hc])<;>(replace hc:=bp hc)<;>(try simp(disch:=omega) only[Bu,wrap64,AV]at hc)<;>try(exfalso;omega))|(intro nn hnn;generalize hg:A6 _ nn _=σ;refine Ci hg fun hs=>?_;clear hg)|fail)<;>conv=>whnf)
  all_goals exact AS rfl
 .rw[if_neg h8]at c1 ⊢
  rw[if_neg (by decide)];refine dq kZ ?_;have hs:=Sn
  conv=>whnf
  repeat'((first|apply st|(apply sq;intro K U)|(apply si;intro A B Y Z)|(apply Y;clear Z B Y A)|(apply U;clear U K)|refine⟨rfl,?_⟩|refine⟨kZ,?_⟩|refine Di fun σ hs=>?_|refine c1.use ?_|(constructor<;>intro hc<;>(try rw[hc])<;>(replace hc:=bp hc)<;>try(exfalso;omega))|(intro nn hnn;generalize hg:A6 _ nn _=σ;refine Ci hg fun hs=>?_;clear hg)|clear U K)<;>conv=>whnf)
  all_goals exact AS rfl
end Go.Gl
namespace Go.Gl
open Go.Proofs
attribute [local irreducible] As Am Ac AQ AM Ab AP AR AL Aa AN AO Ao Ax Sat AW Au Ad W
def wP {p:Prog} {gen:Int} (h:Kl p gen true=0):Fh p gen=true/\(Fw p gen).length<=8:=by
 cases h1:Fh p gen
 .rw[(IC h1 true).2]at h;cases h
 .rw[(IB h1).2]at h
  by_cases h8:(Fw p gen).length<=8
  .exact⟨rfl,h8⟩
  .rw[if_neg h8]at h;cases h
def Qt {p:Prog} {gen:Int} {tog:List Fact->Bool} (h8:(Fw p gen).length<=8):(FZ p gen tog).length<=256:=by
 rw[FZ,Bu];exact Nat.le_trans (JO _ _) (Nat.le_trans (Nat.pow_le_pow_right (by omega) h8) (by decide))
end Go.Gl
namespace Go.Gl
open Go.Proofs
def vM {p:Prog} {gen:Int} {togX togR:List Fact->Bool} {OK:(Int->H2)->Prop} (hX: ∀l,(∀x∈l,C1 (AT p) x)->(togX l=true↔ ∃M,OK M/\ ∀x∈l,EU (AT p) M x))
    (G: ∀l,(∀x∈l,C1 (AT p) x)->(togR l=true↔ ∃M,OK M/\ ∀x∈l,EU (AT p) M x)) (hn: ∀f∈MJ p gen,BT (AT p) f=true) :
    ((L6 p togX (Fw p gen)).map fun s=>(Dv (Fw p gen) s,oW p (Dv (Fw p gen) s)))=FZ p gen togR:=by
 have hE: ∀l,Eb togX (G1 p (Fw p gen)) l=aD togR (MJ p gen) l:=fun l=>by
  rw[Hf];exact(Ro hX hn l).trans (Ld G hn l).symm
 obtain⟨h1,-⟩:=Of (so:=fun s n=>Eb togX (G1 p (Fw p gen)) (CG s n)) (E:=Eb togX (G1 p (Fw p gen))) (Fw p gen).length 0 0 (by decide) (fun s n _=>rfl);rw[GM,Hv hE]at h1;rw[FZ,show([]:List Bool)=CG 0 0 from rfl,<-h1,uN];rfl
def H8 (xs:List (List Int×Int)):Bool:=xs.all fun x=>x.2==1
section
variable {g:FuncId} {fi ca:List V} {p:Prog} {gen:Int} {ms:List Int} {tog:List Fact->Bool}
abbrev Zy (q:Nat->Bool) (y:Nat) (_:Bool):Bool×Bool:=(q y,!q y)
def fe (q:Nat->Bool): ∀l:List Nat,B5 (Zy q) l false=(l.all q,!l.all q)
 | []=>rfl
 | y::r=>by
   rw[B5,WX];cases hq:q y
   .simp[Zy,hq]
   .simpa[Zy,hq]using fe q r
def nh (q:Nat->Bool) {Q:Nat->Prop}: ∀l:List Nat,(∀y∈l,Q y)->P9 (Zy q) (fun y s=>Q y/\s=false) l false
 | [],_=>trivial
 | y::r,h=>⟨⟨h y (.head _),rfl⟩,fun hy=>by
   have hq:q y=true:=hy;have:=nh q r fun z hz=>h z (.tail _ hz)
   simpa[Zy,hq]using this⟩
attribute [local irreducible] As Am Ac AQ AM Ab AP AR AL Aa AN AO Ao Ax Sat AW Au Ad W
set_option maxHeartbeats 2000000 in
def mJ (h:T8 p ms) (hcan:QL g fi ca (AT p) tog) {stE:List Int->Int} (hst: ∀s∈L6 p tog ms,Pure Tryz.prog 62 [.a (Tu p gen ms),.l (iL (Dv ms s)) false] (eI (stE (Dv ms s)))) :
    Pure Tryz.prog 108 [.a (Tu p gen ms),Wg g fi ca p gen ms] (.b ((L6 p tog ms).all fun s=>stE (Dv ms s)==1)):=by
 have hM:=Mx;have hfew:=h.wc;refine Pure.of ?_;refine tr kZ ?_;have hs:=Sn
 conv=>whnf
 repeat'((first|apply st|(apply sq;intro K U)|(apply si;intro A B Y Z)|(apply Y;clear Z B Y A)|(apply U;clear U K)|(intro nn hnn;generalize hg:A6 _ nn _=σ;refine Ci hg fun hs=>?_;clear hg)|fail)<;>conv=>whnf)
 rename_i _ n4 hn4 _ _;obtain⟨hgl,hgm⟩:=VQ (p:=p) (tog:=tog) hfew;refine As.mono (fC h hcan (hs:=hs) (stp:=Zy fun y=>stE (Dv ms y)==1) (D:=fun y s=>y∈L6 p tog ms/\s=false) (fun nS nW=>PR (HB:=fun(_:Bool) l=>l= [.box n4 [.b false]]) (fun s=>if s then .ret else .ready) rfl (fun _ s h=>by rw[h.2];rfl) ?_) false (nh _ _ (fun _ h=>h)) ⟨_,rfl,rfl⟩) ?_
 .clear hs hnn hn4
  rintro y s ⟨hy,rfl⟩ _ rfl σ hs;have hy64:y<18446744073709551616:=Nat.lt_of_lt_of_le (hgm y hy) (Nat.le_trans (Nat.pow_le_pow_right (by omega) hfew) (by decide));have hl1:=Y3 (p:=p) (gen:=gen) hfew hy64;have hst:=hst y hy;cases he:(stE (Dv ms y)==1)
  .simp only[he,Bool.not_false,if_true]
   have hne:stE (Dv ms y)≠1:=by simpa using he
   conv=>whnf
   repeat'((first|apply st|(apply sq;intro K U)|(apply si;intro A B Y Z)|(apply Y;clear Z B Y A)|(apply U;clear U K)|apply dr|refine rk ?_ ?_|exact fun s e=>by cases e;rfl|refine⟨rfl,?_⟩|refine⟨kZ,?_⟩|refine EK fun σ hs=>?_|refine hl1.use ?_|refine hst.use ?_|(constructor<;>intro hc<;>(try rw[hc])<;>(replace hc:=bp hc)<;>try(exfalso;omega))|clear U K)<;>conv=>whnf)
   intro hn;exact⟨rfl,_,rfl,hs.aH hn⟩
  .simp only[he,Bool.not_true,Kc,if_false]
   have heq:stE (Dv ms y)=1:=by simpa using he
   conv=>whnf
   repeat'((first|apply st|(apply sq;intro K U)|(apply si;intro A B Y Z)|(apply Y;clear Z B Y A)|(apply U;clear U K)|apply dr|refine rk ?_ ?_|exact fun s e=>by cases e;rfl|refine⟨rfl,?_⟩|refine⟨kZ,?_⟩|refine hl1.use ?_|refine hst.use ?_|(constructor<;>intro hc<;>(try rw[hc])<;>(replace hc:=bp hc)<;>try(exfalso;omega))|clear U K)<;>conv=>whnf)
   intro hn;exact⟨rfl,_,rfl,hs.aH hn⟩
 .clear hs hnn hn4
  rw[fe];cases Y:(L6 p tog ms).all fun s=>stE (Dv ms s)==1
  .rintro r σ ⟨rfl,_,⟨_,rfl,rfl⟩,hs⟩
   refine ah hs fun σ hs=>?_
   conv=>whnf
   repeat'((first|refine ld ?_|clear U K)<;>conv=>whnf)
   first|exact AK (by rw[Y];rfl)|exact AK (by rfl)
  .rintro r σ ⟨rfl,_,⟨_,rfl,rfl⟩,hs⟩
   refine Io hs fun σ hs=>?_
   conv=>whnf
   repeat'((first|apply st|(apply sq;intro K U)|(apply si;intro A B Y Z)|(apply Y;clear Z B Y A)|(apply U;clear U K)|refine ld ?_|refine EK fun σ hs=>?_|fail)<;>conv=>whnf)
   first|exact AK (by rw[Y];rfl)|exact AK (by rfl)
end
def fG {p:Prog} {gen:Int} {g:FuncId} {fi ca:List V} {togX togR:List Fact->Bool} {OK:(Int->H2)->Prop} (hX: ∀l,(∀x∈l,C1 (AT p) x)->(togX l=true↔ ∃M,OK M/\ ∀x∈l,EU (AT p) M x))
    (G: ∀l,(∀x∈l,C1 (AT p) x)->(togR l=true↔ ∃M,OK M/\ ∀x∈l,EU (AT p) M x)) (h1:Fh p gen=true) (h8:(Fw p gen).length<=8) (hcan:QL g fi ca (AT p) togX) :
    Pure Tryz.prog 108 [.a (nJ p gen),Wg g fi ca p gen (Fw p gen)] (.b (H8 (FZ p gen togR))):=by
 have hfn:=TK h1 h8;have:=mJ (gen:=gen) hfn hcan (stE:=oW p) (fun s _=>eM p gen _ false h1 (Yj (Ph _ _)));rw[H8,<-vM hX G (Mn hfn),List.all_map];exact this
attribute [local irreducible] As Am Ac AQ AM Ab AP AR AL Aa AN AO Ao Ax Sat AW Au Ad W
abbrev ou (p:Prog) (gen:Int):V:=if Kl p gen true=0 then .t [.b (H8 (FZ p gen (Fg (AT p)))),.b (H8 (FZ p gen (R8 (AT p) []))),eI 0]else .t [.b false,.b false,eI (Kl p gen true)]
def uH (p:Prog) (gen:Int):Pure Tryz.prog 41 [.a (Ba p),eI gen] (ou p gen):=by
 have c1:=XN p gen 71 [] true (fun _=>W0 _);rw[ou];cases h1:Fh p gen
 .rw[(IC h1 true).1,(IC h1 true).2]at c1
  rw[(IC h1 true).2,if_neg (by decide)];refine dn kZ ?_;have hs:=Sn
  conv=>whnf
  repeat'((first|apply st|(apply sq;intro K U)|(apply si;intro A B Y Z)|(apply Y;clear Z B Y A)|(apply U;clear U K)|refine⟨rfl,?_⟩|refine⟨kZ,?_⟩|refine Di fun σ hs=>?_|refine c1.use ?_|(constructor<;>intro hc<;>(try rw[hc])<;>(replace hc:=bp hc)<;>try(exfalso;omega))|(intro nn hnn;generalize hg:A6 _ nn _=σ;refine Ci hg fun hs=>?_;clear hg)|clear U K)<;>conv=>whnf)
  all_goals exact AS rfl
 rw[(IB h1).1,(IB h1).2]at c1;rw[(IB h1).2];by_cases h8:(Fw p gen).length<=8
 .have hl:=h1
  rw[Fh,A8]at hl;have hw:=(look_ok hl.1).ud;have c2:=VA (gen:=gen) (ms:=Fw p gen) hl.1;have c3:=eN (gen:=gen) (ms:=Fw p gen) hl.1 [] true;have c4:=fG (fun l hl=>Uv hw fun x hx=>E6 (hl x hx)) (de hw) h1 h8 (Q4 _ (Qd hl.1));have c5:=fG (fun l hl=>Ow hw fun x hx=>E6 (hl x hx)) (df hw S5) h1 h8 (Yh _ (Qd hl.1) [] true (by decide));rw[if_pos h8]at c1 ⊢;rw[if_pos rfl];refine dn kZ ?_;have hs:=Sn
  conv=>whnf
  repeat'((first|apply st|(apply sq;intro K U)|(apply si;intro A B Y Z)|(apply Y;clear Z B Y A)|(apply U;clear U K)|apply dr|refine rk ?_ ?_|exact fun s e=>by cases e;rfl|refine⟨rfl,?_⟩|refine⟨kZ,?_⟩|refine ld ?_|refine Di fun σ hs=>?_|refine c1.use ?_|refine c2.use ?_|refine c3.use ?_|refine c4.use ?_|refine c5.use ?_|(constructor<;>intro hc<;>(try rw[hc])<;>(replace hc:=bp hc)<;>(try simp(disch:=omega) only[Bu,wrap64,AV]at hc)<;>try(exfalso;omega))|(intro nn hnn;generalize hg:A6 _ nn _=σ;refine Ci hg fun hs=>?_;clear hg)|fail)<;>conv=>whnf)
  all_goals exact AS rfl
 .rw[if_neg h8]at c1 ⊢
  rw[if_neg (by decide)];refine dn kZ ?_;have hs:=Sn
  conv=>whnf
  repeat'((first|apply st|(apply sq;intro K U)|(apply si;intro A B Y Z)|(apply Y;clear Z B Y A)|(apply U;clear U K)|refine⟨rfl,?_⟩|refine⟨kZ,?_⟩|refine Di fun σ hs=>?_|refine c1.use ?_|(constructor<;>intro hc<;>(try rw[hc])<;>(replace hc:=bp hc)<;>try(exfalso;omega))|(intro nn hnn;generalize hg:A6 _ nn _=σ;refine Ci hg fun hs=>?_;clear hg)|clear U K)<;>conv=>whnf)
  all_goals exact AS rfl
def py (x:List Int×Int):Pure Tryz.prog 43 [.a (cY x)] (.b (x.2 != 1)):=by
 refine wJ kZ ?_;have hs:=Sn
 conv=>whnf
 repeat'((first|apply st|(apply sq;intro K U)|(apply si;intro A B Y Z)|(apply Y;clear Z B Y A)|(apply U;clear U K)|refine⟨rfl,?_⟩|fail)<;>conv=>whnf)
 all_goals exact AS rfl
def SG (q:List Int×Int->Bool):List (List Int×Int)->Nat->Int
 | [],_=> -1
 | x::r,k=>if q x then(k:Int)else SG q r (k+1)
def VJ (q:List Int×Int->Bool): ∀(xs:List (List Int×Int)) (k:Nat),decide (SG q xs k≥0)=xs.any q
 | [],_=>rfl
 | x::r,k=>by
   rw[SG,QB];cases q x
   .simpa using VJ q r (k+1)
   .simp
def iK (xs:List (List Int×Int)) (hxl:xs.length<=256) (f:Bool):Pure Tryz.prog 110 [.l (xs.map cY) f,.f (.func 43) [] []] (eI (SG (fun x=>x.2 != 1) xs 0)):=by
 have hM:=Mx;refine Pure.of ?_;refine tq kZ ?_;have hs:=Sn
 conv=>whnf
 repeat'((first|apply st|(apply sq;intro K U)|(apply si;intro A B Y Z)|(apply Y;clear Z B Y A)|(apply U;clear U K)|fail)<;>conv=>whnf)
 refine D3 xs.length (fun k (_:Unit)=>[(8,eI (Bq k))]) (fun _ _=>[]) (fun k _=>SG (fun x=>x.2 != 1) xs 0=SG (fun x=>x.2 != 1) (xs.drop k) k) () rfl rfl hs ?_;clear hs;rintro k - σ hk G hs;have hck:Bq k=k:=AV (by omega);rcases BM xs hk with⟨x,hx,hlt⟩|hke
 .rw[drop_cons hx,SG]at G
  have c1:=py x;cases hq:(x.2 != 1)<;>rw[hq]at c1
  .simp only[hq,Kc,if_false]at G
   conv=>whnf
   repeat'((first|apply st|(apply sq;intro K U)|(apply si;intro A B Y Z)|(apply Y;clear Z B Y A)|(apply U;clear U K)|refine⟨rfl,?_⟩|refine⟨kZ,?_⟩|refine ix ?_|(refine DV (fun hc=>?_)<;>(try rw[hc])<;>clear hc)|refine BD (c1.use ?_)|clear U K)<;>conv=>whnf)
   exact⟨hlt,(),rfl,G,hs⟩
  .simp only[hq,if_true]at G
   conv=>whnf
   repeat'((first|apply st|(apply sq;intro K U)|(apply si;intro A B Y Z)|(apply Y;clear Z B Y A)|(apply U;clear U K)|refine⟨rfl,?_⟩|refine⟨kZ,?_⟩|refine ix ?_|(refine DV (fun hc=>?_)<;>(try rw[hc])<;>clear hc)|refine BD (c1.use ?_)|clear U K)<;>conv=>whnf)
   exact AK (by rw[G,<-hck])
 .rw[BX hke]at G
  conv=>whnf
  repeat'((first|apply st|(apply sq;intro K U)|(apply si;intro A B Y Z)|(apply Y;clear Z B Y A)|(apply U;clear U K)|refine⟨rfl,?_⟩|(refine EZ (fun hc=>?_)<;>(try rw[hc])<;>clear hc)|clear U K)<;>conv=>whnf)
  all_goals exact AK (by rw[G];rfl)
def eQ (xs:List (List Int×Int)) (hxl:xs.length<=256) (f:Bool):Pure Tryz.prog 44 [.l (xs.map cY) f,.f (.func 43) [] []] (.b (!H8 xs)):=by
 have c1:=iK xs hxl f
 have e:(!H8 xs)=decide (SG (fun x=>x.2 != 1) xs 0≥0):=by
  rw[VJ,H8,List.all_eq_not_any_not,Bool.not_not];rfl
 rw[e];generalize SG (fun x=>x.2 != 1) xs 0=i at *;refine wI kZ ?_;have hs:=Sn
 conv=>whnf
 repeat'((first|apply st|(apply sq;intro K U)|(apply si;intro A B Y Z)|(apply Y;clear Z B Y A)|(apply U;clear U K)|refine⟨rfl,?_⟩|refine c1.use ?_|fail)<;>conv=>whnf)
 all_goals exact AS rfl
end Go.Gl
namespace Go.Gl
open Go.Proofs
def mI {p:Prog} {gen:Int} (h1:Fh p gen=true) (h8:(Fw p gen).length<=8) (h:H8 (FZ p gen (Fg (AT p)))=true):H8 (FZ p gen (R8 (AT p) []))=true:=by
 have hfn:=TK h1 h8;rw[H8,Dh]at h ⊢;intro x hx;refine h x ?_;rw[FZ,Iz]at hx ⊢;obtain⟨bs,hb,rfl⟩:=hx;exact⟨bs,O8 (fun l hl=>tw hfn.ok.ud S5 (Mn hfn) l hl) _ _ _ hb,rfl⟩
attribute [local irreducible] As Am Ac AQ AM Ab AP AR AL Aa AN AO Ao Ax Sat AW Au Ad W
set_option maxHeartbeats 2000000 in
def bY (p:Prog) (gen:Int) (c0:Pure Tryz.prog 17 [] (.b true)):Pure Tryz.prog 10 [.a (Ba p),eI gen] (.b true):=by
 have c1:=uH p gen;have c2:=uG p gen;have c3:=jM p gen;rw[Ww]at c2 c3;rw[ou]at c1;by_cases h0:Kl p gen true=0
 .rw [h0,if_pos rfl]at c1 c2 c3
  have⟨h1,h8⟩:=wP h0;have hco:=mI h1 h8;have c4:=eQ _ (Qt (tog:=Fg (AT p)) h8) false;have c5:=eQ _ (Qt (tog:=R8 (AT p) []) h8) false;cases Y:H8 (FZ p gen (Fg (AT p)))<;>cases Z:H8 (FZ p gen (R8 (AT p) []))<;>rw[Y]at c1 c4 hco<;>rw[Z]at c1 c5 hco
  .refine YX kZ ?_
   have hs:=Sn
   conv=>whnf
   repeat'((first|apply st|(apply sq;intro K U)|(apply si;intro A B Y Z)|(apply Y;clear Z B Y A)|(apply U;clear U K)|refine⟨rfl,?_⟩|refine⟨kZ,?_⟩|refine FX ?_|refine Wr ?_|refine c1.use ?_|refine c2.use ?_|refine c3.use ?_|refine c4.use ?_|refine c5.use ?_|refine c0.use ?_|(constructor<;>intro hc<;>(try rw[hc])<;>(replace hc:=bp hc)<;>(try simp(disch:=omega) only[Bu,wrap64,AV]at hc)<;>try(exfalso;omega))|fail)<;>conv=>whnf)
   all_goals first
    | exact AS rfl
    | (exfalso;simp at hc;done)
  .refine YX kZ ?_
   have hs:=Sn
   conv=>whnf
   repeat'((first|apply st|(apply sq;intro K U)|(apply si;intro A B Y Z)|(apply Y;clear Z B Y A)|(apply U;clear U K)|refine⟨rfl,?_⟩|refine⟨kZ,?_⟩|refine FX ?_|refine Wr ?_|refine c1.use ?_|refine c2.use ?_|refine c3.use ?_|refine c4.use ?_|refine c5.use ?_|refine c0.use ?_|(constructor<;>intro hc<;>(try rw[hc])<;>(replace hc:=bp hc)<;>(try simp(disch:=omega) only[Bu,wrap64,AV]at hc)<;>try(exfalso;omega))|fail)<;>conv=>whnf)
   all_goals first
    | exact AS rfl
    | (exfalso;simp at hc;done)
  .exact absurd (hco rfl) (by decide)
  .refine YX kZ ?_
   have hs:=Sn
   conv=>whnf
   repeat'((first|apply st|(apply sq;intro K U)|(apply si;intro A B Y Z)|(apply Y;clear Z B Y A)|(apply U;clear U K)|refine⟨rfl,?_⟩|refine⟨kZ,?_⟩|refine FX ?_|refine Ws ?_|refine c1.use ?_|refine c2.use ?_|refine c3.use ?_|refine c4.use ?_|refine c5.use ?_|refine c0.use ?_|(constructor<;>intro hc<;>(try rw[hc])<;>(replace hc:=bp hc)<;>(try simp(disch:=omega) only[Bu,wrap64,AV]at hc)<;>try(exfalso;omega))|fail)<;>conv=>whnf)
   all_goals first
    | exact AS rfl
    | (exfalso;simp at hc;done)
 .rw[if_neg h0]at c1 c2 c3
  generalize Kl p gen true=e at *;refine YX kZ ?_;have hs:=Sn
  conv=>whnf
  repeat'((first|apply st|(apply sq;intro K U)|(apply si;intro A B Y Z)|(apply Y;clear Z B Y A)|(apply U;clear U K)|refine⟨rfl,?_⟩|refine⟨kZ,?_⟩|refine FX ?_|refine c1.use ?_|refine c2.use ?_|refine c3.use ?_|refine c0.use ?_|(constructor<;>intro hc<;>(try rw[hc])<;>(replace hc:=bp hc)<;>(try simp(disch:=omega) only[Bu,wrap64,AV]at hc)<;>try(exfalso;omega))|clear U K)<;>conv=>whnf)
  all_goals first
   | exact AS rfl
   | (exfalso;simp at hc;done)
end Go.Gl
namespace Go.Gl
variable {P:Program} {Λ:Nat->Prop} {σ:AH} {pu:List FuncId} {fz:List Nat}
end Go.Gl
