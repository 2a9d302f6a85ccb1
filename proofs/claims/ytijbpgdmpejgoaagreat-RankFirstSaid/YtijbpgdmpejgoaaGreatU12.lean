import Derived.Shelf.Sort.Plain
import Derived.Test.YtijbpgdmpejgoaaGreatProg
import Derived.Test.YtijbpgdmpejgoaaGreatU11
set_option linter.all false
set_option linter.defProp false
noncomputable section
namespace Go.Gl
open Go.Proofs
attribute [local irreducible] BJ A2 Ak AW AM Aj AV AX AN Ai AR AU A5 BF Sat Ad BD Al W
def Sj (g:FuncId) (fi ca:List V) (f:Int→Bool):Prop:= ∀y:Int,Pure Tryz.prog g (fi++[eI y]++ca) (.b (f y))
def Sj.use {g:FuncId} {fi ca:List V} {f:Int→Bool} (h:Sj g fi ca f) {y:Int} {σ:AH} {k kp:V→AH→Prop} (hk:k (.b (f y)) σ):A5 Tryz.prog (.f (.func g) fi ca) [eI y] σ (qk k kp):=Bp ((h y).use hk)
def eN (g:FuncId) (fi ca:List V) (L:List At) (p:Int→Bool) (hx:DC Tryz.prog (.f (.func g) fi ca) eI (fun _:Unit=>L) (SZ p) (fun _ _=>True)) (xs:List Int) (f:Bool):Bk Tryz.prog 286 [.l (iL xs) f,.f (.func g) fi ca] L fun r post=>r= .ret (.l (iL (xs.filter p)) false)∧post=L:=by
 intro σ hs;refine BJ.fit (by kernel_rfl) fun hf=>?_
 have hxl:=RK hf.1;have hM:=Mx;refine Zn kZ ?_
 conv=>whnf
 repeat'((first|apply st|(apply sq;intro K U)|(apply si;intro A B Y Z)|(apply Y;clear Z B Y A)|(apply U;clear U K)|fail)<;>conv=>whnf)
 refine B2 xs.length (fun k v=>[(5,v),(10,eI (A4 k))]) (fun k v=>L++[.own v 1 (iL ((xs.take k).filter p))]) (fun _ _=>True) (.l [] true) rfl trivial (E9 hs 1) ?_;clear hs;rintro k v σ hk - hs;have hfl:=KD p (xs.take k);rw[KG]at hfl;rcases BC xs hk with⟨y,hy,hlt⟩|hke
 ·have hst:(xs.take (k+1)).filter p=if p y then(xs.take k).filter p++[y]else(xs.take k).filter p:=by
   rw[AO hy,List.filter_append];cases hp:p y<;>simp[hp]
  generalize (xs.take k).filter p=zs at *
  conv=>whnf
  repeat'((first|apply st|(apply sq;intro K U)|(apply si;intro A B Y Z)|(apply Y;clear Z B Y A)|(apply U;clear U K)|refine⟨rfl,?_⟩|refine ix ?_|(refine CK (fun hc=>?_)<;>(try rw[hc])<;>clear hc)|refine hx.ug (s:=()) (rest:=[_]) trivial hs (fun σ hs=>?_)|(constructor<;>intro hc<;>(try rw[hc])<;>(replace hc:=bp hc)<;>(try simp(disch:=omega) only[BQ,wrap64,AL]at hc))|clear U K)<;>conv=>whnf)
  ·refine GO (Fv hs L.length (xs:=zs) (x:=y) List.getElem?_concat_length (by omega) B0 fun v' σ' hs' hsl=>?_)
   rw[List.set_append_right _ _ (JT _),Nat.sub_self]at hs';replace hs:=hs'
   conv=>whnf
   repeat'((first|(apply si;intro A B Y Z)|(apply Y;clear Z B Y A)|(apply U;clear U K)|refine⟨rfl,?_⟩|clear U K)<;>conv=>whnf)
   rw[if_pos (by assumption)]at hst;exact⟨hlt,_,rfl,trivial,by rw[hst];exact hs⟩
  ·rw[if_neg (by simp[*])]at hst
   exact⟨hlt,_,rfl,trivial,by rw[hst];exact hs⟩
 ·conv=>whnf
  repeat'((first|apply st|(apply sq;intro K U)|(apply si;intro A B Y Z)|(apply Y;clear Z B Y A)|(apply U;clear U K)|refine⟨rfl,?_⟩|(refine DR (fun hc=>?_)<;>(try rw[hc])<;>clear hc)|clear U K)<;>conv=>whnf)
  rw[Ar hke]at hs;obtain⟨σ2,h1,h2,h3⟩:=IM hs L.length List.getElem?_concat_length;refine F4 h1 h2 ⟨_,⟨rfl,rfl⟩,?_⟩;rw[List.eraseIdx_append_of_length_le (JT _),Nat.sub_self]at h3;simpa using h3
def bP (g:FuncId) (fi ca:List V) (p:Int→Bool) (hpf:Sj g fi ca p) (xs:List Int) (u:V) (hxl:xs.length≤Af):Bk Tryz.prog 286 [u,.f (.func g) fi ca] [.own u 1 (iL xs)] fun r post=>r= .ret (.l (iL (xs.filter p)) false)∧post= [.own u 1 (iL xs)]:=by
 intro σ hs;have hM:=Mx;refine Zn kZ ?_
 conv=>whnf
 repeat'((first|apply st|(apply sq;intro K U)|(apply si;intro A B Y Z)|(apply Y;clear Z B Y A)|(apply U;clear U K)|refine lo ?_|fail)<;>conv=>whnf)
 refine B2 xs.length (fun k v=>[(5,v),(10,eI (A4 k))]) (fun k v=>[.own u 1 (iL xs),.own v 1 (iL ((xs.take k).filter p))]) (fun _ _=>True) (.l [] true) rfl trivial (E9 hs 1) ?_;clear hs;rintro k v σ hk - hs;have hfl:=KD p (xs.take k);rw[KG]at hfl;rcases BC xs hk with⟨y,hy,hlt⟩|hke
 ·have hst:(xs.take (k+1)).filter p=if p y then(xs.take k).filter p++[y]else(xs.take k).filter p:=by
   rw[AO hy,List.filter_append];cases hp:p y<;>simp[hp]
  generalize (xs.take k).filter p=zs at *
  conv=>whnf
  repeat'((first|apply st|(apply sq;intro K U)|(apply si;intro A B Y Z)|(apply Y;clear Z B Y A)|(apply U;clear U K)|refine⟨rfl,?_⟩|refine oc ?_|refine SH ?_|refine aq fun v σ hs hsl=>?_|(refine CK (fun hc=>?_)<;>(try rw[hc])<;>clear hc)|refine Sj.use hpf ?_|(constructor<;>intro hc<;>(try rw[hc])<;>(replace hc:=bp hc))|clear U K)<;>conv=>whnf)
  ·rw[if_pos (by assumption)]at hst
   exact⟨hlt,_,rfl,trivial,by rw[hst];exact hs.take 2⟩
  ·rw[if_neg (by simp[*])]at hst
   exact⟨hlt,_,rfl,trivial,by rw[hst];exact hs.take 2⟩
 ·conv=>whnf
  repeat'((first|apply st|(apply sq;intro K U)|(apply si;intro A B Y Z)|(apply Y;clear Z B Y A)|(apply U;clear U K)|refine⟨rfl,?_⟩|(refine DR (fun hc=>?_)<;>(try rw[hc])<;>clear hc)|clear U K)<;>conv=>whnf)
  rw[Ar hke]at hs;obtain⟨σ2,h1,h2,h3⟩:=IM hs 1 rfl;exact F4 h1 h2 ⟨_,⟨rfl,rfl⟩,h3⟩
def oy:Sj 289 [] [] (· != 0):=by
 intro y;refine jk kZ ?_;have hs:=Sn
 conv=>whnf
 repeat'((first|apply st|(apply sq;intro K U)|(apply si;intro A B Y Z)|(apply Y;clear Z B Y A)|(apply U;clear U K)|refine⟨rfl,?_⟩|fail)<;>conv=>whnf)
 all_goals exact AI rfl
def cD (xs:List Int) (u:V) (hxl:xs.length≤Af):Bk Tryz.prog 285 [u] [.own u 1 (iL xs)] fun r post=>r= .ret (.l (iL (xs.filter (· != 0))) false)∧post= [.own u 1 (iL xs)]:=by
 intro σ hs;refine jn kZ ?_
 conv=>whnf
 repeat'((first|(apply sq;intro K U)|(apply si;intro A B Y Z)|(apply Y;clear Z B Y A)|(apply U;clear U K)|fail)<;>conv=>whnf)
 refine(bP 289 [] [] (· != 0) oy xs u hxl).use (rest:=[]) hs ?_;clear hs;rintro r post σ ⟨rfl,rfl⟩ hs
 conv=>whnf
 repeat'((first|apply st|(apply Y;clear Z B Y A)|(apply U;clear U K)|fail)<;>conv=>whnf)
 exact Ap hs (by simp) (.refl _) fun σ' hs'=>⟨_,⟨rfl,rfl⟩,hs'⟩
def Wk (g : List (List Int)) (f:Bool):Pure Tryz.prog 249 [.l (Ec g) f] (.b (Dn g)):=by
 refine Pure.fit (by kernel_rfl) fun hf=>?_
 have⟨g1,g2⟩:=RJ hf.1;have hM:=Mx;refine kN kZ ?_;have hs:=Sn;by_cases h16:g.length≤16
 ·conv=>whnf
  repeat'((first|apply st|(apply sq;intro K U)|(apply si;intro A B Y Z)|(apply Y;clear Z B Y A)|(apply U;clear U K)|refine⟨rfl,?_⟩|(constructor<;>intro hc<;>(try rw[hc])<;>(replace hc:=bp hc)<;>(try simp(disch:=omega) only[BQ,wrap64,AL]at hc)<;>try(exfalso;omega))|fail)<;>conv=>whnf)
  all_goals try(exfalso;omega)
  refine B2 g.length (fun k (_:Unit)=>[(12,eI (A4 k))]) (fun _ _=>[]) (fun k _=>Dn g=IK k (g.drop k)) () rfl (by simp[Dn,h16]) hs ?_;clear hs;rintro k - σ hk hn hs;have hck:A4 k=k:=AL (by omega);rcases BC g hk with⟨l,hl,hlt⟩|hke
  ·have hll:=g2 l (B5 hl)
   rw[drop_cons hl,IK]at hn;by_cases h3:l.length≤3
   ·rw[decide_eq_true h3,E7]at hn
    conv=>whnf
    repeat'((first|apply st|(apply sq;intro K U)|(apply si;intro A B Y Z)|(apply Y;clear Z B Y A)|(apply U;clear U K)|refine⟨rfl,?_⟩|refine ix ?_|(refine CK (fun hc=>?_)<;>(try rw[hc])<;>clear hc)|(constructor<;>intro hc<;>(try rw[hc])<;>(replace hc:=bp hc)<;>(try simp(disch:=omega) only[BQ,wrap64,AL]at hc)<;>try(exfalso;omega))|fail)<;>conv=>whnf)
    all_goals try(exfalso;omega)
    refine B2 l.length (fun j (_:Unit)=>[(22,eI (A4 j))]) (fun _ _=>[]) (fun j _=>Dn g=(Le k (l.take j) (l.drop j)&&IK (k+1) (g.drop (k+1)))) () rfl hn hs ?_;clear hs hn;rintro j - σ hj hn hs;rcases BC l hj with⟨c,hc0,hjlt⟩|hje
    ·rw[drop_cons hc0,Le,gd]at hn
     have hw:IntKind.i64.wrap (3+A4 k)=3+(k:Int):=by rw[hck,wrap64 (by omega) (by omega)]
     conv=>whnf
     repeat'((first|apply st|(apply sq;intro K U)|(apply si;intro A B Y Z)|(apply Y;clear Z B Y A)|(apply U;clear U K)|refine⟨rfl,?_⟩|refine ix ?_|refine uU ?_|(refine CK (fun hc=>?_)<;>(try rw[hc])<;>clear hc)|refine Pure.use (Dv _ _ _) ?_|(constructor<;>intro hc<;>(try rw[hc])<;>(replace hc:=bp hc)<;>(try simp(disch:=omega) only[BQ,wrap64,AL]at hc))|clear U K)<;>conv=>whnf)
     ·exact AI (by rw[hn,hc];simp)
     ·exact⟨hjlt,(),rfl,by rw[hn,hc,AO hc0];simp[*],hs⟩
     ·exact AI (by(rw[hn];have: ¬c<3+(k:Int):=by omega);simp[this])
     ·exact AI (by(rw[hn];have: ¬3≤c:=by omega);simp[this])
    ·conv=>whnf
     repeat'((first|apply st|(apply sq;intro K U)|(apply si;intro A B Y Z)|(apply Y;clear Z B Y A)|(apply U;clear U K)|refine⟨rfl,?_⟩|(refine DR (fun hc=>?_)<;>(try rw[hc])<;>clear hc)|clear U K)<;>conv=>whnf)
     exact⟨hlt,(),rfl,by rw[hn,Ah hje];rfl,hs⟩
   ·conv=>whnf
    repeat'((first|apply st|(apply sq;intro K U)|(apply si;intro A B Y Z)|(apply Y;clear Z B Y A)|(apply U;clear U K)|refine⟨rfl,?_⟩|refine ix ?_|(refine CK (fun hc=>?_)<;>(try rw[hc])<;>clear hc)|(constructor<;>intro hc<;>(try rw[hc])<;>(replace hc:=bp hc)<;>(try simp(disch:=omega) only[BQ,wrap64,AL]at hc)<;>try(exfalso;omega))|clear U K)<;>conv=>whnf)
    all_goals try(exfalso;omega)
    exact AI (by rw[hn];simp[h3])
  ·conv=>whnf
   repeat'((first|apply st|(apply sq;intro K U)|(apply si;intro A B Y Z)|(apply Y;clear Z B Y A)|(apply U;clear U K)|refine⟨rfl,?_⟩|(refine DR (fun hc=>?_)<;>(try rw[hc])<;>clear hc)|clear U K)<;>conv=>whnf)
   exact AI (by rw[hn,Ah hke];rfl)
 ·conv=>whnf
  repeat'((first|apply st|(apply sq;intro K U)|(apply si;intro A B Y Z)|(apply Y;clear Z B Y A)|(apply U;clear U K)|refine⟨rfl,?_⟩|(constructor<;>intro hc<;>(try rw[hc])<;>(replace hc:=bp hc)<;>(try simp(disch:=omega) only[BQ,wrap64,AL]at hc)<;>try(exfalso;omega))|clear U K)<;>conv=>whnf)
  all_goals try(exfalso;omega)
  exact AI (by simp[Dn,h16])
def TU (g:List (List Int)) (f:Bool):Pure Tryz.prog 208 [.l (Ec g) f] (eI (if Dn g then 0 else 2)):=by
 refine lG kZ ?_;have hs:=Sn
 conv=>whnf
 repeat'((first|apply st|(apply sq;intro K U)|(apply si;intro A B Y Z)|(apply Y;clear Z B Y A)|(apply U;clear U K)|refine Pure.use (Wk _ _) ?_|(constructor<;>intro hc<;>(try rw[hc])<;>(replace hc:=bp hc))|clear U K)<;>conv=>whnf)
 all_goals exact AI (by simp[*])
def oz (n:Nat) (h:Int):DC Tryz.prog (.f (.func 287) [] [.p n 0]) eI (fun _:Unit=>[.box n [eI h]]) (SZ (· != h)) (fun _ _=>True):=by
 intro y s _ σ hs;refine Bp ?_;show BJ Tryz.prog 287 ([]++[eI y]++[.p n 0]) σ _;refine jm kZ ?_
 conv=>whnf
 repeat'((first|apply st|(apply sq;intro K U)|(apply si;intro A B Y Z)|(apply Y;clear Z B Y A)|(apply U;clear U K)|refine⟨rfl,?_⟩|refine ld ?_|fail)<;>conv=>whnf)
 exact Ap hs (List.Sublist.refl _) (.refl _) fun σ' hs'=>⟨rfl,hs'⟩
def YF (ls:List (List Int)):FF ls []=false:=rfl
def VG (ls:List (List Int)) (x:Int) (r:List Int):FF ls (x::r)=free ls x:=rfl
def YM {α:Type} {p:α→Bool} {xs:List α} {k:Nat} {x:α} (hx:xs[k]? =some x) (h:(xs.take k).find? p=none):(xs.take (k+1)).find? p=if p x then some x else none:=by
 rw[AO hx,List.find?_append,h];simp only[List.find?_cons,List.find?_nil,Option.none_or];cases p x<;>rfl
def YL {α:Type} {p:α→Bool} {xs:List α} {k:Nat} {x:α} (h:(xs.take k).find? p=some x):xs.find? p=some x:=by
 conv=>lhs;rw[←List.take_append_drop k xs]
 rw[List.find?_append,h];rfl
def WE (ls:List (List Int)):pick ls=(ls.find? (FF ls)).bind List.head? :=rfl
set_option maxHeartbeats 4000000 in
def bG (ls:List (List Int)) (f:Bool) (hok:LZ ls) (ht:total ls<Af):Pure Tryz.prog 283 [.l (Ec ls) f] (.t [.l (iL (CM ls).1) false,.b (CM ls).2]):=by
 have hM:=Mx;refine jq kZ ?_;have hs:=Sn
 conv=>whnf
 repeat'((first|apply st|(apply sq;intro K U)|(apply si;intro A B Y Z)|(apply Y;clear Z B Y A)|(apply U;clear U K)|fail)<;>conv=>whnf)
 refine Fo (fun(x:List (List Int)×Bool×V×List Int)=>total x.1) (fun x=>[(0,.l (Ec x.1) x.2.1),(4,x.2.2.1)]) (fun x=>[.own x.2.2.1 1 (iL x.2.2.2)])
  (fun x=>LZ x.1∧x.2.2.2.length+total x.1≤total ls∧DM (total x.1) x.1 x.2.2.2=CM ls) (ls,f,.l [] true,[]) rfl ⟨hok,by simp,rfl⟩ (E9 hs 1) ?_
 clear hs;rintro⟨ls',f',v,out⟩ σ ⟨hok',hlen,hm⟩ hs;dsimp only at hok' hlen hm hs;dsimp only;have hol:=hok'.1
 conv=>whnf
 repeat'((first|apply st|(apply sq;intro K U)|(apply si;intro A B Y Z)|(apply Y;clear Z B Y A)|(apply U;clear U K)|fail)<;>conv=>whnf)
 refine B2 ls'.length (fun k (t:Bool)=>[(5,.b t),(16,eI (A4 k))]) (fun _ _=>[.own v 1 (iL out)]) (fun k t=>(ls'.take k).find? (FF ls')=none∧t=(ls'.take k).any fun l=> !l.isEmpty) false rfl ⟨rfl,rfl⟩ hs ?_;clear hs;rintro k t σ hk ⟨hfd,hta⟩ hs;rcases BC ls' hk with⟨l,hl,hlt⟩|hke
 ·have hfs:=YM (p:=FF ls') hl hfd
  have has:((ls'.take (k+1)).any fun l=> !l.isEmpty)=(t|| !l.isEmpty):=by rw[AO hl,List.any_append,←hta];simp
  have hb:=hok'.2 _ (B5 hl);cases l with
  | nil=>
    have hnl:([]:List Int).length=0:=rfl;rw[YF,if_neg (by decide)]at hfs
    conv=>whnf
    repeat'((first|apply st|(apply sq;intro K U)|(apply si;intro A B Y Z)|(apply Y;clear Z B Y A)|(apply U;clear U K)|refine⟨rfl,?_⟩|refine ix ?_|(refine CK (fun hc=>?_)<;>(try rw[hc])<;>clear hc)|(constructor<;>intro hc<;>(try rw[hc])<;>(replace hc:=bp hc)<;>(try simp(disch:=omega) only[BQ,wrap64,AL]at hc)<;>try(exfalso;omega))|clear U K)<;>conv=>whnf)
    exact⟨hlt,_,rfl,⟨hfs,by rw[has];simp⟩,hs⟩
  | cons x r=>
    have hx0:(x::r)[Int.toNat 0]? =some x:=rfl;have hnl:(x::r).length=r.length+1:=rfl;rw[VG]at hfs;simp only[List.isEmpty_cons,Bool.not_false,Bool.or_true]at has
    conv=>whnf
    repeat'((first|apply st|(apply sq;intro K U)|(apply si;intro A B Y Z)|(apply Y;clear Z B Y A)|(apply U;clear U K)|refine⟨rfl,?_⟩|refine ix ?_|(refine CK (fun hc=>?_)<;>(try rw[hc])<;>clear hc)|(constructor<;>intro hc<;>(try rw[hc])<;>(replace hc:=bp hc)<;>(try simp(disch:=omega) only[BQ,wrap64,AL]at hc)<;>try(exfalso;omega))|fail)<;>conv=>whnf)
    refine B2 ls'.length (fun j (_:Unit)=>[(25,eI (A4 j))]) (fun _ _=>[.own v 1 (iL out)]) (fun j _=>free ls' x=(ls'.drop j).all fun m=> !(m.drop 1).contains x) () rfl rfl hs ?_;clear hs;rintro j - σ hj hfr hs;rcases BC ls' hj with⟨m,hm0,hjlt⟩|hje
    ·have hmb:=(hok'.2 _ (B5 hm0)).1
     rw[drop_cons hm0,My]at hfr;cases m with
     | nil=>
       have hml:([]:List Int).length=0:=rfl
       conv=>whnf
       repeat'((first|apply st|(apply sq;intro K U)|(apply si;intro A B Y Z)|(apply Y;clear Z B Y A)|(apply U;clear U K)|apply dr|refine⟨rfl,?_⟩|refine ix ?_|(refine CK (fun hc=>?_)<;>(try rw[hc])<;>clear hc)|(constructor<;>intro hc<;>(try rw[hc])<;>(replace hc:=bp hc)<;>(try simp(disch:=omega) only[BQ,wrap64,AL]at hc)<;>try(exfalso;omega))|clear U K)<;>conv=>whnf)
       exact⟨hjlt,(),rfl,by rw[hfr];rfl,hs⟩
     | cons y s=>
       have hml:(y::s).length=s.length+1:=rfl
       conv=>whnf
       repeat'((first|apply st|(apply sq;intro K U)|(apply si;intro A B Y Z)|(apply Y;clear Z B Y A)|(apply U;clear U K)|apply dr|refine⟨rfl,?_⟩|refine ix ?_|(refine CK (fun hc=>?_)<;>(try rw[hc])<;>clear hc)|(constructor<;>intro hc<;>(try rw[hc])<;>(replace hc:=bp hc)<;>(try simp(disch:=omega) only[BQ,wrap64,AL]at hc)<;>try(exfalso;omega))|fail)<;>conv=>whnf)
       refine S3 1 rfl (by omega) (fun _=>rfl) ?_
       conv=>whnf
       repeat'((first|apply st|(apply si;intro A B Y Z)|(apply Y;clear Z B Y A)|(apply U;clear U K)|apply dr|refine⟨rfl,?_⟩|refine GX ?_|refine Pure.use (Dv _ _ _) ?_|(constructor<;>intro hc<;>(try rw[hc])<;>(replace hc:=bp hc))|clear U K)<;>conv=>whnf)
       ·rw[hc]at hfr
        have hfr2:free ls' x=false:=by rw[hfr];rfl
        rw[hfr2,if_neg (by decide)]at hfs;exact⟨hlt,true,rfl,⟨hfs,by rw[has]⟩,hs⟩
       ·exact⟨hjlt,(),rfl,by rw[hfr,hc];rfl,hs⟩
    ·rw[Ah hje]at hfr
     have hgood:free ls' x=true:=hfr;rw[hgood,if_pos rfl]at hfs;have hp:pick ls'=some x:=by rw[WE,YL hfs];rfl
     have htp:=H4 hp
     conv=>whnf
     repeat'((first|apply st|(apply sq;intro K U)|(apply si;intro A B Y Z)|(apply Y;clear Z B Y A)|(apply U;clear U K)|refine⟨rfl,?_⟩|refine GX ?_|refine ld ?_|refine s1 fun σ hs=>?_|refine aq fun v σ hs hsl=>?_|(refine DR (fun hc=>?_)<;>(try rw[hc])<;>clear hc)|(intro nn hnn;generalize hg:BA _ nn _=σ;refine al hg fun hs=>?_;clear hg)|clear U K)<;>conv=>whnf)
     have hs2:Sat σ [.own v 1 (iL (out++[x])),.box nn [eI x]]:=hs;refine B2 ls'.length (fun k u=>[(11,u),(50,eI (A4 k))]) (fun k u=>[.own v 1 (iL (out++[x])),.box nn [eI x],.own u 1 (Ec ((ls'.take k).map fun l=>l.filter (· != x)))]) (fun _ _=>True) (.l [] true) rfl trivial (E9 hs2 1) ?_;clear hs hs2;rintro q u σ hq - hs;rcases BC ls' hq with⟨w,hw,hqlt⟩|hqe
     ·conv=>whnf
      repeat'((first|apply st|(apply sq;intro K U)|(apply si;intro A B Y Z)|(apply Y;clear Z B Y A)|(apply U;clear U K)|refine⟨rfl,?_⟩|refine ix ?_|(refine CK (fun hc=>?_)<;>(try rw[hc])<;>clear hc)|fail)<;>conv=>whnf)
      refine(eN 287 [] [.p nn 0] [.box nn [eI x]] (· != x) (oz nn x) w false).use (rest:=[_,_]) (hs.perm (.swap _ _ _)) ?_;clear hs;rintro rr post σ ⟨rfl,rfl⟩ hs
      conv=>whnf
      repeat'((first|(apply si;intro A B Y Z)|(apply Y;clear Z B Y A)|(apply U;clear U K)|refine⟨rfl,?_⟩|refine aq fun v σ hs hsl=>?_|clear U K)<;>conv=>whnf)
      refine⟨hqlt,_,rfl,trivial,?_⟩;rw[AO hw,R9];exact hs.perm (.swap _ _ _)
     ·conv=>whnf
      repeat'((first|apply st|(apply sq;intro K U)|(apply si;intro A B Y Z)|(apply Y;clear Z B Y A)|(apply U;clear U K)|refine⟨rfl,?_⟩|(refine DR (fun hc=>?_)<;>(try rw[hc])<;>clear hc)|clear U K)<;>conv=>whnf)
      rw[Ar hqe]at hs;refine gz hs 2 rfl fun σ' hs'=>?_
      conv=>whnf
      repeat'((first|apply st|(apply Y;clear Z B Y A)|(apply U;clear U K)|clear U K)<;>conv=>whnf)
      refine⟨(ls'.map fun l=>l.filter (· != x),false,v,out++[x]),htp,rfl,⟨hok'.filter x,by simp;omega,?_⟩,hs'.take 1⟩;rw[←Ma hp];exact hm
 ·rw[Ar hke]at hfd hta
  have hp:pick ls'=none:=by rw[WE,hfd];rfl
  rw[On hp]at hm
  conv=>whnf
  repeat'((first|apply st|(apply sq;intro K U)|(apply si;intro A B Y Z)|(apply Y;clear Z B Y A)|(apply U;clear U K)|refine⟨rfl,?_⟩|(refine DR (fun hc=>?_)<;>(try rw[hc])<;>clear hc)|clear U K)<;>conv=>whnf)
  refine Bh ?_;rw[←hm];refine .t (.cons (hs.Pm 0 rfl) (.cons ?_ .nil));have:(!t)=ls'.all List.isEmpty:=by rw[hta];simp[List.all_eq_not_any_not]
  rw[←this];exact .refl _
end Go.Gl
namespace Go.Gl
variable {P:Program} {σ:AH}
def Sat.nt {l:List At} {a:At} (h:Sat σ (l++[a])):Sat σ (a::l):=h.perm (by
 have:=SE (l₁:=l) (l₂:=[a])
 simpa using this)
def C7 {l:List At} (h:Sat σ l) (sz:Nat):Sat σ (.own (.l [] true) sz []::l):=(E9 h sz).nt
def fy {l:List At} (h:Sat σ l) {sz:Nat} {es:List (List V)} (hs: ∀e∈es,e.length=sz):Sat σ (.own (.l es true) sz es::l):=(c8 h hs).nt
def Ct {l:List At} {o:O} {n:Nat} {K:Prop} {σ':AH} (e:BA σ n o=σ') (hk:Sat σ' (.obj n o::l)→K) (hn:σ n=none:=by assumption) (h:Sat σ l:=by assumption):K:=hk (e ▸ (Y1 h hn).nt)
def J3 {α:Type}: ∀ {l:List α} {j:Nat} {a:α},l[j]? =some a→l.Perm (a::l.eraseIdx j)
 | x::r,0,a,h=>by simp at h;subst h;simp
 | x::r,j+1,a,h=>by
   simp only[na]at h;simp only[List.eraseIdx_cons_succ];exact((J3 h).cons x).trans (.swap _ _ _)
def Sat.front {l:List At} {j:Nat} {a:At} (h:Sat σ l) (hj:l[j]? =some a):Sat σ (a::l.eraseIdx j):=h.perm (J3 hj)
def Sat.back {l:List At} {j:Nat} {a:At} (h:Sat σ (a::l.eraseIdx j)) (hj:l[j]? =some a):Sat σ l:=h.perm (J3 hj).symm
def Bk.fY {f:FuncId} {args:List V} {a:At} {Φ:R→Prop} (h:Bk P f args [a] fun r post=>Φ r∧post= [a]) {l:List At} {j:Nat} (hs:Sat σ l) (hj:l[j]? =some a) {Q:R→AH→Prop} (hk: ∀r σ',Φ r→Sat σ' l→Q r σ'):BJ P f args σ Q:=by
 refine h.use (rest:=l.eraseIdx j) (hs.front hj) ?_;rintro r post σ' ⟨hr,rfl⟩ hs';exact hk r σ' hr (Sat.back hs' hj)
def FB {l:List At} {i n off:Nat} {vs:List V} {x:V} {K:AH→Prop} (hk: ∀σ',Sat σ' (l.set i (.box n (vs.set off x)))→K σ') (h:Sat σ l:=by assumption)
    (hi:l[i]? =some (.box n vs):=by first|exact Pk|exact Pj|exact Ph|exact Pg|exact Pf|exact Pe)
    (h1:DZ x=true:=by first|rfl|exact HD (by assumption) 0 rfl|exact HD (by assumption) 1 rfl|exact HD (by assumption) 2 rfl|exact HD (by assumption) 3 rfl|(simp<;>fail)) (ho:off+1≤vs.length:=by exact Nat.le_of_ble_eq_true rfl):AX σ 1 (.p n off) x K:=
 Kh h i hi h1 ho hk
def Dy {l:List At} {i n off sz:Nat} {vs vc:List V} {x:V} {K:AH→Prop} (hk: ∀σ',Sat σ' (l.set i (.box n (putAt vs off vc)))→K σ') (h:Sat σ l:=by assumption)
    (hi:l[i]? =some (.box n vs):=by first|exact Pk|exact Pj|exact Ph|exact Pg|exact Pf|exact Pe)
    (hc:cellsOf x=some vc:=by rfl) (hl:vc.length=sz:=by rfl) (h1:vc.all DZ=true:=by first|rfl|(simp<;>fail)|(simp[*]<;>fail)) (ho:off+sz≤vs.length:=by exact Nat.le_of_ble_eq_true rfl):AX σ sz (.p n off) x K:=
 Iy h i hi hc hl h1 ho hk
def UE {sz m n o:Nat} {ki:IntKind} {j:Int} {K:V→Prop} (h:K (.p n (o+j.toNat*sz))) (h0:0≤j:=by omega) (h1:j<m:=by omega):AW sz (some m) (.p n o) (.i ki j) K:=⟨h0,h1,h⟩
def nv {sz m:Nat} {cs:List V} {ki:IntKind} {j:Int} {K:V→Prop} (h:K (.rp (cs.drop (j.toNat*sz)))) (h0:0≤j:=by omega) (h1:j<m:=by omega):AW sz (some m) (.rp cs) (.i ki j) K:=⟨h0,h1,h⟩
def jN {l:List At} (h:Sat σ l) (i:Nat) {v:V} {sz:Nat} {es es':List (List V)} (hi:l[i]? =some (.own v sz es)) (he: ∀σ2,FK σ σ2 es es'): ∃σ2,Sub σ2 σ∧GC σ σ2 v (.l es' false)∧Sat σ2 (l.eraseIdx i):=by
 rcases h.get hi with⟨rfl,_⟩|⟨n,cap,rfl,hn⟩
 ·exact⟨σ,fun _ _ h=>h,.l (fun h=>(by cases h)) (he _),h.less (List.eraseIdx_sublist _ _)⟩
 ·refine⟨del σ n,Gh σ n,.arr hn (EL σ n) rfl (he _),?_⟩
  refine⟨fun b hb=>?_,h.2.sublist (List.eraseIdx_sublist _ _)⟩;refine FC (h.1 b (List.mem_of_mem_eraseIdx hb)) fun m hm=>?_
  rw[G2];intro e;subst e;exact E6 h.2 hi b hb m rfl hm
def oR {l:List At} (h:Sat σ l) {sz:Nat} {z:List V} {n m:Nat} {K:V→AH→Prop} (hnm:n≤m) (hn:m≤1073741824) (hk: ∀v σ',Sat σ' (.own v sz (List.replicate n z)::l)→(∃id,v= .sl id n m)→K v σ') {ki kj:IntKind} :
    AN σ sz z (.i ki (n:Int)) (.i kj (m:Int)) K:=by
 refine⟨by omega,by omega,by omega,fun id hid=>?_⟩;simp only[KF];refine hk _ _ (h.add (a:= .own (.sl id n m) sz (List.replicate n z)) (fun b hb=>FC hb fun m hm=>?_) (fun b hb m hm hb'=>?_) (.inr ⟨id,m,by simp,by simp[BA]⟩)).nt ⟨id,rfl⟩
 ·obtain⟨o,ho⟩:=Cz hb hm
  rw[C3];intro e;subst e;rw[hid]at ho;cases ho
 ·cases hm
  obtain⟨o,ho⟩:=Cz hb hb';rw[hid]at ho;cases ho
def Vw {σ:AH} {l:List At} {i:Nat} {v:V} {sz:Nat} {es:List (List V)} (hs:Sat σ l) (hi:l[i]? =some (.own v sz es)) (he: ∀e∈es,e.length=sz) (hm:es.length≤Af) {K:V→AH→Prop} (hk: ∀σ',Sat σ' (l.eraseIdx i)→K (.l es true) σ'):AV σ sz v none (some (.i .i64 (es.length:Int))) (some (.i .i64 (es.length:Int))) K:=by
 rcases hs.get hi with⟨rfl,_⟩|⟨n,cap,rfl,hn⟩
 ·refine⟨he,?_⟩
  simp only[M0];refine⟨Int.le_refl _,Int.natCast_nonneg _,Int.le_refl _,trivial,?_⟩;have:=hk σ (hs.less (List.eraseIdx_sublist _ _));simpa using this
 ·unfold AV
  simp only[M0];refine⟨Int.le_refl _,Int.natCast_nonneg _,Int.le_refl _,trivial,trivial,trivial,?_⟩;rw[hn];refine⟨rfl,rfl,rfl,.inl (hk _ ?_)⟩;refine⟨fun b hb=>?_,hs.2.sublist (List.eraseIdx_sublist _ _)⟩;refine FC (hs.1 b (List.mem_of_mem_eraseIdx hb)) fun m hm=>?_
  rw[G2];intro e;subst e;exact E6 hs.2 hi b hb m rfl hm
end Go.Gl
namespace Go.Gl
open Go.Proofs
attribute [local irreducible] BJ A2 Ak AW AM Aj AV AX AN Ai AR AU A5 BF Sat Ad BD Al W
abbrev Ord:=Int×V×List Int
def cg (e:Ord):V×V:=(eI e.1,e.2.1)
def Yp (e:Ord):At:= .own e.2.1 1 (iL e.2.2)
abbrev pL (ps:List (List Int×Bool)):List (List V):=ps.map fun p=>[.l (iL p.1) p.2]
abbrev gH (n mm:Nat) (vp vu:V) (ps:List (List Int×Bool)) (us:List Nat) (M:List Ord):List At:=
 .box n [vp,vu,.m mm]:: .own vp 1 (pL ps):: .own vu 1 (us.map fun u=>[eU u]):: .map mm (M.map cg)::M.map Yp
def CC (M:List Ord) (c:Int):List Int:=((M.find? fun e=>c==e.1).map fun e=>e.2.2).getD []
def Ih (M:List Ord) (c:Int):V:=((M.find? fun e=>c==e.1).map fun e=>e.2.1).getD (.l [] true)
def bN (M:List Ord) (c:Int):found (.l [] true) false (DG (eI c) (M.map cg))=Ih M c:=by
 induction M with
 | nil=>rfl
 | cons e r ih=>
   simp only[E8,cg,DG,Ih,List.find?_cons]at *;have he:EG (eI c) (eI e.1)=(c==e.1):=rfl;rw[he];cases c==e.1
   ·exact ih
   ·rfl
def UW (M:List Ord): ∀kv∈M.map cg,Bt (.i .i64) kv.1=true:=by
 intro kv h;obtain⟨e,_,rfl⟩:=Mk.1 h;rfl
def dz {M:List Ord} {c:Int} (v:V) (l:List Int) (h: ∀e∈M,e.1≠c):EF (eI c) v (M.map cg)=(M++[(c,v,l)]).map cg:=by
 induction M with
 | nil=>rfl
 | cons e r ih=>
   simp only[E8,List.cons_append,cg,EF];have he:EG (eI c) (eI e.1)=(c==e.1):=rfl;rw[he,beq_false_of_ne (fun e'=>h e (.head _) e'.symm)];simp only[cond_false];rw[ih fun e he=>h e (.tail _ he)]
def Nu (M:List Ord) (c:Int):(CC M c= []∧Ih M c= .l [] true)∨ ∃j:Nat,(M.map Yp)[j]? =some (At.own (Ih M c) 1 (iL (CC M c))):=by
 unfold CC Ih;cases h:M.find? fun e=>c==e.1 with
 | none=>exact .inl ⟨rfl,rfl⟩
 | some e=>
   refine .inr ?_;obtain⟨j,hj⟩:=List.getElem?_of_mem (List.mem_of_find?_eq_some h);refine⟨j,?_⟩;rw[Pc,hj];rfl
def Nv {M:List Ord} {c:Int} {σ:AH} {fx:List At} (hs:Sat σ (fx++M.map Yp)) (hl:(CC M c).length≤Af) {K:V→Prop} (hk:K (.i .i64 (CC M c).length)):BD (Ih M c) K:=by
 rcases Nu M c with⟨h1,h2⟩|⟨j,hj⟩
 ·rw[h2]
  rw[h1]at hk;exact FE hk
 ·have hj':(fx++M.map Yp)[fx.length+j]? =some (At.own (Ih M c) 1 (iL (CC M c))):=by
   rw[List.getElem?_append_right (by omega),Nat.add_sub_cancel_left,hj]
  exact oT hs _ hj' (by simpa using hl) (by simpa using hk)
def uY {σ:AH} {l:List At} {i mm:Nat} {M:List Ord} {c:Int} {K:V→Prop} (hk:K (Ih M c)) (h:Sat σ l:=by assumption)
    (hi:l[i]? =some (.map mm (M.map cg)):=by first|exact Pk|exact Pj|exact Ph|exact Pg|exact Pf|exact Pe):AR σ (.i .i64) (.l [] true) false (.m mm) (eI c) K:=
 JD h i hi rfl (UW M) (by rw[bN];exact hk)
def qb {M:List Ord} {c:Int} {σ:AH} {fx:List At} (hs:Sat σ (fx++M.map Yp)) (hl:(CC M c).length≤Af) (hne:CC M c≠[]) {k kp:V→AH→Prop} (hk: ∀σ',Sat σ' (fx++M.map Yp)→k (.l (iL ((CC M c).filter (· != 0))) false) σ'):BJ Tryz.prog 285 [Ih M c] σ (qk k kp):=by
 rcases Nu M c with⟨h1,h2⟩|⟨j,hj⟩
 ·exact absurd h1 hne
 ·have hj':(fx++M.map Yp)[fx.length+j]? =some (At.own (Ih M c) 1 (iL (CC M c))):=by
   rw[List.getElem?_append_right (by omega),Nat.add_sub_cancel_left,hj]
  refine(cD (CC M c) (Ih M c) hl).fY hs hj' ?_;rintro r σ' rfl hs';exact hk σ' hs'
def Tb {σ σ2:AH}: ∀ {a a' b b':List (List V)},FK σ σ2 a a'→FK σ σ2 b b'→FK σ σ2 (a++b) (a'++b')
 | [],[],_,_,.nil,h=>h
 | _::_,_::_,_,_,.cons h1 h2,h=> .cons h1 (Tb h2 h)
def bI (n mm:Nat) (vp vu:V) (ps:List (List Int×Bool)) (us:List Nat) (M:List Ord) (c:Int) (l:List Int) (b:Bool) (hc0:0≤c) (hl:ps[c.toNat]? =some (l,b)) (hll:l.length≤3) (hol: ∀c,(CC M c).length≤Af) :
    Bk Tryz.prog 282 [.p n 0,eI c] (gH n mm vp vu ps us M) fun r post=>r= .ret (if l.any fun p=>(CC M p).isEmpty then .t [.l [] true,.b false]else .t [.l (Ec (l.map (fun p=>(CC M p).filter (· != 0))++[l])) false,.b true])∧post=gH n mm vp vu ps us M:=by
 intro σ hs;have hM:=Mx;have hci:c<ps.length:=by have:=(G7.1 hl).1;omega
 refine jr kZ ?_
 conv=>whnf
 repeat'((first|apply st|(apply sq;intro K U)|(apply si;intro A B Y Z)|(apply Y;clear Z B Y A)|(apply U;clear U K)|refine ld ?_|refine oi ?_|refine SH ?_|fail)<;>conv=>whnf)
 refine B2 l.length (fun k v=>[(6,v),(17,eI (A4 k))]) (fun k v=> .own v 1 (Ec ((l.take k).map fun p=>(CC M p).filter (· != 0)))::gH n mm vp vu ps us M) (fun k _=>((l.take k).any fun p=>(CC M p).isEmpty)=false) (.l [] true) rfl rfl (C7 hs 1) ?_;clear hs;rintro k v σ hk hne hs;rcases BC l hk with⟨p,hp,hlt⟩|hke
 ·have han:((l.take (k+1)).any fun p=>(CC M p).isEmpty)=(CC M p).isEmpty:=by rw[AO hp,List.any_append,hne];simp
  have hap:(l.take k).length≤3:=by rw[KG];omega
  conv=>whnf
  repeat'((first|apply st|(apply sq;intro K U)|(apply si;intro A B Y Z)|(apply Y;clear Z B Y A)|(apply U;clear U K)|refine⟨rfl,?_⟩|refine ix ?_|refine ld ?_|(refine CK (fun hc=>?_)<;>(try rw[hc])<;>clear hc)|refine uY ?_|refine Nv (fx:=_::_::_::_::_:: []) hs (hol _) ?_|(constructor<;>intro hc<;>(try rw[hc])<;>(replace hc:=bp hc))|clear U K)<;>conv=>whnf)
  ·have h0:(CC M p).isEmpty=true:=by rw[List.isEmpty_iff_length_eq_zero];omega
   have hany:(l.any fun p=>(CC M p).isEmpty)=true:=JU.2 ⟨p,B5 hp,h0⟩;refine Ap (l':=gH n mm vp vu ps us M) hs (Ji _ _) (.refl _) fun σ' hs'=>⟨_,⟨?_,rfl⟩,hs'⟩
   rw[if_pos hany]
  ·have h0:(CC M p).isEmpty=false:=by
    cases h:(CC M p).isEmpty
    ·rfl
    ·rw[List.isEmpty_iff_length_eq_zero]at h;omega
   refine qb (fx:=_::_::_::_::_:: []) hs (hol _) (fun e=>by rw[e]at h0;cases h0) fun σ hs=>?_
   conv=>whnf
   repeat'((first|(apply si;intro A B Y Z)|(apply Y;clear Z B Y A)|(apply U;clear U K)|refine⟨rfl,?_⟩|refine aq fun v σ hs hsl=>?_|clear U K)<;>conv=>whnf)
   refine⟨hlt,_,rfl,by rw[han];exact h0,?_⟩;rw[AO hp,R9];exact hs
 ·rw[Ar hke]at hne hs
  conv=>whnf
  repeat'((first|apply st|(apply sq;intro K U)|(apply si;intro A B Y Z)|(apply Y;clear Z B Y A)|(apply U;clear U K)|refine⟨rfl,?_⟩|refine ld ?_|refine oi ?_|refine SH ?_|(refine DR (fun hc=>?_)<;>(try rw[hc])<;>clear hc)|clear U K)<;>conv=>whnf)
  refine hAppend hs 0 rfl (by simp;omega) (fun e he=>by simp at he;subst he;rfl) (fun e he v hv=>by simp at he;subst he;simp at hv;subst hv;rfl) fun v σ hs=>?_
  conv=>whnf
  repeat'((first|apply st|(apply Y;clear Z B Y A)|(apply U;clear U K)|fail)<;>conv=>whnf)
  obtain⟨σ2,h1,h2,h3⟩:=jN (es':=Ec (l.map (fun p=>(CC M p).filter (· != 0))++[l])) hs 0 rfl fun σ2=>by
   have e:Ec (l.map (fun p=>(CC M p).filter (· != 0))++[l])=Ec (l.map fun p=>(CC M p).filter (· != 0))++[[.l (iL l) false]]:=by simp only[Ec,R9,E8,List.map_nil]
   rw[e];exact Tb (Ej _) (.cons (.cons Nf .nil) .nil)
  refine F4 h1 (.t (.cons h2 (.cons (.refl _) .nil))) ⟨_,⟨?_,rfl⟩,h3⟩;rw[hne,if_neg (by decide)]
def Sat.um {σ:AH} {l:List At} {a:At} (h:Sat σ (a::l)):Sat σ (l++[a]):=h.perm (by
 have:=SE (l₁:=[a]) (l₂:=l)
 simpa using this)
def DF (M:List Ord) (l:List Int):List (List Int):=l.map (fun p=>(CC M p).filter (· != 0))++[l]
def Gt (M:List Ord) (l:List Int) (c:Int):List Int:=
 if c=0 then [0]else if l.any (fun p=>(CC M p).isEmpty)then []else if(CM (DF M l)).2 then [c]++(CM (DF M l)).1++[0]else []
def Wg (n mm:Nat) (vp vu:V) (ps:List (List Int×Bool)) (us:List Nat) (M:List Ord) {c:Int} {v:V} {l:List Int} (hk: ∀e∈M,e.1≠c) {σ:AH}
    (hs:Sat σ (.own v 1 (iL l):: .box n [vp,vu,.m mm]:: .own vp 1 (pL ps):: .own vu 1 (us.map fun u=>[eU u]):: .map mm (EF (eI c) v (M.map cg))::M.map Yp)):Sat σ (gH n mm vp vu ps us (M++[(c,v,l)])):=by
 rw[dz v l hk]at hs;have:=hs.um;unfold gH;rw[R9 (f:=Yp)];exact this
def au (n mm:Nat) (vp vu:V) (ps:List (List Int×Bool)) (us:List Nat) (M:List Ord) (c:Int) (l:List Int) (b:Bool) (hc0:0≤c) (hl:ps[c.toNat]? =some (l,b)) (hll:l.length≤3) (hol: ∀c,(CC M c).length≤Af) (hk: ∀e∈M,e.1≠c)
    (hok:LZ (DF M l)) (ht:total (DF M l)<1000000000) :
    Bk Tryz.prog 271 [.p n 0,eI c] (gH n mm vp vu ps us M) fun r post=>r= .ret (.t [])∧ ∃M',post=gH n mm vp vu ps us M'∧((M'=M∧Gt M l c= [])∨ ∃v,M'=M++[(c,v,Gt M l c)]∧Gt M l c≠[]):=by
 intro σ hs;have hM:=Mx;refine j3 kZ ?_;by_cases hc:c=0
 ·subst hc
  conv=>whnf
  repeat'((first|apply st|(apply sq;intro K U)|(apply si;intro A B Y Z)|(apply Y;clear Z B Y A)|(apply U;clear U K)|refine⟨rfl,?_⟩|refine ld ?_|(constructor<;>intro hc<;>(try rw[hc])<;>(replace hc:=bp hc)<;>(try simp(disch:=omega) only[BQ,wrap64,AL]at hc)<;>try(exfalso;omega))|fail)<;>conv=>whnf)
  refine Hy hs 3 rfl rfl (UW M) fun σ hs=>?_
  conv=>whnf
  repeat'((first|apply st|(apply Y;clear Z B Y A)|(apply U;clear U K)|clear U K)<;>conv=>whnf)
  refine Ap (l':=gH n mm vp vu ps us (M++[(0,.l [[eI 0]] true,[0])])) ?_ (List.Sublist.refl _) (.refl _) fun σ' hs'=>⟨_,⟨rfl,_,rfl,.inr ⟨.l [[eI 0]] true,?_,?_⟩⟩,hs'⟩
  ·refine Wg n mm vp vu ps us M hk ?_
   exact fy hs (fun e he=>by simp at he;subst he;rfl)
  ·rw[Gt,if_pos rfl]
  ·rw[Gt,if_pos rfl];exact fun e=>by cases e
 ·have hoc:Gt M l c=if l.any (fun p=>(CC M p).isEmpty)then []else if(CM (DF M l)).2 then [c]++(CM (DF M l)).1++[0]else []:=by rw[Gt,if_neg hc]
  have hli:=bI n mm vp vu ps us M c l b hc0 hl hll hol;have hmg:=bG (DF M l) false hok (by omega);have hml:=H7 (total (DF M l)) (DF M l) [];have hml2:(CM (DF M l)).1.length≤total (DF M l):=by simpa[CM]using hml
  cases hany:l.any fun p=>(CC M p).isEmpty
  ·rw[hany,if_neg (by decide)]at hoc
   simp only[hany,LS,if_false]at hli;have hdn: ∀ {σ:AH} {M':List Ord},Sat σ (gH n mm vp vu ps us M')→((M'=M∧Gt M l c= [])∨ ∃v,M'=M++[(c,v,Gt M l c)]∧Gt M l c≠[])→A2 σ (.t []) fun r σ'=> ∃post,(r= .ret (.t [])∧ ∃M',post=gH n mm vp vu ps us M'∧((M'=M∧Gt M l c= [])∨ ∃v,M'=M++[(c,v,Gt M l c)]∧Gt M l c≠[]))∧Sat σ' post:=fun hs h=>Ap hs (List.Sublist.refl _) (.refl _) fun σ' hs'=>⟨_,⟨rfl,_,rfl,h⟩,hs'⟩
   conv=>whnf
   repeat'((first|apply st|(apply sq;intro K U)|(apply si;intro A B Y Z)|(apply Y;clear Z B Y A)|(apply U;clear U K)|refine⟨rfl,?_⟩|(constructor<;>intro hc<;>(try rw[hc])<;>(replace hc:=bp hc)<;>try(exfalso;omega))|fail)<;>conv=>whnf)
   refine hli.use (rest:=[]) (by simpa using hs) ?_;clear hs;rintro r post σ ⟨rfl,rfl⟩ hs;rw[Ig]at hs;have hml3:(DF M l)=l.map (fun p=>(CC M p).filter (· != 0))++[l]:=rfl;rw[←hml3];generalize DF M l=ll at *;cases hb:(CM ll).2<;>rw[hb]at hmg hoc
   ·conv=>whnf
    repeat'((first|apply st|(apply sq;intro K U)|(apply si;intro A B Y Z)|(apply Y;clear Z B Y A)|(apply U;clear U K)|refine De ?_|refine Pure.use (by assumption) ?_|fail)<;>conv=>whnf)
    exact hdn hs (.inl ⟨rfl,by rw[hoc];rfl⟩)
   ·rw[if_pos rfl]at hoc
    conv=>whnf
    repeat'((first|apply st|(apply sq;intro K U)|(apply si;intro A B Y Z)|(apply Y;clear Z B Y A)|(apply U;clear U K)|apply dr|refine ld ?_|refine De ?_|refine Pure.use (by assumption) ?_|fail)<;>conv=>whnf)
    replace hs:=fy hs (sz:=1) (es:=[[eI c]]) (fun e he=>by simp at he;subst he;rfl);refine Is hs 0 (xs:=[c]) (ys:=(CM ll).1) rfl (by simp;omega) B0 fun v σ hs=>?_
    conv=>whnf
    repeat'((first|apply dr|refine rk ?_ ?_|exact fun s e=>by cases e;rfl|refine ld ?_|refine aq fun v σ hs hsl=>?_|fail)<;>conv=>whnf)
    refine Hy hs 4 rfl rfl (UW M) fun σ hs=>?_
    conv=>whnf
    repeat'((first|(apply Y;clear Z B Y A)|apply dr|fail)<;>conv=>whnf)
    refine hdn (Wg n mm vp vu ps us M hk (l:=Gt M l c) ?_) (.inr ⟨v,rfl,by rw[hoc];simp⟩);rw[hoc];exact hs
  ·rw[hany,if_pos rfl]at hoc
   simp only[hany,if_true]at hli
   conv=>whnf
   repeat'((first|apply st|(apply sq;intro K U)|(apply si;intro A B Y Z)|(apply Y;clear Z B Y A)|(apply U;clear U K)|refine⟨rfl,?_⟩|(constructor<;>intro hc<;>(try rw[hc])<;>(replace hc:=bp hc)<;>try(exfalso;omega))|fail)<;>conv=>whnf)
   refine hli.use (rest:=[]) (by simpa using hs) ?_;clear hs;rintro r post σ ⟨rfl,rfl⟩ hs;rw[Ig]at hs
   conv=>whnf
   repeat'((first|apply st|(apply sq;intro K U)|(apply si;intro A B Y Z)|(apply Y;clear Z B Y A)|(apply U;clear U K)|refine Er ?_|clear U K)<;>conv=>whnf)
   exact Ap hs (List.Sublist.refl _) (.refl _) fun σ' hs'=>⟨_,⟨rfl,_,rfl,.inl ⟨rfl,hoc⟩⟩,hs'⟩
end Go.Gl
namespace Go.Gl
def Xq {M:List Ord} {k:Int} {v:V} {o:List Int} (h: ∀e∈M,e.1<k) (d:Int):CC (M++[(k,v,o)]) d=if d=k then o else CC M d:=by
 unfold CC;rw[List.find?_append];split
 ·rename_i e
  have:M.find? (fun e=>d==e.1)=none:=by
   rw[List.find?_eq_none];intro x hx;have:=h x hx;simp;omega
  rw[this];simp[e]
 ·rename_i e
  cases hf:M.find? fun e=>d==e.1 with
  | some x=>simp
  | none=>simp[List.find?_cons,e]
structure IT (g:List (List Int)) (k:Nat) (M:List Ord):Prop where
 keys: ∀e∈M,0≤e.1∧e.1<(k:Int)
 Yy: ∀d:Int,0≤d→d<k→CC M d=(CA g).getD d.toNat []
def TB {g:List (List Int)} {k:Nat} {M:List Ord} (h:IT g k M) {d:Int} (hd:d<0∨(k:Int)≤d):CC M d= []:=by
 unfold CC
 have:M.find? (fun e=>d==e.1)=none:=by
  rw[List.find?_eq_none];intro x hx;have:=h.keys x hx;simp;omega
 rw[this];rfl
def Kv {g:List (List Int)} (hg:IN g) {k:Nat} {M:List Ord} (h:IT g k M) (d:Int):(CC M d).length≤71744535∧ ∀x∈CC M d,(0:Int)≤x:=by
 by_cases hd:d<0∨(k:Int)≤d
 ·rw[TB h hd]
  exact⟨by simp,fun x hx=>by cases hx⟩
 ·rw[h.Yy d (by omega) (by omega)]
  have hb:=IE hg (2+g.length);have hl:=Wz (k:=2+g.length) (by have:=hg.1;omega);unfold CA;exact⟨TN (fun o ho=>Nat.le_trans (hb o ho).1 hl) _,OA (fun o ho=>(hb o ho).2) _⟩
def Xz {g:List (List Int)} (hg:IN g) {k:Nat} {M:List Ord} (h:IT g k M) {l:List Int} (hl:l.length≤3) (h0: ∀x∈l,(0:Int)≤x):LZ (DF M l)∧total (DF M l)<1000000000:=by
 have hM:Af=17592186044416:=rfl;have hf: ∀p,((CC M p).filter (· != 0)).length≤71744535:=fun p=>Nat.le_trans (KD _ _) (Kv hg h p).1
 have ht: ∀l:List Int,total (l.map fun p=>(CC M p).filter (· != 0))≤l.length*71744535:=by
  intro l
  induction l with
  | nil=>simp[total]
  | cons p r ih=>
    simp only[total,E8,List.sum_cons,KH]at *;have:=hf p;rw[Nat.add_mul];omega
 refine⟨⟨by simp[DF];omega,fun m hm=>?_⟩,?_⟩
 ·rcases Fs.1 hm with hm|hm
  ·obtain⟨p,_,rfl⟩:=Mk.1 hm
   refine⟨by have:=hf p;omega,fun x hx=>(Kv hg h p).2 x (JV.1 hx).1⟩
  ·rw[LV.1 hm]
   exact⟨by omega,h0⟩
 ·have h1:=ht l
  have h2:total (DF M l)=total (l.map fun p=>(CC M p).filter (· != 0))+l.length:=by simp[DF,total]
  have h3:=SA 71744535 hl;omega
def di {g:List (List Int)} {k:Nat} {M:List Ord} (h:IT g (k+1) M) {l:List Int} (hl:l=A3 g ((k:Int)+1)) (hp: ∀p∈l,(0:Int)≤p∧p<(k:Int)+1) (hk:k+1<3+g.length) :
    Gt M l ((k:Int)+1)=D1 g (Bl g k) ((k:Int)+1):=by
 have ho: ∀p∈l,CC M p=(Bl g k).getD p.toNat []:=fun p hpl=>by
  obtain⟨h0,h1⟩:=hp p hpl;rw[h.Yy p h0 (by omega)];unfold CA;rw[DY,DY,E4 (k:=2+g.length) (j:=p.toNat) (by omega),E4 (k:=k) (j:=p.toNat) (by omega)]
 have e1:(l.any fun p=>(CC M p).isEmpty)=(l.any fun p=>((Bl g k).getD p.toNat []).isEmpty):=by
  rw[LW,JU,JU];constructor
  ·rintro⟨p,h1,h2⟩;exact⟨p,h1,by rw[←ho p h1];exact h2⟩
  ·rintro⟨p,h1,h2⟩;exact⟨p,h1,by rw[ho p h1];exact h2⟩
 have e2:DF M l=l.map (fun p=>((Bl g k).getD p.toNat []).filter (· != 0))++[l]:=by
  unfold DF;congr 1;exact List.map_congr_left fun p hpl=>by rw[ho p hpl]
 unfold Gt D1 EO;rw[if_neg (by omega),e1,e2,←hl];split<;>rfl
def IT.nil {g:List (List Int)}:IT g 0 []:=⟨fun e h=>(by cases h),fun d h0 h1=>by omega⟩
def IT.step {g:List (List Int)} {k:Nat} {M M':List Ord} (h:IT g k M) {l:List Int} (hl:l=A3 g (k:Int)) (hp: ∀p∈l,(0:Int)≤p∧p<(k:Int)) (hk:k<3+g.length)
    (hM:(M'=M∧Gt M l k= [])∨ ∃v,M'=M++[((k:Int),v,Gt M l k)]∧Gt M l k≠[]):IT g (k+1) M':=by
 have hc:Gt M l k=(CA g).getD k []:=by
  cases k with
  | zero=>
    unfold Gt CA;rw[if_pos (by simp),DY,E4 (j:=0) (by omega)];rfl
  | succ k=>
    have:=di h (by simpa using hl) (fun p hpl=>by have:=hp p hpl;simpa using this) hk;have e:((k+1:Nat):Int)=(k:Int)+1:=by omega
    rw[e,this];unfold CA;rw[DY,E4 (k:=2+g.length) (j:=k+1) (by omega),Bl,List.getElem?_append_right (by rw[Ci];omega),Ci,Nat.sub_self];rfl
 rcases hM with⟨rfl,he⟩|⟨v,rfl,_⟩
 ·refine⟨fun e he=>by have:=h.keys e he;omega,fun d h0 h1=>?_⟩
  by_cases hd:d=k
  ·subst hd
   rw[TB h (by omega)];rw[KF,←hc,he]
  ·exact h.Yy d h0 (by omega)
 ·refine⟨fun e he=>?_,fun d h0 h1=>?_⟩
  ·rcases Fs.1 he with he|he
   ·have:=h.keys e he;omega
   ·rw[LV.1 he]
    exact⟨by simp,by simp;omega⟩
  ·rw[Xq (fun e he=>(h.keys e he).2)]
   split
   ·rename_i hd
    rw[hd,KF];exact hc
   ·exact h.Yy d h0 (by omega)
end Go.Gl
namespace Go.Gl
open Go.Proofs
attribute [local irreducible] BJ A2 Ak AW AM Aj AV AX AN Ai AR AU A5 BF Sat Ad BD Al W
def dD (s c:Nat) (hs0:s<18446744073709551616) (hc:c<64):Pure Tryz.prog 269 [.a [eU s],eI c] (.a [eU (s|||2 ^ c)]):=by
 refine j5 kZ ?_;have hs:=Sn
 conv=>whnf
 repeat'((first|apply st|(apply sq;intro K U)|(apply si;intro A B Y Z)|(apply Y;clear Z B Y A)|(apply U;clear U K)|apply dr|refine⟨rfl,?_⟩|refine⟨kZ,?_⟩|refine UE ?_|refine ld ?_|refine FB fun σ hs=>?_|refine Dy fun σ hs=>?_|refine⟨Int.natCast_nonneg _,?_⟩|(intro nn hnn;generalize hg:BA _ nn _=σ;refine Ct hg fun hs=>?_;clear hg)|fail)<;>conv=>whnf)
 refine AI ?_;simp only[KF,V5 hc,Kl hs0 (Jp hc)];rfl
def ov (s t:Nat) (hs0:s<18446744073709551616) (ht0:t<18446744073709551616):Pure Tryz.prog 270 [.a [eU s],.a [eU t]] (.a [eU (s|||t)]):=by
 refine j4 kZ ?_;have hs:=Sn
 conv=>whnf
 repeat'((first|apply st|(apply sq;intro K U)|(apply si;intro A B Y Z)|(apply Y;clear Z B Y A)|(apply U;clear U K)|refine⟨rfl,?_⟩|refine⟨kZ,?_⟩|refine UE ?_|refine nv ?_|refine ld ?_|refine FB fun σ hs=>?_|refine Dy fun σ hs=>?_|(intro nn hnn;generalize hg:BA _ nn _=σ;refine Ct hg fun hs=>?_;clear hg)|fail)<;>conv=>whnf)
 refine AI ?_;simp only[Kl hs0 ht0];rfl
def Sl (s:Nat) (c:Int) (hs0:s<18446744073709551616) (h0:0≤c) (hc:c<64):Pure Tryz.prog 269 [.a [eU s],eI c] (.a [eU (s|||2 ^ c.toNat)]):=by
 have:=dD s c.toNat hs0 (by omega);rw[Int.toNat_of_nonneg h0]at this;exact this
def KV {a b:Nat} (ha:a<18446744073709551616) (hb:b<18446744073709551616):a|||b<18446744073709551616:=by
 have:=Nat.or_lt_two_pow (n:=64) (x:=a) (y:=b) (by simpa using ha) (by simpa using hb);simpa using this
def IY (g:List (List Int)):List (List Int×Bool):=[([],true),([],true),([],true)]++g.map fun l=>(l,false)
def ak (g:List (List Int)):(IY g).length=3+g.length:=by simp[IY];omega
def WC (g:List (List Int)) {k:Nat} (hk:k<3+g.length): ∃b,(IY g)[k]? =some (A3 g (k:Int),b):=by
 unfold IY A3;by_cases h3:k<3
 ·rw[if_pos (by omega),gW (by simpa using h3)]
  refine⟨true,?_⟩;rcases k with _|_|_|k
  ·rfl
  ·rfl
  ·rfl
  ·omega
 ·rw[if_neg (by omega),List.getElem?_append_right (by simp;omega)]
  refine⟨false,?_⟩;simp only[KH,List.length_nil,Pc];have e:((k:Int) - 3).toNat=k - (0+1+1+1):=by omega
  rw[e,DY,DJ (by omega)];rfl
def eR:Eg (fun u:Nat=>[eU u]) 1:=fun x=>⟨rfl,fun v hv=>by simp at hv;subst hv;rfl⟩
def ot {α:Type} {a b c d:α}: [a,b,c,d].Perm [b,d,a,c]:=by
 have h1: [a,b,c,d].Perm [b,a,c,d]:= .swap _ _ _;have h2: [a,c,d].Perm [d,a,c]:=SE (l₁:=[a,c]) (l₂:=[d]);exact h1.trans (h2.cons b)
set_option maxHeartbeats 4000000 in
def dj (g:List (List Int)) (f f2:Bool) (c:Int) (hg:Dn g=true) (hc0:0≤c) (hc1:c<3+g.length) :
    Bk Tryz.prog 250 [.l (Ec g) f,.l (iL [c]) f2] [] fun r post=> ∃n mm vp vu us M,r= .ret (.t [.p n 0,.b true])∧post=gH n mm vp vu (IY g) us M∧IT g (3+g.length) M:=by
 intro σ hs;refine BJ.fit (by kernel_rfl) fun hf=>?_
 have⟨g1,g2⟩:=RJ hf.1;have hM:=Mx;have hG:=Du hg;have hgl:=hG.1;have hfn:=Wk g f;rw[hg]at hfn;have hc2: [c][0]? =some c:=rfl;have hpl:=ak g;refine kL kZ ?_
 conv=>whnf
 repeat'((first|apply st|(apply sq;intro K U)|(apply si;intro A B Y Z)|(apply Y;clear Z B Y A)|(apply U;clear U K)|refine De ?_|refine hfn.use ?_|fail)<;>conv=>whnf)
 refine B2 1 (fun k (_:Unit)=>[(20,eI (A4 k))]) (fun _ _=>[]) (fun _ _=>True) () rfl trivial hs ?_;clear hs;rintro k - σ hk - hs;have hkk:k=0∨k=1:=by omega
 rcases hkk with rfl|rfl
 ·conv=>whnf
  repeat'((first|apply st|(apply sq;intro K U)|(apply si;intro A B Y Z)|(apply Y;clear Z B Y A)|(apply U;clear U K)|refine⟨rfl,?_⟩|refine⟨kZ,?_⟩|refine ix ?_|(refine CK (fun hc=>?_)<;>(try rw[hc])<;>clear hc)|(constructor<;>intro hc<;>(try rw[hc])<;>(replace hc:=bp hc)<;>(try simp(disch:=omega) only[BQ,wrap64,AL]at hc)<;>try(exfalso;omega))|clear U K)<;>conv=>whnf)
  all_goals try(exfalso;omega)
  exact⟨(),rfl,trivial,hs⟩
 ·have hke:1= [c].length:=rfl
  conv=>whnf
  repeat'((first|apply st|(apply sq;intro K U)|(apply si;intro A B Y Z)|(apply Y;clear Z B Y A)|(apply U;clear U K)|refine⟨rfl,?_⟩|(refine DR (fun hc=>?_)<;>(try rw[hc])<;>clear hc)|clear U K)<;>conv=>whnf)
  rw[show IntKind.i64.wrap (3+((Ec g).length:Nat))=((3+g.length:Nat):Int) by rw[BQ,wrap64 (by omega) (by omega)];omega];refine oR (n:=3) hs (by omega) (by omega) fun vp σ hs hv=>?_
  obtain⟨idp,rfl⟩:=hv
  conv=>whnf
  repeat'((first|(apply sq;intro K U)|(apply si;intro A B Y Z)|(apply Y;clear Z B Y A)|(apply U;clear U K)|refine ld ?_|(intro nn hnn;generalize hg:BA _ nn _=σ;refine Ct hg fun hs=>?_;clear hg)|fail)<;>conv=>whnf)
  obtain⟨mm,hs⟩: ∃mm,Sat σ [.box nn [.sl idp 3 (3+g.length),.l [] true,.m mm],.map mm [],.own (.sl idp 3 (3+g.length)) 1 (List.replicate 3 [.l [] true])]:=⟨_,hs⟩
  generalize nn=n0 at *;have hgr:=Ck DH g;refine hAppend hs 2 rfl (by simp;omega) hgr.1 hgr.2 fun vp σ hs=>?_
  have hps:List.replicate 3 [.l [] true]++Ec g=pL (IY g):=by simp[pL,IY,List.replicate,Ec]
  rw[hps]at hs;clear hps;have hs1p:=HD hs 2 rfl
  conv=>whnf
  repeat'((first|apply st|(apply sq;intro K U)|(apply si;intro A B Y Z)|(apply Y;clear Z B Y A)|(apply U;clear U K)|refine lo ?_|refine ld ?_|refine FB fun σ hs=>?_|fail)<;>conv=>whnf)
  replace hs:Sat σ [.box n0 [vp,.l [] true,.m mm],.map mm [],.own vp 1 (pL (IY g))]:=hs;refine B2 (IY g).length (fun k (_:V×List Nat)=>[(55,eI (A4 k))]) (fun _ x=>[.own x.1 1 (x.2.map fun u=>[eU u]),.box n0 [vp,x.1,.m mm],.map mm [],.own vp 1 (pL (IY g))]) (fun k x=>x.2.length=k∧ ∀u∈x.2,u<18446744073709551616) (.l [] true,[]) rfl ⟨rfl,fun u hu=>by cases hu⟩ (C7 hs 1) ?_;clear hs;rintro k ⟨vu,us⟩ σ hk ⟨hul,hus⟩ hs;dsimp only at hul hus hs;rcases BC (IY g) hk with⟨⟨l,lb⟩,hl,hlt⟩|hke2
  ·have hck:A4 k=k:=AL (by omega)
   obtain⟨b',hpa⟩:=WC g (k:=k) (by omega);have hle:l=A3 g (k:Int):=by rw[hl]at hpa;exact(Prod.mk.inj (Option.some.inj hpa)).1
   have hll:=C6 hG (k:Int);rw[←hle]at hll;have hlm: ∀p∈l,3≤p∧p<(k:Int):=fun p hp=>DX hG (by rw[←hle];exact hp)
   have hs1:(0|||2 ^ (A4 k).toNat)<18446744073709551616:=by
    rw[Nat.zero_or,hck,KF];exact Jp (by omega)
   have hs1u:=HD hs 0 rfl;have hl':(IY g)[(A4 k).toNat]? =some (l,lb):=by rw[hck,KF];exact hl
   conv=>whnf
   repeat'((first|apply st|(apply sq;intro K U)|(apply si;intro A B Y Z)|(apply Y;clear Z B Y A)|(apply U;clear U K)|refine⟨rfl,?_⟩|refine Dy fun σ hs=>?_|refine oi ?_|refine SH ?_|(refine CK (fun hc=>?_)<;>(try rw[hc])<;>clear hc)|refine Pure.use (Sl 0 (A4 k) (by decide) (by omega) (by omega)) ?_|refine Pure.use (Sl _ _ (by first|omega|exact hs1) (by omega) (by omega)) ?_|(intro nn hnn;generalize hg:BA _ nn _=σ;refine Ct hg fun hs=>?_;clear hg)|fail)<;>conv=>whnf)
   have hs0:(0|||2 ^ (A4 k).toNat|||2 ^ Int.toNat 0)<18446744073709551616:=KV hs1 (by decide);generalize (0|||2 ^ (A4 k).toNat|||2 ^ Int.toNat 0)=s0 at *;refine B2 l.length (fun j (_:Nat)=>[(66,eI (A4 j))]) (fun _ s=>[.box nn [eU s],.own vu 1 (us.map fun u=>[eU u]),.box n0 [vp,vu,.m mm],.map mm [],.own vp 1 (pL (IY g))]) (fun _ s=>s<18446744073709551616) s0 rfl hs0 hs ?_;clear hs hs0;rintro j s σ hj hsb hs;rcases BC l hj with⟨p,hp,hjlt⟩|hje
   ·obtain⟨hp3,hpk⟩:=hlm p (B5 hp)
    obtain⟨u,hu⟩: ∃u,us[p.toNat]? =some u:=⟨_,DJ (by omega)⟩
    have hub:=hus u (B5 hu)
    conv=>whnf
    repeat'((first|apply st|(apply sq;intro K U)|(apply si;intro A B Y Z)|(apply Y;clear Z B Y A)|(apply U;clear U K)|apply dr|refine⟨rfl,?_⟩|refine⟨kZ,?_⟩|refine ix ?_|refine ld ?_|refine Dy fun σ hs=>?_|refine oi ?_|refine SH ?_|(refine CK (fun hc=>?_)<;>(try rw[hc])<;>clear hc)|refine Pure.use (ov _ _ hsb hub) ?_|clear U K)<;>conv=>whnf)
    exact⟨hjlt,s|||u,rfl,KV hsb hub,hs⟩
   ·conv=>whnf
    repeat'((first|apply st|(apply sq;intro K U)|(apply si;intro A B Y Z)|(apply Y;clear Z B Y A)|(apply U;clear U K)|apply dr|refine⟨rfl,?_⟩|refine⟨kZ,?_⟩|refine ld ?_|(refine DR (fun hc=>?_)<;>(try rw[hc])<;>clear hc)|clear U K)<;>conv=>whnf)
    refine GO (Fv hs 1 (enc:=fun u:Nat=>[eU u]) (xs:=us) (x:=s) rfl (by omega) eR fun vu' σ hs hsl=>?_);have hs2u:=HD hs 1 rfl
    conv=>whnf
    repeat'((first|(apply si;intro A B Y Z)|(apply Y;clear Z B Y A)|(apply U;clear U K)|apply dr|refine⟨rfl,?_⟩|refine FB fun σ hs=>?_|clear U K)<;>conv=>whnf)
    refine⟨hlt,(vu',us++[s]),rfl,⟨by simp[hul],fun u hu=>?_⟩,hs.less (Ji _ _)⟩;rcases Fs.1 hu with hu|hu
    ·exact hus u hu
    ·rw[LV.1 hu];exact hsb
  ·have hs1u:=HD hs 0 rfl
   conv=>whnf
   repeat'((first|apply st|(apply sq;intro K U)|(apply si;intro A B Y Z)|(apply Y;clear Z B Y A)|(apply U;clear U K)|refine⟨rfl,?_⟩|refine lo ?_|refine ld ?_|(refine DR (fun hc=>?_)<;>(try rw[hc])<;>clear hc)|clear U K)<;>conv=>whnf)
   replace hs:Sat σ (gH n0 mm vp vu (IY g) us []):=hs.perm ot;refine B2 (IY g).length (fun k (_:List Ord)=>[(96,eI (A4 k))]) (fun _ M=>gH n0 mm vp vu (IY g) us M) (fun k M=>IT g k M) [] rfl IT.nil hs ?_;clear hs;rintro k M σ hk hkn hs;rcases BC (IY g) hk with⟨⟨l,lb⟩,hl,hlt⟩|hke3
   ·have hck:A4 k=k:=AL (by omega)
    obtain⟨b',hpa⟩:=WC g (k:=k) (by omega);have hle:l=A3 g (k:Int):=by rw[hl]at hpa;exact(Prod.mk.inj (Option.some.inj hpa)).1
    have hll:=C6 hG (k:Int);rw[←hle]at hll;have hlm: ∀p∈l,3≤p∧p<(k:Int):=fun p hp=>DX hG (by rw[←hle];exact hp)
    have hlo:=Xz hG hkn hll (fun x hx=>by have:=hlm x hx;omega);have hord:=au n0 mm vp vu (IY g) us M (A4 k) l lb (by omega) (by rw[hck,KF];exact hl) hll (fun c=>by have:=(Kv hG hkn c).1;omega) (fun e he=>by have:=hkn.keys e he;omega) hlo.1 hlo.2
    conv=>whnf
    repeat'((first|apply st|(apply sq;intro K U)|(apply si;intro A B Y Z)|(apply Y;clear Z B Y A)|(apply U;clear U K)|refine⟨rfl,?_⟩|(refine CK (fun hc=>?_)<;>(try rw[hc])<;>clear hc)|fail)<;>conv=>whnf)
    refine hord.use (rest:=[]) (by simpa using hs) ?_;clear hs;rintro r post σ ⟨rfl,M',rfl,hM'⟩ hs;rw[Ig]at hs;rw[hck]at hM'
    conv=>whnf
    repeat'((first|(apply si;intro A B Y Z)|(apply Y;clear Z B Y A)|(apply U;clear U K)|refine⟨rfl,?_⟩|clear U K)<;>conv=>whnf)
    exact⟨hlt,M',rfl,hkn.step hle (fun p hp=>by have:=hlm p hp;omega) (by omega) hM',hs⟩
   ·conv=>whnf
    repeat'((first|apply st|(apply sq;intro K U)|(apply si;intro A B Y Z)|(apply Y;clear Z B Y A)|(apply U;clear U K)|refine⟨rfl,?_⟩|(refine DR (fun hc=>?_)<;>(try rw[hc])<;>clear hc)|clear U K)<;>conv=>whnf)
    exact Ap hs (List.Sublist.refl _) (.refl _) fun σ' hs'=>⟨_,⟨_,_,_,_,_,_,rfl,rfl,by rw[←hpl,←hke3];exact hkn⟩,hs'⟩
def nD {M:List Ord} {c:Int} {σ:AH} {fx:List At} (hs:Sat σ (fx++M.map Yp)) (hl:(CC M c).length≤Af) (hne:CC M c≠[]) {k kp:V→AH→Prop} (hk: ∀σ',Sat σ' (fx++M.map Yp)→k (.l (iL (CC M c)) false) σ'):BJ Tryz.prog 175 [Ih M c] σ (qk k kp):=by
 rcases Nu M c with⟨h1,h2⟩|⟨j,hj⟩
 ·exact absurd h1 hne
 ·have hj':(fx++M.map Yp)[fx.length+j]? =some (At.own (Ih M c) 1 (iL (CC M c))):=by
   rw[List.getElem?_append_right (by omega),Nat.add_sub_cancel_left,hj]
  have hcl:Bk Tryz.prog 175 [Ih M c] [.own (Ih M c) 1 (iL (CC M c))] fun r post=>r= .ret (.l (iL (CC M c)) false)∧post= [.own (Ih M c) 1 (iL (CC M c))]:=by
   clear hk hj' hj;generalize Ih M c=v at *;generalize CC M c=l at *;intro σ hs;refine Zu kZ ?_;have hgr:=Ck B0 l
   have hend: ∀ {σ:AH} {w u:V},Sat σ [.own w 1 (iL l),.own u 1 (iL l)]→A2 σ w fun r σ'=> ∃post,(r= .ret (.l (iL l) false)∧post= [.own u 1 (iL l)])∧Sat σ' post:=fun hs=>by
    obtain⟨σ2,h1,h2,h3⟩:=IM hs 0 rfl;exact F4 h1 h2 ⟨_,⟨rfl,rfl⟩,h3⟩
   have hM:=Mx;rcases hs.get (i:=0) rfl with⟨rfl,_⟩|⟨n,cap,rfl,hn⟩
   ·conv=>whnf
    repeat'((first|(apply sq;intro K U)|(apply si;intro A B Y Z)|(apply Y;clear Z B Y A)|(apply U;clear U K)|fail)<;>conv=>whnf)
    refine⟨fun e=>absurd (List.map_eq_nil_iff.1 e) hne,fun _=>?_⟩
    conv=>whnf
    repeat'((first|apply st|(apply sq;intro K U)|(apply si;intro A B Y Z)|(apply Y;clear Z B Y A)|(apply U;clear U K)|fail)<;>conv=>whnf)
    replace hs:=C7 hs 1;refine Rl hs 0 1 rfl rfl (by simp;omega) hgr.1 hgr.2 fun w σ hs=>?_
    conv=>whnf
    repeat'((first|apply st|(apply Y;clear Z B Y A)|(apply U;clear U K)|fail)<;>conv=>whnf)
    exact hend hs
   ·conv=>whnf
    repeat'((first|apply st|(apply sq;intro K U)|(apply si;intro A B Y Z)|(apply Y;clear Z B Y A)|(apply U;clear U K)|fail)<;>conv=>whnf)
    replace hs:=C7 hs 1;refine Rl hs 0 1 rfl rfl (by simp;omega) hgr.1 hgr.2 fun w σ hs=>?_
    conv=>whnf
    repeat'((first|apply st|(apply Y;clear Z B Y A)|(apply U;clear U K)|fail)<;>conv=>whnf)
    exact hend hs
  refine hcl.fY (Φ:=fun r=>r= .ret (.l (iL (CC M c)) false)) hs hj' ?_;rintro r σ' rfl hs';exact hk σ' hs'
def jL (g:List (List Int)) (f:Bool) (c:Int) (hg:Dn g=true) (hc0:0≤c) (hc1:c<3+g.length) :
    Pure Tryz.prog 209 [.l (Ec g) f,eI c] (if((CA g).getD c.toNat []).isEmpty then .t [.l [] true,eI 7]else .t [.l (iL ((CA g).getD c.toNat [])) false,eI 0]):=by
 have hop:=dj g f true c hg hc0 hc1;refine lF kZ ?_;have hs:=Sn;have hM:=Mx;have hG:=Du hg
 conv=>whnf
 repeat'((first|(apply sq;intro K U)|(apply si;intro A B Y Z)|(apply Y;clear Z B Y A)|(apply U;clear U K)|fail)<;>conv=>whnf)
 refine hop.use (rest:=[]) hs ?_;clear hs;rintro r post σ ⟨n,mm,vp,vu,us,M,rfl,rfl,hkn⟩ hs;rw[Ig]at hs;have hol:=(Kv hG hkn c).1;have hor:=hkn.Yy c hc0 (by omega);by_cases hne:CC M c= []
 ·have hl0:(CC M c).length=0:=by rw[hne];rfl
  conv=>whnf
  repeat'((first|apply st|(apply sq;intro K U)|(apply si;intro A B Y Z)|(apply Y;clear Z B Y A)|(apply U;clear U K)|refine⟨rfl,?_⟩|refine ld ?_|refine De ?_|refine uY ?_|refine Nv (fx:=_::_::_::_:: []) hs (by omega) ?_|(constructor<;>intro hc<;>(try rw[hc])<;>(replace hc:=bp hc)<;>try(exfalso;omega))|clear U K)<;>conv=>whnf)
  all_goals try(exfalso;omega)
  rw[←hor,hne];exact AI rfl
 ·have hl0:0<(CC M c).length:=List.length_pos_iff.2 hne
  conv=>whnf
  repeat'((first|apply st|(apply sq;intro K U)|(apply si;intro A B Y Z)|(apply Y;clear Z B Y A)|(apply U;clear U K)|refine⟨rfl,?_⟩|refine ld ?_|refine De ?_|refine uY ?_|refine Nv (fx:=_::_::_::_:: []) hs (by omega) ?_|(constructor<;>intro hc<;>(try rw[hc])<;>(replace hc:=bp hc)<;>try(exfalso;omega))|fail)<;>conv=>whnf)
  all_goals try(exfalso;omega)
  refine nD (fx:=_::_::_::_:: []) hs (by omega) hne fun σ hs=>?_
  conv=>whnf
  repeat'((first|apply st|(apply Y;clear Z B Y A)|(apply U;clear U K)|fail)<;>conv=>whnf)
  rw[←hor]
  have:(CC M c).isEmpty=false:=by
   cases h:(CC M c).isEmpty
   ·rfl
   ·exact absurd (List.isEmpty_iff.1 h) hne
  rw[this];exact AI rfl
def br (xs:List Int) (f:Bool):Pure Tryz.prog 175 [.l (iL xs) f] (.l (iL xs) false):=by
 refine Pure.fit (by kernel_rfl) fun hf=>?_
 have hxl:=RK hf.1;have hM:=Mx;refine Zu kZ ?_;have hs:=Sn
 conv=>whnf
 repeat'((first|(apply sq;intro K U)|(apply si;intro A B Y Z)|(apply Y;clear Z B Y A)|(apply U;clear U K)|fail)<;>conv=>whnf)
 refine⟨fun e t=>?_,fun _=>?_⟩
 ·have hx:xs= []:=List.map_eq_nil_iff.1 e
  subst hx
  conv=>whnf
  repeat'((first|apply st|(apply sq;intro K U)|(apply si;intro A B Y Z)|(apply Y;clear Z B Y A)|(apply U;clear U K)|(constructor<;>intro hc<;>(try rw[hc])<;>(replace hc:=bp hc))|clear U K)<;>conv=>whnf)
  ·exact Bh CG
  ·replace hs:=C7 hs 1
   refine Is hs 0 (xs:=[]) (ys:=[]) rfl (by simp) B0 fun v σ hs=>?_
   conv=>whnf
   repeat'((first|apply st|(apply Y;clear Z B Y A)|(apply U;clear U K)|fail)<;>conv=>whnf)
   exact EM hs 0 rfl rfl
 ·conv=>whnf
  repeat'((first|apply st|(apply sq;intro K U)|(apply si;intro A B Y Z)|(apply Y;clear Z B Y A)|(apply U;clear U K)|fail)<;>conv=>whnf)
  replace hs:=C7 hs 1;refine Is hs 0 (xs:=[]) (ys:=xs) rfl (by simp;omega) B0 fun v σ hs=>?_
  conv=>whnf
  repeat'((first|apply st|(apply Y;clear Z B Y A)|(apply U;clear U K)|fail)<;>conv=>whnf)
  exact EM hs 0 rfl rfl
def iZ (c:PJ):Pure Tryz.prog 174 [.a (PS c)] (.l (iL c.parents) false):=by
 refine lZ kZ ?_;have hs:=Sn
 conv=>whnf
 repeat'((first|apply st|(apply sq;intro K U)|(apply si;intro A B Y Z)|(apply Y;clear Z B Y A)|(apply U;clear U K)|refine Pure.use (br _ _) ?_|fail)<;>conv=>whnf)
 exact AI rfl
def fC (xs:List (List Int)) (v:V) (hl:xs.length≤Af):Bk Tryz.prog 216 [v] [.own v 1 (Ec xs)] fun r post=>r= .ret (.l (Ec xs) true)∧post= []:=by
 intro σ hs;have hg:=Ck DH xs;refine k9 kZ ?_
 conv=>whnf
 repeat'((first|(apply sq;intro K U)|(apply si;intro A B Y Z)|(apply Y;clear Z B Y A)|(apply U;clear U K)|refine lo ?_|fail)<;>conv=>whnf)
 refine Vw (i:=0) hs rfl hg.1 (by simpa using hl) fun σ hs=>?_
 conv=>whnf
 repeat'((first|apply st|(apply Y;clear Z B Y A)|(apply U;clear U K)|fail)<;>conv=>whnf)
 exact Ap hs (List.Sublist.refl _) (.refl _) fun σ' hs'=>⟨_,⟨rfl,rfl⟩,hs'⟩
def Nt (xs:List Int) (v:V) (hl:xs.length≤Af):Bk Tryz.prog 99 [v] [.own v 1 (iL xs)] fun r post=>r= .ret (.l (iL xs) true)∧post= []:=by
 intro σ hs;have hg:=Ck B0 xs;refine gB kZ ?_
 conv=>whnf
 repeat'((first|(apply sq;intro K U)|(apply si;intro A B Y Z)|(apply Y;clear Z B Y A)|(apply U;clear U K)|refine lo ?_|fail)<;>conv=>whnf)
 refine Vw (i:=0) hs rfl hg.1 (by simpa using hl) fun σ hs=>?_
 conv=>whnf
 repeat'((first|apply st|(apply Y;clear Z B Y A)|(apply U;clear U K)|fail)<;>conv=>whnf)
 exact Ap hs (List.Sublist.refl _) (.refl _) fun σ' hs'=>⟨_,⟨rfl,rfl⟩,hs'⟩
def eo (cs:List PJ) (hl:cs.length≤1000000):Pure Tryz.prog 173 [.l (cs.map PS) false,.f (.func 174) [] []] (.l (Ec (cs.map (·.parents))) false):=by
 have hM:=Mx;refine lg kZ ?_;have hs:=Sn
 conv=>whnf
 repeat'((first|apply st|(apply sq;intro K U)|(apply si;intro A B Y Z)|(apply Y;clear Z B Y A)|(apply U;clear U K)|fail)<;>conv=>whnf)
 refine B2 cs.length (fun k v=>[(5,v),(10,eI (A4 k))]) (fun k v=>[.own v 1 (Ec ((cs.take k).map (·.parents)))]) (fun _ _=>True) (.l [] true) rfl trivial (C7 hs 1) ?_;clear hs;rintro k v σ hk - hs;rcases BC cs hk with⟨c,hc,hlt⟩|hke
 ·conv=>whnf
  repeat'((first|apply st|(apply sq;intro K U)|(apply si;intro A B Y Z)|(apply Y;clear Z B Y A)|(apply U;clear U K)|refine⟨rfl,?_⟩|refine⟨kZ,?_⟩|refine ix ?_|refine ld ?_|refine Dy fun σ hs=>?_|(refine CK (fun hc=>?_)<;>(try rw[hc])<;>clear hc)|(intro nn hnn;generalize hg:BA _ nn _=σ;refine Ct hg fun hs=>?_;clear hg)|fail)<;>conv=>whnf)
  refine Bp ((iZ c).use ?_)
  conv=>whnf
  repeat'((first|(apply si;intro A B Y Z)|(apply Y;clear Z B Y A)|(apply U;clear U K)|refine⟨rfl,?_⟩|refine aq fun v σ hs hsl=>?_|clear U K)<;>conv=>whnf)
  exact⟨hlt,_,rfl,trivial,by rw[AO hc,R9];exact hs.less (Ji _ _)⟩
 ·rw[Ar hke]at hs
  conv=>whnf
  repeat'((first|apply st|(apply sq;intro K U)|(apply si;intro A B Y Z)|(apply Y;clear Z B Y A)|(apply U;clear U K)|refine⟨rfl,?_⟩|(refine DR (fun hc=>?_)<;>(try rw[hc])<;>clear hc)|clear U K)<;>conv=>whnf)
  refine(fC (cs.map (·.parents)) v (by simp;omega)).use (rest:=[]) hs ?_;clear hs;rintro r post σ ⟨rfl,rfl⟩ hs
  conv=>whnf
  repeat'((first|apply st|(apply Y;clear Z B Y A)|(apply U;clear U K)|fail)<;>conv=>whnf)
  exact Bh Nf
def K2 (p:Prog) (hk0:p.AP.length≤1000):Pure Tryz.prog 138 [.a (BR p)] (.l (Ec (A6 p)) false):=by
 refine Pure.fit (by kernel_rfl) fun hf=>?_
 have F:=KY hf.1;refine mU kZ ?_;have hs:=Sn
 conv=>whnf
 repeat'((first|apply st|(apply sq;intro K U)|(apply si;intro A B Y Z)|(apply Y;clear Z B Y A)|(apply U;clear U K)|fail)<;>conv=>whnf)
 refine(eo p.AP (by omega)).use ?_
 conv=>whnf
 repeat'((first|apply st|(apply Y;clear Z B Y A)|(apply U;clear U K)|fail)<;>conv=>whnf)
 exact AI rfl
def Sk (p:Prog) (hk0:p.AP.length≤1000) (hm:Bu p.AP≤Af):Pure Tryz.prog 108 [.a (BR p)] (.a (BE (AS p))):=by
 refine Pure.fit (by kernel_rfl) fun hf=>?_
 have F:=KY hf.1;have hcl:=F.1;have hM:=Mx;refine m6 kZ ?_;have hs:=Sn
 conv=>whnf
 repeat'((first|apply st|(apply sq;intro K U)|(apply si;intro A B Y Z)|(apply Y;clear Z B Y A)|(apply U;clear U K)|refine⟨kZ,?_⟩|refine Dy fun σ hs=>?_|refine Pure.use (K2 _ hk0) ?_|(intro nn hnn;generalize hg:BA _ nn _=σ;refine Ct hg fun hs=>?_;clear hg)|fail)<;>conv=>whnf)
 rename_i n2 _ _ _ _ _
 rename Nat=>n3
 replace hs:Sat σ [.box n3 [.l (Ec (A6 p)) false,.l [] true],.box n2 [.l [] true,.l [] true]]:=hs;refine B2 p.AP.length (fun k (_:V)=>[(12,eI (A4 k))]) (fun k v=>[.own v 1 (iL (BW 0 (p.AP.take k))),.box n3 [.l (Ec (A6 p)) false,v],.box n2 [.l [] true,.l [] true]]) (fun _ _=>True) (.l [] true) rfl trivial (C7 hs 1) ?_;clear hs;rintro k v σ hk - hs;rcases BC p.AP hk with⟨c,hc,hlt⟩|hke
 ·have hcm:=F.2 c (B5 hc)
  have htk:=Oq hc;have hck:A4 k=k:=AL (by omega)
  have hap:BW 0 (p.AP.take (k+1))=BW 0 (p.AP.take k)++List.replicate c.AT.length ((k:Int)+3):=by
   rw[AO hc,IV];have:(p.AP.take k).length=k:=by simp;omega
   rw[this];simp[BW]
  have hol:=Cd 0 (p.AP.take k);have hw3:IntKind.i64.wrap (A4 k+3)=(k:Int)+3:=by rw[hck,wrap64 (by omega) (by omega)]
  have hcs:=hcm.2.1;generalize BW 0 (p.AP.take k)=os at *
  conv=>whnf
  repeat'((first|apply st|(apply sq;intro K U)|(apply si;intro A B Y Z)|(apply Y;clear Z B Y A)|(apply U;clear U K)|refine⟨rfl,?_⟩|refine⟨kZ,?_⟩|refine ix ?_|refine ld ?_|refine Dy fun σ hs=>?_|(refine CK (fun hc=>?_)<;>(try rw[hc])<;>clear hc)|(intro nn hnn;generalize hg:BA _ nn _=σ;refine Ct hg fun hs=>?_;clear hg)|fail)<;>conv=>whnf)
  refine B2 c.AT.length (fun j (_:V)=>[(20,eI (A4 j))]) (fun j v=>[.own v 1 (iL (os++List.replicate j ((k:Int)+3))),.box n3 [.l (Ec (A6 p)) false,v],.box n2 [.l [] true,.l [] true]]) (fun _ _=>True) v rfl trivial (by simpa using hs.less (Ji _ _)) ?_;clear hs;rintro j v σ hj - hs;rcases BC c.AT hj with⟨s,hsl,hjlt⟩|hje
  ·have hsv0:=HD hs 0 rfl
   conv=>whnf
   repeat'((first|apply st|(apply sq;intro K U)|(apply si;intro A B Y Z)|(apply Y;clear Z B Y A)|(apply U;clear U K)|refine⟨rfl,?_⟩|refine ld ?_|refine FB fun σ hs=>?_|refine aq fun v σ hs hsl=>?_|(refine CK (fun hc=>?_)<;>(try rw[hc])<;>clear hc)|clear U K)<;>conv=>whnf)
   have hsv:=HD hs 0 rfl
   conv=>whnf
   refine⟨hjlt,v,rfl,trivial,?_⟩;rw[List.replicate_succ',←UC];rw[hw3]at hs;exact hs
  ·conv=>whnf
   repeat'((first|apply st|(apply sq;intro K U)|(apply si;intro A B Y Z)|(apply Y;clear Z B Y A)|(apply U;clear U K)|refine⟨rfl,?_⟩|(refine DR (fun hc=>?_)<;>(try rw[hc])<;>clear hc)|clear U K)<;>conv=>whnf)
   exact⟨hlt,v,rfl,trivial,by rw[hap,←hje];exact hs⟩
 ·rw[Ar hke]at hs
  have hsv:=HD hs 0 rfl
  conv=>whnf
  repeat'((first|apply st|(apply sq;intro K U)|(apply si;intro A B Y Z)|(apply Y;clear Z B Y A)|(apply U;clear U K)|refine⟨rfl,?_⟩|refine⟨kZ,?_⟩|refine ld ?_|refine Dy fun σ hs=>?_|(refine DR (fun hc=>?_)<;>(try rw[hc])<;>clear hc)|clear U K)<;>conv=>whnf)
  exact Bh (.a (.cons (.refl _) (.cons (hs.Pm 0 rfl) .nil)))
end Go.Gl
namespace Go.Proofs
open Go.Shelf
def Tryz.Tq:Go.Shelf.Ren:=⟨fun|189=>135|125=>160|257=>159|128=>205|129=>206|294=>196|295=>197|296=>198|297=>199|298=>200|299=>201|216=>202|300=>203|301=>204|328=>243|329=>244|330=>245|331=>246|332=>247|215=>248|343=>268|n=>n,fun|28=>23|3=>3|46=>193|0=>0|51=>240|53=>182|4=>4|183=>233|182=>232|131=>237|5=>5|9=>9|218=>267|222=>215|228=>300|229=>301|n=>n,fun|n=>n⟩
def Tryz.dy:Go.Proofs.Lays.n189 Tryz.prog Tryz.Tq:={
 mixed:=by kernel_rfl
 f125:=Tryz.func160.trans (congrArg some (by kernel_rfl))
 f128:=Tryz.func205.trans (congrArg some (by kernel_rfl))
 f129:=Tryz.func206.trans (congrArg some (by kernel_rfl))
 f189:=Tryz.func135.trans (congrArg some (by kernel_rfl))
 f215:=Tryz.func248.trans (congrArg some (by kernel_rfl))
 f216:=Tryz.func202.trans (congrArg some (by kernel_rfl))
 f257:=Tryz.func159.trans (congrArg some (by kernel_rfl))
 f294:=Tryz.func196.trans (congrArg some (by kernel_rfl))
 f295:=Tryz.func197.trans (congrArg some (by kernel_rfl))
 f296:=Tryz.func198.trans (congrArg some (by kernel_rfl))
 f297:=Tryz.func199.trans (congrArg some (by kernel_rfl))
 f298:=Tryz.func200.trans (congrArg some (by kernel_rfl))
 f299:=Tryz.func201.trans (congrArg some (by kernel_rfl))
 f300:=Tryz.func203.trans (congrArg some (by kernel_rfl))
 f301:=Tryz.func204.trans (congrArg some (by kernel_rfl))
 f328:=Tryz.func243.trans (congrArg some (by kernel_rfl))
 f329:=Tryz.func244.trans (congrArg some (by kernel_rfl))
 f330:=Tryz.func245.trans (congrArg some (by kernel_rfl))
 f331:=Tryz.func246.trans (congrArg some (by kernel_rfl))
 f332:=Tryz.func247.trans (congrArg some (by kernel_rfl))
 f343:=Tryz.func268.trans (congrArg some (by kernel_rfl))
 t0:=Tryz.underlying0
 a0:=Tryz.isAgg0
 z0:=Tryz.sizeOf0
 v0:=Tryz.zeroValue0
 t3:=Tryz.underlying3
 a3:=Tryz.isAgg3
 z3:=Tryz.sizeOf3
 v3:=Tryz.zeroValue3
 t4:=Tryz.underlying4
 a4:=Tryz.isAgg4
 z4:=Tryz.sizeOf4
 v4:=Tryz.zeroValue4
 t5:=Tryz.underlying5
 a5:=Tryz.isAgg5
 z5:=Tryz.sizeOf5
 v5:=Tryz.zeroValue5
 t9:=Tryz.underlying9
 a9:=Tryz.isAgg9
 z9:=Tryz.sizeOf9
 v9:=Tryz.zeroValue9
 t28:=Tryz.underlying23
 a28:=Tryz.isAgg23
 z28:=Tryz.sizeOf23
 v28:=Tryz.zeroValue23
 t46:=Tryz.underlying193
 a46:=Tryz.isAgg193
 z46:=Tryz.sizeOf193
 v46:=Tryz.zeroValue193
 t51:=Tryz.underlying240
 a51:=Tryz.isAgg240
 z51:=Tryz.sizeOf240
 v51:=Tryz.zeroValue240
 t53:=Tryz.underlying182
 a53:=Tryz.isAgg182
 z53:=Tryz.sizeOf182
 v53:=Tryz.zeroValue182
 t131:=Tryz.underlying237
 a131:=Tryz.isAgg237
 z131:=Tryz.sizeOf237
 v131:=Tryz.zeroValue237
 t182:=Tryz.underlying232
 a182:=Tryz.isAgg232
 z182:=Tryz.sizeOf232
 v182:=Tryz.zeroValue232
 t183:=Tryz.underlying233
 a183:=Tryz.isAgg233
 z183:=Tryz.sizeOf233
 v183:=Tryz.zeroValue233
 t218:=Tryz.underlying267
 a218:=Tryz.isAgg267
 z218:=Tryz.sizeOf267
 v218:=Tryz.zeroValue267
 t222:=Tryz.underlying215
 a222:=Tryz.isAgg215
 z222:=Tryz.sizeOf215
 v222:=Tryz.zeroValue215
 t228:=Tryz.underlying300
 a228:=Tryz.isAgg300
 z228:=Tryz.sizeOf300
 v228:=Tryz.zeroValue300
 t229:=Tryz.underlying301
 a229:=Tryz.isAgg301
 z229:=Tryz.sizeOf301
 v229:=Tryz.zeroValue301}
end Go.Proofs
namespace Go.Gl
open Go.Proofs Go.Shelf
abbrev G8 (x y:Int):Bool:=decide (x≤y)
def aY {P:Program} {f:FuncId} (hok:okF P f=true)
    (hc: ∀(blk cap:Nat) (zs:List Int) (w:World),Sort.Holds (Value.int .i64) w blk 0 zs.toArray→blk<w.heap.size→zs.length<4611686018427387904→
     Calls P f #[.slice (some ⟨blk,0,none⟩) zs.length cap] w fun e w'=>e= .returned (.tuple #[])∧ ∃n os,w'=Sort.grow (Sort.putRow (Value.int .i64) (Sort.ahead w n) blk 0 (zs.mergeSort fun x y=>decide (x≤y)).toArray) os)
    (xs:List Int) (n len cap:Nat):Bk P f [.sl n len cap] [.own (.sl n len cap) 1 (iL xs)] fun r post=>r= .ret (.t [])∧post= [.own (.sl n len cap) 1 (iL (xs.mergeSort G8))]:=by
 intro σ hs;refine⟨hok,fun Λ w cs G hv=>?_⟩;rcases hs.get (i:=0) rfl with⟨h,_⟩|⟨n',cap',h,hn⟩
 ·cases h
 cases h;rw[BQ]at hv;obtain⟨c,e,hb,h1,h2,h3,h4⟩:=Ey G hn;rw[BQ]at h2 h3;have hM:Af=17592186044416:=rfl;rw[BO]at h4
 have hcell: ∀j x,xs[j]? =some x→c[j]? =some (Value.int .i64 x)∧IntKind.i64.min≤x∧x≤IntKind.i64.max:=fun j x hx=>by
  have:=(h4 j [.i .i64 x] (by rw[Pc,hx];rfl)).2;simp only[Be,Nat.mul_one,HA]at this;obtain⟨⟨d,hd,hr⟩,_⟩:=this;simp only[Ae]at hr;obtain⟨rfl,hr⟩:=hr;exact⟨hd,hr⟩
 have hcs:cs= #[.slice (some ⟨n,0,none⟩) xs.length cap]:=by
  obtain⟨hsz,hv⟩:=hv;simp only[Be,Ae]at hv;obtain⟨⟨d,hd,rfl,_⟩,_⟩:=hv;simp at hsz;apply Array.ext_getElem?;intro i;rcases i with _|i
  ·simpa using hd
  ·rw[Array.getElem?_eq_none (by omega),Array.getElem?_eq_none (by simp)]
 subst hcs
 have hH:Sort.Holds (Value.int .i64) w n 0 xs.toArray:=fun j hj=>by
  have hj':j<xs.length:=by simpa using hj
  obtain⟨h5,_⟩:=hcell j xs[j] (DJ hj');refine⟨?_,?_⟩
  ·rw[HA,DT hb,h5]
   simp[getElem!_pos,hj']
  ·rw[HA];exact Oy hb
 refine(hc n cap xs w hH (G.lt hn) (by omega)).mono fun e' w' ⟨he,k,os,hw⟩=>?_
 subst he;have hlen:(xs.mergeSort G8).length=xs.length:=List.length_mergeSort _
 have hheap: ∀m,m<w.heap.size→w'.heap[m]? =if m=n then some (.cells (Sort.putCells (Value.int .i64) 0 (xs.mergeSort G8).toArray c) e (0,0))else w.heap[m]? :=fun m hm=>by
  rw[hw];simp only[Sort.grow,Sort.putRow,Sort.mapBlock,Sort.ahead];rw[Array.getElem?_append_left (by simpa using hm),Array.getElem?_modify];by_cases e1:n=m
  ·subst e1
   rw[if_pos rfl,if_pos rfl,hb];rfl
  ·rw[if_neg e1,if_neg (Ne.symm e1)]
 have hadv:B4 Λ σ w (BA σ n (.arr 1 (iL (xs.mergeSort G8)) cap)) w':=by
  refine⟨fun m hm h0=>?_,?_,by rw[hw];rfl,by rw[hw];rfl,by rw[hw];rfl,fun m h0 _=>?_⟩
  ·rw[hheap m hm,if_neg]
   intro e1;subst e1;rw[hn]at h0;cases h0
  ·rw[hw];simp[Sort.grow]
  ·rw[C3 _ _ (fun e1=>by subst e1;rw[hn]at h0;cases h0)];exact h0
 refine⟨.ret (.t []),BA σ n (.arr 1 (iL (xs.mergeSort G8)) cap),⟨_,⟨rfl,rfl⟩,?_⟩,?_,?_,hadv⟩
 ·refine⟨fun a ha=>?_,List.pairwise_singleton _ _⟩
  rw[LV.1 ha];exact .inr ⟨n,cap,by simp[hlen],EI _ _ _⟩
 ·exact⟨_,rfl,by simp[Ae,Be]⟩
 ·refine G.step hadv fun m o ho=>?_
  by_cases e1:m=n
  ·subst e1
   rw[EI]at ho;cases ho;refine .inr ⟨(G.own _ _ hn).1,_,(hheap m (G.lt hn)).trans (if_pos rfl),_,_,rfl,by simpa[Sort.putCells]using h1,by simpa[hlen]using h2,by simpa[hlen]using h3,?_⟩;rw[BO];intro i r hi;rw[Pc]at hi;cases hx:(xs.mergeSort G8)[i]? with
   | none=>rw[hx]at hi;cases hi
   | some x=>
     rw[hx]at hi;cases hi;have hil:i<xs.length:=by have:=(G7.1 hx).1;omega
     have hxm:x∈xs:=(List.mergeSort_perm xs G8).mem_iff.1 (B5 hx);obtain⟨j,hj⟩:=List.getElem?_of_mem hxm;have hbd:=(hcell j x hj).2;obtain⟨hci,_⟩:=hcell i xs[i] (DJ hil);have hcl:i<c.size:=(gV.1 hci).1;refine⟨rfl,?_⟩;simp only[Be,Nat.mul_one,HA,Ae,and_true];refine⟨_,?_,rfl,hbd⟩;simp only[Sort.putCells,Array.getElem?_mapIdx];rw[hci];have hxe:=(G7.1 hx).2;simp[hlen,hil,getElem!_pos,hxe]
  ·rw[C3 _ _ e1]at ho
   exact .inl ⟨ho,(hheap m (G.lt ho)).trans (if_neg e1)⟩
def dQ (xs:List Int) (n len cap:Nat):Bk Tryz.prog 135 [.sl n len cap] [.own (.sl n len cap) 1 (iL xs)] fun r post=>r= .ret (.t [])∧post= [.own (.sl n len cap) 1 (iL (xs.mergeSort G8))]:=
 aY (by kernel_rfl) (fun blk cap zs w h1 h2 h3=>Any.slices_Sort_int Tryz.dy blk 0 cap zs w h1 h2 h3) xs n len cap
end Go.Gl
namespace Go.Gl
open Go.Proofs
attribute [local irreducible] BJ A2 Ak AW AM Aj AV AX AN Ai AR AU A5 BF Sat Ad BD Al W
def jO:Pure Tryz.prog 206 [.i .u64 0] (eI 0):=by
 refine lH kZ ?_;have hs:=Sn
 conv=>whnf
 repeat'((first|apply st|(apply sq;intro K U)|(apply si;intro A B Y Z)|(apply Y;clear Z B Y A)|(apply U;clear U K)|refine⟨rfl,?_⟩|(constructor<;>intro hc<;>(try rw[hc])<;>(replace hc:=bp hc)<;>try(exfalso;omega))|fail)<;>conv=>whnf)
 refine⟨by decide,?_⟩
 conv=>whnf
 repeat'((first|apply st|(apply Y;clear Z B Y A)|(apply U;clear U K)|refine⟨rfl,?_⟩|fail)<;>conv=>whnf)
 all_goals exact AI rfl
def jP:Pure Tryz.prog 160 [.i .u64 0] (eI 0):=by
 refine l8 kZ ?_;have hs:=Sn
 conv=>whnf
 repeat'((first|apply st|(apply sq;intro K U)|(apply si;intro A B Y Z)|(apply Y;clear Z B Y A)|(apply U;clear U K)|refine jO.use ?_|fail)<;>conv=>whnf)
 all_goals exact AI rfl
def jU:Pure Tryz.prog 196 [.l [] true,eI 0,eI 0] (.t []):=by
 refine lI kZ ?_;have hs:=Sn
 conv=>whnf
 repeat'((first|apply st|(apply sq;intro K U)|(apply si;intro A B Y Z)|(apply Y;clear Z B Y A)|(apply U;clear U K)|refine⟨rfl,?_⟩|fail)<;>conv=>whnf)
 refine Fo (fun(_:Unit)=>0) (fun _=>[(6,eI 1)]) (fun _=>[]) (fun _=>True) () rfl trivial hs ?_;clear hs;rintro - σ - hs
 conv=>whnf
 repeat'((first|apply st|(apply sq;intro K U)|(apply si;intro A B Y Z)|(apply Y;clear Z B Y A)|(apply U;clear U K)|refine⟨rfl,?_⟩|(constructor<;>intro hc<;>(try rw[hc])<;>(replace hc:=bp hc)<;>try(exfalso;omega))|clear U K)<;>conv=>whnf)
 all_goals exact AI rfl
def iX:Pure Tryz.prog 159 [.l [] true,eI 0,eI 0,eI 0] (.t []):=by
 refine l9 kZ ?_;have hs:=Sn
 conv=>whnf
 repeat'((first|apply st|(apply sq;intro K U)|(apply si;intro A B Y Z)|(apply Y;clear Z B Y A)|(apply U;clear U K)|fail)<;>conv=>whnf)
 refine Fo (fun(_:Unit)=>0) (fun _=>[]) (fun _=>[]) (fun _=>True) () rfl trivial hs ?_;clear hs;rintro - σ - hs
 conv=>whnf
 repeat'((first|apply st|(apply sq;intro K U)|(apply si;intro A B Y Z)|(apply Y;clear Z B Y A)|(apply U;clear U K)|refine⟨rfl,?_⟩|refine jU.use ?_|(constructor<;>intro hc<;>(try rw[hc])<;>(replace hc:=bp hc)<;>(try simp(disch:=omega) only[BQ,wrap64,AL]at hc)<;>try(exfalso;omega))|clear U K)<;>conv=>whnf)
 all_goals exact AI rfl
def ae:Pure Tryz.prog 135 [.l [] true] (.t []):=by
 refine mX kZ ?_;have hs:=Sn
 conv=>whnf
 repeat'((first|apply st|(apply sq;intro K U)|(apply si;intro A B Y Z)|(apply Y;clear Z B Y A)|(apply U;clear U K)|refine jP.use ?_|refine iX.use ?_|fail)<;>conv=>whnf)
 all_goals exact AI rfl
def Y5 {xs:List Int} {v:V} (hv:(B7 v).isSome=true∨(v= .l [] true∧xs= [])):Bk Tryz.prog 135 [v] [.own v 1 (iL xs)] fun r post=>r= .ret (.t [])∧post= [.own v 1 (iL (xs.mergeSort G8))]:=by
 rcases hv with hv|⟨rfl,rfl⟩
 ·obtain⟨n,l,c,rfl⟩:=Y7 hv
  exact dQ xs n l c
 ·intro σ hs
  have:=ae.use (σ:=σ) (k:=fun v σ'=>v= .t []∧σ'=σ) (kp:=fun _ _=>False) ⟨rfl,rfl⟩;refine BJ.mono this ?_;rintro(u|u) σ' hq
  ·obtain⟨rfl,rfl⟩:=hq
   exact⟨_,⟨rfl,rfl⟩,by simpa using hs⟩
  ·exact hq.elim
def Tv {b:Nat} {σ:AH} {sz:Nat} {v:V} {ys:List (List V)} {f:Bool} {K:V→AH→Prop} (h:AM b σ sz v (.l ys f) fun v' σ'=>((B7 v').isSome=true∨(v'=v∧ys= []))→K v' σ'):AM b σ sz v (.l ys f) K:=by
 unfold AM at *;obtain⟨h1,h2,h3⟩:=h;refine⟨h1,h2,?_⟩;cases v with
 | l es full=>exact⟨h3.1,h3.2.1,fun e=>h3.2.2.1 e (.inr ⟨rfl,e⟩),fun e=>⟨(h3.2.2.2 e).1,fun n cap hn hc=>(h3.2.2.2 e).2 n cap hn hc (.inl rfl)⟩⟩
 | sl n len cap=>
   simp only at h3 ⊢;split at h3
   ·exact⟨h3.1,h3.2.1,h3.2.2.1,h3.2.2.2.1,fun n' cap' hn hc=>h3.2.2.2.2 n' cap' hn hc (.inl rfl)⟩
   ·exact h3.elim
 | _=>exact h3.elim
def Qy (M:List Int):List (V×V):=M.map fun k=>(eI k,.b true)
def NQ (M:List Int) (k:Int):List Int:=if M.contains k then M else M++[k]
def S9 (M:List Int) (k b:Int):(NQ M k).contains b=(M.contains b||b==k):=by
 unfold NQ;split
 ·rename_i h
  by_cases hb:b=k
  ·subst hb;simpa using h
  ·have:(b==k)=false:=by simpa using hb
   rw[this,Bool.or_false]
 ·simp[List.contains_append]
  rfl
def WX (M:List Int) (k:Int):EF (eI k) (.b true) (Qy M)=Qy (NQ M k):=by
 induction M with
 | nil=>rfl
 | cons x r ih=>
   simp only[Qy,E8,EF]at *;have he:EG (eI k) (eI x)=(k==x):=rfl;rw[he];cases hx:k==x
   ·rw[cond_false,ih]
    unfold NQ;have:(x::r).contains k=r.contains k:=by rw[List.contains_cons,hx,Bool.false_or]
    rw[this];split<;>simp
   ·rw[cond_true]
    have hk:k=x:=by simpa using hx
    subst hk;unfold NQ;simp
def Ky (M:List Int) (k:Int):found (.b false) false (DG (eI k) (Qy M))= .b (M.contains k):=by
 induction M with
 | nil=>rfl
 | cons x r ih=>
   simp only[Qy,E8,DG]at *;have he:EG (eI k) (eI x)=(k==x):=rfl;rw[he,List.contains_cons];cases k==x
   ·simpa using ih
   ·rfl
def HZ (M:List Int): ∀kv∈Qy M,Bt (.i .i64) kv.1=true:=by
 intro kv h;obtain⟨e,_,rfl⟩:=Mk.1 h;rfl
end Go.Gl
