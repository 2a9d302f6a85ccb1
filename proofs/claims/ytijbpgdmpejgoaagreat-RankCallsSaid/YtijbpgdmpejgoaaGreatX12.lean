import Derived.Shelf.Sort.Plain
import Derived.Test.YtijbpgdmpejgoaaGreatProg
import Derived.Test.YtijbpgdmpejgoaaGreatX11
set_option linter.all false
set_option linter.defProp false
noncomputable section
namespace Go.Gl
open Go.Proofs
attribute [local irreducible] BL A5 Aj AW AN Ai AV AX AO Ah AS AU BA BK Sat Ad BH Al W
def pZ (n:Nat) (h:Int):DD Tryz.prog (.f (.func 287) [] [.p n 0]) eI (fun _:Unit=>[.box n [eI h]]) (Sl (· != h)) (fun _ _=>True):=by
 intro y s _ σ hs;refine Bp ?_;show BL Tryz.prog 287 ([]++[eI y]++[.p n 0]) σ _;refine kE kZ ?_
 conv=>whnf
 repeat'((first|apply st|(apply sq;intro K U)|(apply si;intro A B Y Z)|(apply Y;clear Z B Y A)|(apply U;clear U K)|refine⟨rfl,?_⟩|refine ld ?_|fail)<;>conv=>whnf)
 exact Ap hs (List.Sublist.refl _) (.refl _) fun σ' hs'=>⟨rfl,hs'⟩
def YX (ls:List (List Int)):FI ls []=false:=rfl
def VX (ls:List (List Int)) (x:Int) (r:List Int):FI ls (x::r)=free ls x:=rfl
def Yf {α:Type} {p:α→Bool} {xs:List α} {k:Nat} {x:α} (hx:xs[k]? =some x) (h:(xs.take k).find? p=none):(xs.take (k+1)).find? p=if p x then some x else none:=by
 rw[AQ hx,List.find?_append,h];simp only[List.find?_cons,List.find?_nil,Option.none_or];cases p x<;>rfl
def Ye {α:Type} {p:α→Bool} {xs:List α} {k:Nat} {x:α} (h:(xs.take k).find? p=some x):xs.find? p=some x:=by
 conv=>lhs;rw[←List.take_append_drop k xs]
 rw[List.find?_append,h];rfl
def Wb (ls:List (List Int)):pick ls=(ls.find? (FI ls)).bind List.head? :=rfl
set_option maxHeartbeats 4000000 in
def bY (ls:List (List Int)) (f:Bool) (hok:Lj ls) (ht:total ls<Ac):Pure Tryz.prog 283 [.l (Ej ls) f] (.t [.l (iL (CO ls).1) false,.b (CO ls).2]):=by
 have hM:=Mx;refine kH kZ ?_;have hs:=Sn
 conv=>whnf
 repeat'((first|apply st|(apply sq;intro K U)|(apply si;intro A B Y Z)|(apply Y;clear Z B Y A)|(apply U;clear U K)|fail)<;>conv=>whnf)
 refine ED (fun(x:List (List Int)×Bool×V×List Int)=>total x.1) (fun x=>[(0,.l (Ej x.1) x.2.1),(4,x.2.2.1)]) (fun x=>[.own x.2.2.1 1 (iL x.2.2.2)])
  (fun x=>Lj x.1∧x.2.2.2.length+total x.1≤total ls∧DO (total x.1) x.1 x.2.2.2=CO ls) (ls,f,.l [] true,[]) rfl ⟨hok,by simp,rfl⟩ (EM hs 1) ?_
 clear hs;rintro⟨ls',f',v,out⟩ σ ⟨hok',hlen,hm⟩ hs;dsimp only at hok' hlen hm hs;dsimp only;have hol:=hok'.1
 conv=>whnf
 repeat'((first|apply st|(apply sq;intro K U)|(apply si;intro A B Y Z)|(apply Y;clear Z B Y A)|(apply U;clear U K)|fail)<;>conv=>whnf)
 refine B4 ls'.length (fun k (t:Bool)=>[(5,.b t),(16,eI (A3 k))]) (fun _ _=>[.own v 1 (iL out)]) (fun k t=>(ls'.take k).find? (FI ls')=none∧t=(ls'.take k).any fun l=> !l.isEmpty) false rfl ⟨rfl,rfl⟩ hs ?_;clear hs;rintro k t σ hk ⟨hfd,hta⟩ hs;rcases BE ls' hk with⟨l,hl,hlt⟩|hke
 ·have hfs:=Yf (p:=FI ls') hl hfd
  have has:((ls'.take (k+1)).any fun l=> !l.isEmpty)=(t|| !l.isEmpty):=by rw[AQ hl,List.any_append,←hta];simp
  have hb:=hok'.2 _ (B1 hl);cases l with
  | nil=>
    have hnl:([]:List Int).length=0:=rfl;rw[YX,if_neg (by decide)]at hfs
    conv=>whnf
    repeat'((first|apply st|(apply sq;intro K U)|(apply si;intro A B Y Z)|(apply Y;clear Z B Y A)|(apply U;clear U K)|refine⟨rfl,?_⟩|refine ix ?_|(refine CA (fun hc=>?_)<;>(try rw[hc])<;>clear hc)|(constructor<;>intro hc<;>(try rw[hc])<;>(replace hc:=bp hc)<;>(try simp(disch:=omega) only[BD,wrap64,AL]at hc)<;>try(exfalso;omega))|clear U K)<;>conv=>whnf)
    exact⟨hlt,_,rfl,⟨hfs,by rw[has];simp⟩,hs⟩
  | cons x r=>
    have hx0:(x::r)[Int.toNat 0]? =some x:=rfl;have hnl:(x::r).length=r.length+1:=rfl;rw[VX]at hfs;simp only[List.isEmpty_cons,Bool.not_false,Bool.or_true]at has
    conv=>whnf
    repeat'((first|apply st|(apply sq;intro K U)|(apply si;intro A B Y Z)|(apply Y;clear Z B Y A)|(apply U;clear U K)|refine⟨rfl,?_⟩|refine ix ?_|(refine CA (fun hc=>?_)<;>(try rw[hc])<;>clear hc)|(constructor<;>intro hc<;>(try rw[hc])<;>(replace hc:=bp hc)<;>(try simp(disch:=omega) only[BD,wrap64,AL]at hc)<;>try(exfalso;omega))|fail)<;>conv=>whnf)
    refine B4 ls'.length (fun j (_:Unit)=>[(25,eI (A3 j))]) (fun _ _=>[.own v 1 (iL out)]) (fun j _=>free ls' x=(ls'.drop j).all fun m=> !(m.drop 1).contains x) () rfl rfl hs ?_;clear hs;rintro j - σ hj hfr hs;rcases BE ls' hj with⟨m,hm0,hjlt⟩|hje
    ·have hmb:=(hok'.2 _ (B1 hm0)).1
     rw[drop_cons hm0,MU]at hfr;cases m with
     | nil=>
       have hml:([]:List Int).length=0:=rfl
       conv=>whnf
       repeat'((first|apply st|(apply sq;intro K U)|(apply si;intro A B Y Z)|(apply Y;clear Z B Y A)|(apply U;clear U K)|apply dr|refine⟨rfl,?_⟩|refine ix ?_|(refine CA (fun hc=>?_)<;>(try rw[hc])<;>clear hc)|(constructor<;>intro hc<;>(try rw[hc])<;>(replace hc:=bp hc)<;>(try simp(disch:=omega) only[BD,wrap64,AL]at hc)<;>try(exfalso;omega))|clear U K)<;>conv=>whnf)
       exact⟨hjlt,(),rfl,by rw[hfr];rfl,hs⟩
     | cons y s=>
       have hml:(y::s).length=s.length+1:=rfl
       conv=>whnf
       repeat'((first|apply st|(apply sq;intro K U)|(apply si;intro A B Y Z)|(apply Y;clear Z B Y A)|(apply U;clear U K)|apply dr|refine⟨rfl,?_⟩|refine ix ?_|(refine CA (fun hc=>?_)<;>(try rw[hc])<;>clear hc)|(constructor<;>intro hc<;>(try rw[hc])<;>(replace hc:=bp hc)<;>(try simp(disch:=omega) only[BD,wrap64,AL]at hc)<;>try(exfalso;omega))|fail)<;>conv=>whnf)
       refine TE 1 rfl (by omega) (fun _=>rfl) ?_
       conv=>whnf
       repeat'((first|apply st|(apply si;intro A B Y Z)|(apply Y;clear Z B Y A)|(apply U;clear U K)|apply dr|refine⟨rfl,?_⟩|refine FE ?_|refine Pure.use (D0 _ _ _) ?_|(constructor<;>intro hc<;>(try rw[hc])<;>(replace hc:=bp hc))|clear U K)<;>conv=>whnf)
       ·rw[hc]at hfr
        have hfr2:free ls' x=false:=by rw[hfr];rfl
        rw[hfr2,if_neg (by decide)]at hfs;exact⟨hlt,true,rfl,⟨hfs,by rw[has]⟩,hs⟩
       ·exact⟨hjlt,(),rfl,by rw[hfr,hc];rfl,hs⟩
    ·rw[Ag hje]at hfr
     have hgood:free ls' x=true:=hfr;rw[hgood,if_pos rfl]at hfs;have hp:pick ls'=some x:=by rw[Wb,Ye hfs];rfl
     have htp:=H3 hp
     conv=>whnf
     repeat'((first|apply st|(apply sq;intro K U)|(apply si;intro A B Y Z)|(apply Y;clear Z B Y A)|(apply U;clear U K)|refine⟨rfl,?_⟩|refine FE ?_|refine ld ?_|refine s1 fun σ hs=>?_|refine aq fun v σ hs hsl=>?_|(refine DU (fun hc=>?_)<;>(try rw[hc])<;>clear hc)|(intro nn hnn;generalize hg:A6 _ nn _=σ;refine al hg fun hs=>?_;clear hg)|clear U K)<;>conv=>whnf)
     have hs2:Sat σ [.own v 1 (iL (out++[x])),.box nn [eI x]]:=hs;refine B4 ls'.length (fun k u=>[(11,u),(50,eI (A3 k))]) (fun k u=>[.own v 1 (iL (out++[x])),.box nn [eI x],.own u 1 (Ej ((ls'.take k).map fun l=>l.filter (· != x)))]) (fun _ _=>True) (.l [] true) rfl trivial (EM hs2 1) ?_;clear hs hs2;rintro q u σ hq - hs;rcases BE ls' hq with⟨w,hw,hqlt⟩|hqe
     ·conv=>whnf
      repeat'((first|apply st|(apply sq;intro K U)|(apply si;intro A B Y Z)|(apply Y;clear Z B Y A)|(apply U;clear U K)|refine⟨rfl,?_⟩|refine ix ?_|(refine CA (fun hc=>?_)<;>(try rw[hc])<;>clear hc)|fail)<;>conv=>whnf)
      refine(ew 287 [] [.p nn 0] [.box nn [eI x]] (· != x) (pZ nn x) w false).use (rest:=[_,_]) (hs.perm (.swap _ _ _)) ?_;clear hs;rintro rr post σ ⟨rfl,rfl⟩ hs
      conv=>whnf
      repeat'((first|(apply si;intro A B Y Z)|(apply Y;clear Z B Y A)|(apply U;clear U K)|refine⟨rfl,?_⟩|refine aq fun v σ hs hsl=>?_|clear U K)<;>conv=>whnf)
      refine⟨hqlt,_,rfl,trivial,?_⟩;rw[AQ hw,SN];exact hs.perm (.swap _ _ _)
     ·conv=>whnf
      repeat'((first|apply st|(apply sq;intro K U)|(apply si;intro A B Y Z)|(apply Y;clear Z B Y A)|(apply U;clear U K)|refine⟨rfl,?_⟩|(refine DU (fun hc=>?_)<;>(try rw[hc])<;>clear hc)|clear U K)<;>conv=>whnf)
      rw[Au hqe]at hs;refine iX hs 2 rfl fun σ' hs'=>?_
      conv=>whnf
      repeat'((first|apply st|(apply Y;clear Z B Y A)|(apply U;clear U K)|clear U K)<;>conv=>whnf)
      refine⟨(ls'.map fun l=>l.filter (· != x),false,v,out++[x]),htp,rfl,⟨hok'.filter x,by simp;omega,?_⟩,hs'.take 1⟩;rw[←Mn hp];exact hm
 ·rw[Au hke]at hfd hta
  have hp:pick ls'=none:=by rw[Wb,hfd];rfl
  rw[O0 hp]at hm
  conv=>whnf
  repeat'((first|apply st|(apply sq;intro K U)|(apply si;intro A B Y Z)|(apply Y;clear Z B Y A)|(apply U;clear U K)|refine⟨rfl,?_⟩|(refine DU (fun hc=>?_)<;>(try rw[hc])<;>clear hc)|clear U K)<;>conv=>whnf)
  refine BO ?_;rw[←hm];refine .t (.cons (hs.MV 0 rfl) (.cons ?_ .nil));have:(!t)=ls'.all List.isEmpty:=by rw[hta];simp[List.all_eq_not_any_not]
  rw[←this];exact .refl _
end Go.Gl
namespace Go.Gl
variable {P:Program} {σ:AH}
def Sat.oy {l:List At} {a:At} (h:Sat σ (l++[a])):Sat σ (a::l):=h.perm (by
 have:=Po (l₁:=l) (l₂:=[a])
 simpa using this)
def Cx {l:List At} (h:Sat σ l) (sz:Nat):Sat σ (.own (.l [] true) sz []::l):=(EM h sz).oy
def gX {l:List At} (h:Sat σ l) {sz:Nat} {es:List (List V)} (hs: ∀e∈es,e.length=sz):Sat σ (.own (.l es true) sz es::l):=(dW h hs).oy
def CW {l:List At} {o:O} {n:Nat} {K:Prop} {σ':AH} (e:A6 σ n o=σ') (hk:Sat σ' (.obj n o::l)→K) (hn:σ n=none:=by assumption) (h:Sat σ l:=by assumption):K:=hk (e ▸ (ZK h hn).oy)
def H6 {α:Type}: ∀ {l:List α} {j:Nat} {a:α},l[j]? =some a→l.Perm (a::l.eraseIdx j)
 | x::r,0,a,h=>by simp at h;subst h;simp
 | x::r,j+1,a,h=>by
   simp only[og]at h;simp only[List.eraseIdx_cons_succ];exact((H6 h).cons x).trans (.swap _ _ _)
def Sat.front {l:List At} {j:Nat} {a:At} (h:Sat σ l) (hj:l[j]? =some a):Sat σ (a::l.eraseIdx j):=h.perm (H6 hj)
def Sat.back {l:List At} {j:Nat} {a:At} (h:Sat σ (a::l.eraseIdx j)) (hj:l[j]? =some a):Sat σ l:=h.perm (H6 hj).symm
def Bj.gE {f:FuncId} {args:List V} {a:At} {Φ:R→Prop} (h:Bj P f args [a] fun r post=>Φ r∧post= [a]) {l:List At} {j:Nat} (hs:Sat σ l) (hj:l[j]? =some a) {Q:R→AH→Prop} (hk: ∀r σ',Φ r→Sat σ' l→Q r σ'):BL P f args σ Q:=by
 refine h.use (rest:=l.eraseIdx j) (hs.front hj) ?_;rintro r post σ' ⟨hr,rfl⟩ hs';exact hk r σ' hr (Sat.back hs' hj)
def FB {l:List At} {i n off:Nat} {vs:List V} {x:V} {K:AH→Prop} (hk: ∀σ',Sat σ' (l.set i (.box n (vs.set off x)))→K σ') (h:Sat σ l:=by assumption)
    (hi:l[i]? =some (.box n vs):=by first|exact Pv|exact Pu|exact Pt|exact Ps|exact Pr|exact Pq)
    (h1:De x=true:=by first|rfl|exact Gx (by assumption) 0 rfl|exact Gx (by assumption) 1 rfl|exact Gx (by assumption) 2 rfl|exact Gx (by assumption) 3 rfl|(simp<;>fail)) (ho:off+1≤vs.length:=by exact Nat.le_of_ble_eq_true rfl):AX σ 1 (.p n off) x K:=
 Km h i hi h1 ho hk
def DB {l:List At} {i n off sz:Nat} {vs vc:List V} {x:V} {K:AH→Prop} (hk: ∀σ',Sat σ' (l.set i (.box n (putAt vs off vc)))→K σ') (h:Sat σ l:=by assumption)
    (hi:l[i]? =some (.box n vs):=by first|exact Pv|exact Pu|exact Pt|exact Ps|exact Pr|exact Pq)
    (hc:cellsOf x=some vc:=by rfl) (hl:vc.length=sz:=by rfl) (h1:vc.all De=true:=by first|rfl|(simp<;>fail)|(simp[*]<;>fail)) (ho:off+sz≤vs.length:=by exact Nat.le_of_ble_eq_true rfl):AX σ sz (.p n off) x K:=
 Hp h i hi hc hl h1 ho hk
def UT {sz m n o:Nat} {ki:IntKind} {j:Int} {K:V→Prop} (h:K (.p n (o+j.toNat*sz))) (h0:0≤j:=by omega) (h1:j<m:=by omega):AW sz (some m) (.p n o) (.i ki j) K:=⟨h0,h1,h⟩
def oz {sz m:Nat} {cs:List V} {ki:IntKind} {j:Int} {K:V→Prop} (h:K (.rp (cs.drop (j.toNat*sz)))) (h0:0≤j:=by omega) (h1:j<m:=by omega):AW sz (some m) (.rp cs) (.i ki j) K:=⟨h0,h1,h⟩
def jl {l:List At} (h:Sat σ l) (i:Nat) {v:V} {sz:Nat} {es es':List (List V)} (hi:l[i]? =some (.own v sz es)) (he: ∀σ2,Fs σ σ2 es es'): ∃σ2,Sub σ2 σ∧Gt σ σ2 v (.l es' false)∧Sat σ2 (l.eraseIdx i):=by
 rcases h.get hi with⟨rfl,_⟩|⟨n,cap,rfl,hn⟩
 ·exact⟨σ,fun _ _ h=>h,.l (fun h=>(by cases h)) (he _),h.less (List.eraseIdx_sublist _ _)⟩
 ·refine⟨del σ n,Gi σ n,.arr hn (EV σ n) rfl (he _),?_⟩
  refine⟨fun b hb=>?_,h.2.sublist (List.eraseIdx_sublist _ _)⟩;refine FF (h.1 b (List.mem_of_mem_eraseIdx hb)) fun m hm=>?_
  rw[G5];intro e;subst e;exact FA h.2 hi b hb m rfl hm
def dV {l:List At} (h:Sat σ l) {sz:Nat} {z:List V} {n m:Nat} {K:V→AH→Prop} (hnm:n≤m) (hn:m≤1073741824) (hk: ∀v σ',Sat σ' (.own v sz (List.replicate n z)::l)→(∃id,v= .sl id n m)→K v σ') {ki kj:IntKind} :
    AO σ sz z (.i ki (n:Int)) (.i kj (m:Int)) K:=by
 refine⟨by omega,by omega,by omega,fun id hid=>?_⟩;simp only[IT];refine hk _ _ (h.add (a:= .own (.sl id n m) sz (List.replicate n z)) (fun b hb=>FF hb fun m hm=>?_) (fun b hb m hm hb'=>?_) (.inr ⟨id,m,by simp,by simp[A6]⟩)).oy ⟨id,rfl⟩
 ·obtain⟨o,ho⟩:=C2 hb hm
  rw[C5];intro e;subst e;rw[hid]at ho;cases ho
 ·cases hm
  obtain⟨o,ho⟩:=C2 hb hb';rw[hid]at ho;cases ho
def WG {σ:AH} {l:List At} {i:Nat} {v:V} {sz:Nat} {es:List (List V)} (hs:Sat σ l) (hi:l[i]? =some (.own v sz es)) (he: ∀e∈es,e.length=sz) (hm:es.length≤Ac) {K:V→AH→Prop} (hk: ∀σ',Sat σ' (l.eraseIdx i)→K (.l es true) σ'):AV σ sz v none (some (.i .i64 (es.length:Int))) (some (.i .i64 (es.length:Int))) K:=by
 rcases hs.get hi with⟨rfl,_⟩|⟨n,cap,rfl,hn⟩
 ·refine⟨he,?_⟩
  simp only[ND];refine⟨Int.le_refl _,Int.natCast_nonneg _,Int.le_refl _,trivial,?_⟩;have:=hk σ (hs.less (List.eraseIdx_sublist _ _));simpa using this
 ·unfold AV
  simp only[ND];refine⟨Int.le_refl _,Int.natCast_nonneg _,Int.le_refl _,trivial,trivial,trivial,?_⟩;rw[hn];refine⟨rfl,rfl,rfl,.inl (hk _ ?_)⟩;refine⟨fun b hb=>?_,hs.2.sublist (List.eraseIdx_sublist _ _)⟩;refine FF (hs.1 b (List.mem_of_mem_eraseIdx hb)) fun m hm=>?_
  rw[G5];intro e;subst e;exact FA hs.2 hi b hb m rfl hm
end Go.Gl
namespace Go.Gl
open Go.Proofs
attribute [local irreducible] BL A5 Aj AW AN Ai AV AX AO Ah AS AU BA BK Sat Ad BH Al W
abbrev Ord:=Int×V×List Int
def dJ (e:Ord):V×V:=(eI e.1,e.2.1)
def Y8 (e:Ord):At:= .own e.2.1 1 (iL e.2.2)
abbrev pL (ps:List (List Int×Bool)):List (List V):=ps.map fun p=>[.l (iL p.1) p.2]
abbrev gH (n mm:Nat) (vp vu:V) (ps:List (List Int×Bool)) (us:List Nat) (M:List Ord):List At:=
 .box n [vp,vu,.m mm]:: .own vp 1 (pL ps):: .own vu 1 (us.map fun u=>[eU u]):: .map mm (M.map dJ)::M.map Y8
def CD (M:List Ord) (c:Int):List Int:=((M.find? fun e=>c==e.1).map fun e=>e.2.2).getD []
def Ih (M:List Ord) (c:Int):V:=((M.find? fun e=>c==e.1).map fun e=>e.2.1).getD (.l [] true)
def bj (M:List Ord) (c:Int):found (.l [] true) false (DH (eI c) (M.map dJ))=Ih M c:=by
 induction M with
 | nil=>rfl
 | cons e r ih=>
   simp only[FC,dJ,DH,Ih,List.find?_cons]at *;have he:EP (eI c) (eI e.1)=(c==e.1):=rfl;rw[he];cases c==e.1
   ·exact ih
   ·rfl
def Uk (M:List Ord): ∀kv∈M.map dJ,Bt (.i .i64) kv.1=true:=by
 intro kv h;obtain⟨e,_,rfl⟩:=Lf.1 h;rfl
def eY {M:List Ord} {c:Int} (v:V) (l:List Int) (h: ∀e∈M,e.1≠c):EN (eI c) v (M.map dJ)=(M++[(c,v,l)]).map dJ:=by
 induction M with
 | nil=>rfl
 | cons e r ih=>
   simp only[FC,List.cons_append,dJ,EN];have he:EP (eI c) (eI e.1)=(c==e.1):=rfl;rw[he,beq_false_of_ne (fun e'=>h e (.head _) e'.symm)];simp only[cond_false];rw[ih fun e he=>h e (.tail _ he)]
def N3 (M:List Ord) (c:Int):(CD M c= []∧Ih M c= .l [] true)∨ ∃j:Nat,(M.map Y8)[j]? =some (At.own (Ih M c) 1 (iL (CD M c))):=by
 unfold CD Ih;cases h:M.find? fun e=>c==e.1 with
 | none=>exact .inl ⟨rfl,rfl⟩
 | some e=>
   refine .inr ?_;obtain⟨j,hj⟩:=List.getElem?_of_mem (List.mem_of_find?_eq_some h);refine⟨j,?_⟩;rw[Lc,hj];rfl
def N4 {M:List Ord} {c:Int} {σ:AH} {fx:List At} (hs:Sat σ (fx++M.map Y8)) (hl:(CD M c).length≤Ac) {K:V→Prop} (hk:K (.i .i64 (CD M c).length)):BH (Ih M c) K:=by
 rcases N3 M c with⟨h1,h2⟩|⟨j,hj⟩
 ·rw[h2]
  rw[h1]at hk;exact FH hk
 ·have hj':(fx++M.map Y8)[fx.length+j]? =some (At.own (Ih M c) 1 (iL (CD M c))):=by
   rw[List.getElem?_append_right (by omega),Nat.add_sub_cancel_left,hj]
  exact pC hs _ hj' (by simpa using hl) (by simpa using hk)
def vL {σ:AH} {l:List At} {i mm:Nat} {M:List Ord} {c:Int} {K:V→Prop} (hk:K (Ih M c)) (h:Sat σ l:=by assumption)
    (hi:l[i]? =some (.map mm (M.map dJ)):=by first|exact Pv|exact Pu|exact Pt|exact Ps|exact Pr|exact Pq):AS σ (.i .i64) (.l [] true) false (.m mm) (eI c) K:=
 JG h i hi rfl (Uk M) (by rw[bj];exact hk)
def q9 {M:List Ord} {c:Int} {σ:AH} {fx:List At} (hs:Sat σ (fx++M.map Y8)) (hl:(CD M c).length≤Ac) (hne:CD M c≠[]) {k kp:V→AH→Prop} (hk: ∀σ',Sat σ' (fx++M.map Y8)→k (.l (iL ((CD M c).filter (· != 0))) false) σ'):BL Tryz.prog 285 [Ih M c] σ (qk k kp):=by
 rcases N3 M c with⟨h1,h2⟩|⟨j,hj⟩
 ·exact absurd h1 hne
 ·have hj':(fx++M.map Y8)[fx.length+j]? =some (At.own (Ih M c) 1 (iL (CD M c))):=by
   rw[List.getElem?_append_right (by omega),Nat.add_sub_cancel_left,hj]
  refine(cZ (CD M c) (Ih M c) hl).gE hs hj' ?_;rintro r σ' rfl hs';exact hk σ' hs'
def Tr {σ σ2:AH}: ∀ {a a' b b':List (List V)},Fs σ σ2 a a'→Fs σ σ2 b b'→Fs σ σ2 (a++b) (a'++b')
 | [],[],_,_,.nil,h=>h
 | _::_,_::_,_,_,.cons h1 h2,h=> .cons h1 (Tr h2 h)
def bc (n mm:Nat) (vp vu:V) (ps:List (List Int×Bool)) (us:List Nat) (M:List Ord) (c:Int) (l:List Int) (b:Bool) (hc0:0≤c) (hl:ps[c.toNat]? =some (l,b)) (hll:l.length≤3) (hol: ∀c,(CD M c).length≤Ac) :
    Bj Tryz.prog 282 [.p n 0,eI c] (gH n mm vp vu ps us M) fun r post=>r= .ret (if l.any fun p=>(CD M p).isEmpty then .t [.l [] true,.b false]else .t [.l (Ej (l.map (fun p=>(CD M p).filter (· != 0))++[l])) false,.b true])∧post=gH n mm vp vu ps us M:=by
 intro σ hs;have hM:=Mx;have hci:c<ps.length:=by have:=(Hk.1 hl).1;omega
 refine kI kZ ?_
 conv=>whnf
 repeat'((first|apply st|(apply sq;intro K U)|(apply si;intro A B Y Z)|(apply Y;clear Z B Y A)|(apply U;clear U K)|refine ld ?_|refine oi ?_|refine NX ?_|fail)<;>conv=>whnf)
 refine B4 l.length (fun k v=>[(6,v),(17,eI (A3 k))]) (fun k v=> .own v 1 (Ej ((l.take k).map fun p=>(CD M p).filter (· != 0)))::gH n mm vp vu ps us M) (fun k _=>((l.take k).any fun p=>(CD M p).isEmpty)=false) (.l [] true) rfl rfl (Cx hs 1) ?_;clear hs;rintro k v σ hk hne hs;rcases BE l hk with⟨p,hp,hlt⟩|hke
 ·have han:((l.take (k+1)).any fun p=>(CD M p).isEmpty)=(CD M p).isEmpty:=by rw[AQ hp,List.any_append,hne];simp
  have hap:(l.take k).length≤3:=by rw[LZ];omega
  conv=>whnf
  repeat'((first|apply st|(apply sq;intro K U)|(apply si;intro A B Y Z)|(apply Y;clear Z B Y A)|(apply U;clear U K)|refine⟨rfl,?_⟩|refine ix ?_|refine ld ?_|(refine CA (fun hc=>?_)<;>(try rw[hc])<;>clear hc)|refine vL ?_|refine N4 (fx:=_::_::_::_::_:: []) hs (hol _) ?_|(constructor<;>intro hc<;>(try rw[hc])<;>(replace hc:=bp hc))|clear U K)<;>conv=>whnf)
  ·have h0:(CD M p).isEmpty=true:=by rw[List.isEmpty_iff_length_eq_zero];omega
   have hany:(l.any fun p=>(CD M p).isEmpty)=true:=JY.2 ⟨p,B1 hp,h0⟩;refine Ap (l':=gH n mm vp vu ps us M) hs (Jp _ _) (.refl _) fun σ' hs'=>⟨_,⟨?_,rfl⟩,hs'⟩
   rw[if_pos hany]
  ·have h0:(CD M p).isEmpty=false:=by
    cases h:(CD M p).isEmpty
    ·rfl
    ·rw[List.isEmpty_iff_length_eq_zero]at h;omega
   refine q9 (fx:=_::_::_::_::_:: []) hs (hol _) (fun e=>by rw[e]at h0;cases h0) fun σ hs=>?_
   conv=>whnf
   repeat'((first|(apply si;intro A B Y Z)|(apply Y;clear Z B Y A)|(apply U;clear U K)|refine⟨rfl,?_⟩|refine aq fun v σ hs hsl=>?_|clear U K)<;>conv=>whnf)
   refine⟨hlt,_,rfl,by rw[han];exact h0,?_⟩;rw[AQ hp,SN];exact hs
 ·rw[Au hke]at hne hs
  conv=>whnf
  repeat'((first|apply st|(apply sq;intro K U)|(apply si;intro A B Y Z)|(apply Y;clear Z B Y A)|(apply U;clear U K)|refine⟨rfl,?_⟩|refine ld ?_|refine oi ?_|refine NX ?_|(refine DU (fun hc=>?_)<;>(try rw[hc])<;>clear hc)|clear U K)<;>conv=>whnf)
  refine hAppend hs 0 rfl (by simp;omega) (fun e he=>by simp at he;subst he;rfl) (fun e he v hv=>by simp at he;subst he;simp at hv;subst hv;rfl) fun v σ hs=>?_
  conv=>whnf
  repeat'((first|apply st|(apply Y;clear Z B Y A)|(apply U;clear U K)|fail)<;>conv=>whnf)
  obtain⟨σ2,h1,h2,h3⟩:=jl (es':=Ej (l.map (fun p=>(CD M p).filter (· != 0))++[l])) hs 0 rfl fun σ2=>by
   have e:Ej (l.map (fun p=>(CD M p).filter (· != 0))++[l])=Ej (l.map fun p=>(CD M p).filter (· != 0))++[[.l (iL l) false]]:=by simp only[Ej,SN,FC,List.map_nil]
   rw[e];exact Tr (Ep _) (.cons (.cons Np .nil) .nil)
  refine F3 h1 (.t (.cons h2 (.cons (.refl _) .nil))) ⟨_,⟨?_,rfl⟩,h3⟩;rw[hne,if_neg (by decide)]
def Sat.vX {σ:AH} {l:List At} {a:At} (h:Sat σ (a::l)):Sat σ (l++[a]):=h.perm (by
 have:=Po (l₁:=[a]) (l₂:=l)
 simpa using this)
def DG (M:List Ord) (l:List Int):List (List Int):=l.map (fun p=>(CD M p).filter (· != 0))++[l]
def Gw (M:List Ord) (l:List Int) (c:Int):List Int:=
 if c=0 then [0]else if l.any (fun p=>(CD M p).isEmpty)then []else if(CO (DG M l)).2 then [c]++(CO (DG M l)).1++[0]else []
def W0 (n mm:Nat) (vp vu:V) (ps:List (List Int×Bool)) (us:List Nat) (M:List Ord) {c:Int} {v:V} {l:List Int} (hk: ∀e∈M,e.1≠c) {σ:AH}
    (hs:Sat σ (.own v 1 (iL l):: .box n [vp,vu,.m mm]:: .own vp 1 (pL ps):: .own vu 1 (us.map fun u=>[eU u]):: .map mm (EN (eI c) v (M.map dJ))::M.map Y8)):Sat σ (gH n mm vp vu ps us (M++[(c,v,l)])):=by
 rw[eY v l hk]at hs;have:=hs.vX;unfold gH;rw[SN (f:=Y8)];exact this
def bM (n mm:Nat) (vp vu:V) (ps:List (List Int×Bool)) (us:List Nat) (M:List Ord) (c:Int) (l:List Int) (b:Bool) (hc0:0≤c) (hl:ps[c.toNat]? =some (l,b)) (hll:l.length≤3) (hol: ∀c,(CD M c).length≤Ac) (hk: ∀e∈M,e.1≠c)
    (hok:Lj (DG M l)) (ht:total (DG M l)<1000000000) :
    Bj Tryz.prog 271 [.p n 0,eI c] (gH n mm vp vu ps us M) fun r post=>r= .ret (.t [])∧ ∃M',post=gH n mm vp vu ps us M'∧((M'=M∧Gw M l c= [])∨ ∃v,M'=M++[(c,v,Gw M l c)]∧Gw M l c≠[]):=by
 intro σ hs;have hM:=Mx;refine kT kZ ?_;by_cases hc:c=0
 ·subst hc
  conv=>whnf
  repeat'((first|apply st|(apply sq;intro K U)|(apply si;intro A B Y Z)|(apply Y;clear Z B Y A)|(apply U;clear U K)|refine⟨rfl,?_⟩|refine ld ?_|(constructor<;>intro hc<;>(try rw[hc])<;>(replace hc:=bp hc)<;>(try simp(disch:=omega) only[BD,wrap64,AL]at hc)<;>try(exfalso;omega))|fail)<;>conv=>whnf)
  refine Hv hs 3 rfl rfl (Uk M) fun σ hs=>?_
  conv=>whnf
  repeat'((first|apply st|(apply Y;clear Z B Y A)|(apply U;clear U K)|clear U K)<;>conv=>whnf)
  refine Ap (l':=gH n mm vp vu ps us (M++[(0,.l [[eI 0]] true,[0])])) ?_ (List.Sublist.refl _) (.refl _) fun σ' hs'=>⟨_,⟨rfl,_,rfl,.inr ⟨.l [[eI 0]] true,?_,?_⟩⟩,hs'⟩
  ·refine W0 n mm vp vu ps us M hk ?_
   exact gX hs (fun e he=>by simp at he;subst he;rfl)
  ·rw[Gw,if_pos rfl]
  ·rw[Gw,if_pos rfl];exact fun e=>by cases e
 ·have hoc:Gw M l c=if l.any (fun p=>(CD M p).isEmpty)then []else if(CO (DG M l)).2 then [c]++(CO (DG M l)).1++[0]else []:=by rw[Gw,if_neg hc]
  have hli:=bc n mm vp vu ps us M c l b hc0 hl hll hol;have hmg:=bY (DG M l) false hok (by omega);have hml:=H7 (total (DG M l)) (DG M l) [];have hml2:(CO (DG M l)).1.length≤total (DG M l):=by simpa[CO]using hml
  cases hany:l.any fun p=>(CD M p).isEmpty
  ·rw[hany,if_neg (by decide)]at hoc
   simp only[hany,Lb,if_false]at hli;have hdn: ∀ {σ:AH} {M':List Ord},Sat σ (gH n mm vp vu ps us M')→((M'=M∧Gw M l c= [])∨ ∃v,M'=M++[(c,v,Gw M l c)]∧Gw M l c≠[])→A5 σ (.t []) fun r σ'=> ∃post,(r= .ret (.t [])∧ ∃M',post=gH n mm vp vu ps us M'∧((M'=M∧Gw M l c= [])∨ ∃v,M'=M++[(c,v,Gw M l c)]∧Gw M l c≠[]))∧Sat σ' post:=fun hs h=>Ap hs (List.Sublist.refl _) (.refl _) fun σ' hs'=>⟨_,⟨rfl,_,rfl,h⟩,hs'⟩
   conv=>whnf
   repeat'((first|apply st|(apply sq;intro K U)|(apply si;intro A B Y Z)|(apply Y;clear Z B Y A)|(apply U;clear U K)|refine⟨rfl,?_⟩|(constructor<;>intro hc<;>(try rw[hc])<;>(replace hc:=bp hc)<;>try(exfalso;omega))|fail)<;>conv=>whnf)
   refine hli.use (rest:=[]) (by simpa using hs) ?_;clear hs;rintro r post σ ⟨rfl,rfl⟩ hs;rw[Hj]at hs;have hml3:(DG M l)=l.map (fun p=>(CD M p).filter (· != 0))++[l]:=rfl;rw[←hml3];generalize DG M l=ll at *;cases hb:(CO ll).2<;>rw[hb]at hmg hoc
   ·conv=>whnf
    repeat'((first|apply st|(apply sq;intro K U)|(apply si;intro A B Y Z)|(apply Y;clear Z B Y A)|(apply U;clear U K)|refine D2 ?_|refine Pure.use (by assumption) ?_|fail)<;>conv=>whnf)
    exact hdn hs (.inl ⟨rfl,by rw[hoc];rfl⟩)
   ·rw[if_pos rfl]at hoc
    conv=>whnf
    repeat'((first|apply st|(apply sq;intro K U)|(apply si;intro A B Y Z)|(apply Y;clear Z B Y A)|(apply U;clear U K)|apply dr|refine ld ?_|refine D2 ?_|refine Pure.use (by assumption) ?_|fail)<;>conv=>whnf)
    replace hs:=gX hs (sz:=1) (es:=[[eI c]]) (fun e he=>by simp at he;subst he;rfl);refine HN hs 0 (xs:=[c]) (ys:=(CO ll).1) rfl (by simp;omega) Bq fun v σ hs=>?_
    conv=>whnf
    repeat'((first|apply dr|refine rk ?_ ?_|exact fun s e=>by cases e;rfl|refine ld ?_|refine aq fun v σ hs hsl=>?_|fail)<;>conv=>whnf)
    refine Hv hs 4 rfl rfl (Uk M) fun σ hs=>?_
    conv=>whnf
    repeat'((first|(apply Y;clear Z B Y A)|apply dr|fail)<;>conv=>whnf)
    refine hdn (W0 n mm vp vu ps us M hk (l:=Gw M l c) ?_) (.inr ⟨v,rfl,by rw[hoc];simp⟩);rw[hoc];exact hs
  ·rw[hany,if_pos rfl]at hoc
   simp only[hany,if_true]at hli
   conv=>whnf
   repeat'((first|apply st|(apply sq;intro K U)|(apply si;intro A B Y Z)|(apply Y;clear Z B Y A)|(apply U;clear U K)|refine⟨rfl,?_⟩|(constructor<;>intro hc<;>(try rw[hc])<;>(replace hc:=bp hc)<;>try(exfalso;omega))|fail)<;>conv=>whnf)
   refine hli.use (rest:=[]) (by simpa using hs) ?_;clear hs;rintro r post σ ⟨rfl,rfl⟩ hs;rw[Hj]at hs
   conv=>whnf
   repeat'((first|apply st|(apply sq;intro K U)|(apply si;intro A B Y Z)|(apply Y;clear Z B Y A)|(apply U;clear U K)|refine E2 ?_|clear U K)<;>conv=>whnf)
   exact Ap hs (List.Sublist.refl _) (.refl _) fun σ' hs'=>⟨_,⟨rfl,_,rfl,.inl ⟨rfl,hoc⟩⟩,hs'⟩
end Go.Gl
namespace Go.Gl
def X6 {M:List Ord} {k:Int} {v:V} {o:List Int} (h: ∀e∈M,e.1<k) (d:Int):CD (M++[(k,v,o)]) d=if d=k then o else CD M d:=by
 unfold CD;rw[List.find?_append];split
 ·rename_i e
  have:M.find? (fun e=>d==e.1)=none:=by
   rw[List.find?_eq_none];intro x hx;have:=h x hx;simp;omega
  rw[this];simp[e]
 ·rename_i e
  cases hf:M.find? fun e=>d==e.1 with
  | some x=>simp
  | none=>simp[List.find?_cons,e]
structure IP (g:List (List Int)) (k:Nat) (M:List Ord):Prop where
 keys: ∀e∈M,0≤e.1∧e.1<(k:Int)
 ZG: ∀d:Int,0≤d→d<k→CD M d=(B9 g).getD d.toNat []
def TM {g:List (List Int)} {k:Nat} {M:List Ord} (h:IP g k M) {d:Int} (hd:d<0∨(k:Int)≤d):CD M d= []:=by
 unfold CD
 have:M.find? (fun e=>d==e.1)=none:=by
  rw[List.find?_eq_none];intro x hx;have:=h.keys x hx;simp;omega
 rw[this];rfl
def K1 {g:List (List Int)} (hg:IL g) {k:Nat} {M:List Ord} (h:IP g k M) (d:Int):(CD M d).length≤71744535∧ ∀x∈CD M d,(0:Int)≤x:=by
 by_cases hd:d<0∨(k:Int)≤d
 ·rw[TM h hd]
  exact⟨by simp,fun x hx=>by cases hx⟩
 ·rw[h.ZG d (by omega) (by omega)]
  have hb:=IE hg (2+g.length);have hl:=XJ (k:=2+g.length) (by have:=hg.1;omega);unfold B9;exact⟨Ta (fun o ho=>Nat.le_trans (hb o ho).1 hl) _,OJ (fun o ho=>(hb o ho).2) _⟩
def YG {g:List (List Int)} (hg:IL g) {k:Nat} {M:List Ord} (h:IP g k M) {l:List Int} (hl:l.length≤3) (h0: ∀x∈l,(0:Int)≤x):Lj (DG M l)∧total (DG M l)<1000000000:=by
 have hM:Ac=17592186044416:=rfl;have hf: ∀p,((CD M p).filter (· != 0)).length≤71744535:=fun p=>Nat.le_trans (KN _ _) (K1 hg h p).1
 have ht: ∀l:List Int,total (l.map fun p=>(CD M p).filter (· != 0))≤l.length*71744535:=by
  intro l
  induction l with
  | nil=>simp[total]
  | cons p r ih=>
    simp only[total,FC,List.sum_cons,La]at *;have:=hf p;rw[Nat.add_mul];omega
 refine⟨⟨by simp[DG];omega,fun m hm=>?_⟩,?_⟩
 ·rcases Fo.1 hm with hm|hm
  ·obtain⟨p,_,rfl⟩:=Lf.1 hm
   refine⟨by have:=hf p;omega,fun x hx=>(K1 hg h p).2 x (JZ.1 hx).1⟩
  ·rw[KM.1 hm]
   exact⟨by omega,h0⟩
 ·have h1:=ht l
  have h2:total (DG M l)=total (l.map fun p=>(CD M p).filter (· != 0))+l.length:=by simp[DG,total]
  have h3:=SO 71744535 hl;omega
def eM {g:List (List Int)} {k:Nat} {M:List Ord} (h:IP g (k+1) M) {l:List Int} (hl:l=A4 g ((k:Int)+1)) (hp: ∀p∈l,(0:Int)≤p∧p<(k:Int)+1) (hk:k+1<3+g.length) :
    Gw M l ((k:Int)+1)=D6 g (Bl g k) ((k:Int)+1):=by
 have ho: ∀p∈l,CD M p=(Bl g k).getD p.toNat []:=fun p hpl=>by
  obtain⟨h0,h1⟩:=hp p hpl;rw[h.ZG p h0 (by omega)];unfold B9;rw[DK,DK,E9 (k:=2+g.length) (j:=p.toNat) (by omega),E9 (k:=k) (j:=p.toNat) (by omega)]
 have e1:(l.any fun p=>(CD M p).isEmpty)=(l.any fun p=>((Bl g k).getD p.toNat []).isEmpty):=by
  rw[Le,JY,JY];constructor
  ·rintro⟨p,h1,h2⟩;exact⟨p,h1,by rw[←ho p h1];exact h2⟩
  ·rintro⟨p,h1,h2⟩;exact⟨p,h1,by rw[ho p h1];exact h2⟩
 have e2:DG M l=l.map (fun p=>((Bl g k).getD p.toNat []).filter (· != 0))++[l]:=by
  unfold DG;congr 1;exact List.map_congr_left fun p hpl=>by rw[ho p hpl]
 unfold Gw D6 EX;rw[if_neg (by omega),e1,e2,←hl];split<;>rfl
def IP.nil {g:List (List Int)}:IP g 0 []:=⟨fun e h=>(by cases h),fun d h0 h1=>by omega⟩
def IP.step {g:List (List Int)} {k:Nat} {M M':List Ord} (h:IP g k M) {l:List Int} (hl:l=A4 g (k:Int)) (hp: ∀p∈l,(0:Int)≤p∧p<(k:Int)) (hk:k<3+g.length)
    (hM:(M'=M∧Gw M l k= [])∨ ∃v,M'=M++[((k:Int),v,Gw M l k)]∧Gw M l k≠[]):IP g (k+1) M':=by
 have hc:Gw M l k=(B9 g).getD k []:=by
  cases k with
  | zero=>
    unfold Gw B9;rw[if_pos (by simp),DK,E9 (j:=0) (by omega)];rfl
  | succ k=>
    have:=eM h (by simpa using hl) (fun p hpl=>by have:=hp p hpl;simpa using this) hk;have e:((k+1:Nat):Int)=(k:Int)+1:=by omega
    rw[e,this];unfold B9;rw[DK,E9 (k:=2+g.length) (j:=k+1) (by omega),Bl,List.getElem?_append_right (by rw[Cl];omega),Cl,Nat.sub_self];rfl
 rcases hM with⟨rfl,he⟩|⟨v,rfl,_⟩
 ·refine⟨fun e he=>by have:=h.keys e he;omega,fun d h0 h1=>?_⟩
  by_cases hd:d=k
  ·subst hd
   rw[TM h (by omega)];rw[IT,←hc,he]
  ·exact h.ZG d h0 (by omega)
 ·refine⟨fun e he=>?_,fun d h0 h1=>?_⟩
  ·rcases Fo.1 he with he|he
   ·have:=h.keys e he;omega
   ·rw[KM.1 he]
    exact⟨by simp,by simp;omega⟩
  ·rw[X6 (fun e he=>(h.keys e he).2)]
   split
   ·rename_i hd
    rw[hd,IT];exact hc
   ·exact h.ZG d h0 (by omega)
end Go.Gl
namespace Go.Gl
open Go.Proofs
attribute [local irreducible] BL A5 Aj AW AN Ai AV AX AO Ah AS AU BA BK Sat Ad BH Al W
def db (s c:Nat) (hs0:s<18446744073709551616) (hc:c<64):Pure Tryz.prog 269 [.a [eU s],eI c] (.a [eU (s|||2 ^ c)]):=by
 refine kV kZ ?_;have hs:=Sn
 conv=>whnf
 repeat'((first|apply st|(apply sq;intro K U)|(apply si;intro A B Y Z)|(apply Y;clear Z B Y A)|(apply U;clear U K)|apply dr|refine⟨rfl,?_⟩|refine⟨kZ,?_⟩|refine UT ?_|refine ld ?_|refine FB fun σ hs=>?_|refine DB fun σ hs=>?_|refine⟨Int.natCast_nonneg _,?_⟩|(intro nn hnn;generalize hg:A6 _ nn _=σ;refine CW hg fun hs=>?_;clear hg)|fail)<;>conv=>whnf)
 refine AI ?_;simp only[IT,WS hc,Kr hs0 (Jx hc)];rfl
def pV (s t:Nat) (hs0:s<18446744073709551616) (ht0:t<18446744073709551616):Pure Tryz.prog 270 [.a [eU s],.a [eU t]] (.a [eU (s|||t)]):=by
 refine kU kZ ?_;have hs:=Sn
 conv=>whnf
 repeat'((first|apply st|(apply sq;intro K U)|(apply si;intro A B Y Z)|(apply Y;clear Z B Y A)|(apply U;clear U K)|refine⟨rfl,?_⟩|refine⟨kZ,?_⟩|refine UT ?_|refine oz ?_|refine ld ?_|refine FB fun σ hs=>?_|refine DB fun σ hs=>?_|(intro nn hnn;generalize hg:A6 _ nn _=σ;refine CW hg fun hs=>?_;clear hg)|fail)<;>conv=>whnf)
 refine AI ?_;simp only[Kr hs0 ht0];rfl
def Sz (s:Nat) (c:Int) (hs0:s<18446744073709551616) (h0:0≤c) (hc:c<64):Pure Tryz.prog 269 [.a [eU s],eI c] (.a [eU (s|||2 ^ c.toNat)]):=by
 have:=db s c.toNat hs0 (by omega);rw[Int.toNat_of_nonneg h0]at this;exact this
def KZ {a b:Nat} (ha:a<18446744073709551616) (hb:b<18446744073709551616):a|||b<18446744073709551616:=by
 have:=Nat.or_lt_two_pow (n:=64) (x:=a) (y:=b) (by simpa using ha) (by simpa using hb);simpa using this
def IY (g:List (List Int)):List (List Int×Bool):=[([],true),([],true),([],true)]++g.map fun l=>(l,false)
def bH (g:List (List Int)):(IY g).length=3+g.length:=by simp[IY];omega
def Wa (g:List (List Int)) {k:Nat} (hk:k<3+g.length): ∃b,(IY g)[k]? =some (A4 g (k:Int),b):=by
 unfold IY A4;by_cases h3:k<3
 ·rw[if_pos (by omega),c7 (by simpa using h3)]
  refine⟨true,?_⟩;rcases k with _|_|_|k
  ·rfl
  ·rfl
  ·rfl
  ·omega
 ·rw[if_neg (by omega),List.getElem?_append_right (by simp;omega)]
  refine⟨false,?_⟩;simp only[La,List.length_nil,Lc];have e:((k:Int) - 3).toNat=k - (0+1+1+1):=by omega
  rw[e,DK,Ct (by omega)];rfl
def fA:EO (fun u:Nat=>[eU u]) 1:=fun x=>⟨rfl,fun v hv=>by simp at hv;subst hv;rfl⟩
def pT {α:Type} {a b c d:α}: [a,b,c,d].Perm [b,d,a,c]:=by
 have h1: [a,b,c,d].Perm [b,a,c,d]:= .swap _ _ _;have h2: [a,c,d].Perm [d,a,c]:=Po (l₁:=[a,c]) (l₂:=[d]);exact h1.trans (h2.cons b)
set_option maxHeartbeats 4000000 in
def eN (g:List (List Int)) (f f2:Bool) (c:Int) (hg:Dt g=true) (hc0:0≤c) (hc1:c<3+g.length) :
    Bj Tryz.prog 250 [.l (Ej g) f,.l (iL [c]) f2] [] fun r post=> ∃n mm vp vu us M,r= .ret (.t [.p n 0,.b true])∧post=gH n mm vp vu (IY g) us M∧IP g (3+g.length) M:=by
 intro σ hs;refine BL.fit (by kernel_rfl) fun hf=>?_
 have⟨g1,g2⟩:=RU hf.1;have hM:=Mx;have hG:=Dz hg;have hgl:=hG.1;have hfn:=W7 g f;rw[hg]at hfn;have hc2: [c][0]? =some c:=rfl;have hpl:=bH g;refine k9 kZ ?_
 conv=>whnf
 repeat'((first|apply st|(apply sq;intro K U)|(apply si;intro A B Y Z)|(apply Y;clear Z B Y A)|(apply U;clear U K)|refine D2 ?_|refine hfn.use ?_|fail)<;>conv=>whnf)
 refine B4 1 (fun k (_:Unit)=>[(20,eI (A3 k))]) (fun _ _=>[]) (fun _ _=>True) () rfl trivial hs ?_;clear hs;rintro k - σ hk - hs;have hkk:k=0∨k=1:=by omega
 rcases hkk with rfl|rfl
 ·conv=>whnf
  repeat'((first|apply st|(apply sq;intro K U)|(apply si;intro A B Y Z)|(apply Y;clear Z B Y A)|(apply U;clear U K)|refine⟨rfl,?_⟩|refine⟨kZ,?_⟩|refine ix ?_|(refine CA (fun hc=>?_)<;>(try rw[hc])<;>clear hc)|(constructor<;>intro hc<;>(try rw[hc])<;>(replace hc:=bp hc)<;>(try simp(disch:=omega) only[BD,wrap64,AL]at hc)<;>try(exfalso;omega))|clear U K)<;>conv=>whnf)
  all_goals try(exfalso;omega)
  exact⟨(),rfl,trivial,hs⟩
 ·have hke:1= [c].length:=rfl
  conv=>whnf
  repeat'((first|apply st|(apply sq;intro K U)|(apply si;intro A B Y Z)|(apply Y;clear Z B Y A)|(apply U;clear U K)|refine⟨rfl,?_⟩|(refine DU (fun hc=>?_)<;>(try rw[hc])<;>clear hc)|clear U K)<;>conv=>whnf)
  rw[show IntKind.i64.wrap (3+((Ej g).length:Nat))=((3+g.length:Nat):Int) by rw[BD,wrap64 (by omega) (by omega)];omega];refine dV (n:=3) hs (by omega) (by omega) fun vp σ hs hv=>?_
  obtain⟨idp,rfl⟩:=hv
  conv=>whnf
  repeat'((first|(apply sq;intro K U)|(apply si;intro A B Y Z)|(apply Y;clear Z B Y A)|(apply U;clear U K)|refine ld ?_|(intro nn hnn;generalize hg:A6 _ nn _=σ;refine CW hg fun hs=>?_;clear hg)|fail)<;>conv=>whnf)
  obtain⟨mm,hs⟩: ∃mm,Sat σ [.box nn [.sl idp 3 (3+g.length),.l [] true,.m mm],.map mm [],.own (.sl idp 3 (3+g.length)) 1 (List.replicate 3 [.l [] true])]:=⟨_,hs⟩
  generalize nn=n0 at *;have hgr:=Cn DJ g;refine hAppend hs 2 rfl (by simp;omega) hgr.1 hgr.2 fun vp σ hs=>?_
  have hps:List.replicate 3 [.l [] true]++Ej g=pL (IY g):=by simp[pL,IY,List.replicate,Ej]
  rw[hps]at hs;clear hps;have hs1p:=Gx hs 2 rfl
  conv=>whnf
  repeat'((first|apply st|(apply sq;intro K U)|(apply si;intro A B Y Z)|(apply Y;clear Z B Y A)|(apply U;clear U K)|refine lo ?_|refine ld ?_|refine FB fun σ hs=>?_|fail)<;>conv=>whnf)
  replace hs:Sat σ [.box n0 [vp,.l [] true,.m mm],.map mm [],.own vp 1 (pL (IY g))]:=hs;refine B4 (IY g).length (fun k (_:V×List Nat)=>[(55,eI (A3 k))]) (fun _ x=>[.own x.1 1 (x.2.map fun u=>[eU u]),.box n0 [vp,x.1,.m mm],.map mm [],.own vp 1 (pL (IY g))]) (fun k x=>x.2.length=k∧ ∀u∈x.2,u<18446744073709551616) (.l [] true,[]) rfl ⟨rfl,fun u hu=>by cases hu⟩ (Cx hs 1) ?_;clear hs;rintro k ⟨vu,us⟩ σ hk ⟨hul,hus⟩ hs;dsimp only at hul hus hs;rcases BE (IY g) hk with⟨⟨l,lb⟩,hl,hlt⟩|hke2
  ·have hck:A3 k=k:=AL (by omega)
   obtain⟨b',hpa⟩:=Wa g (k:=k) (by omega);have hle:l=A4 g (k:Int):=by rw[hl]at hpa;exact(Prod.mk.inj (Option.some.inj hpa)).1
   have hll:=C8 hG (k:Int);rw[←hle]at hll;have hlm: ∀p∈l,3≤p∧p<(k:Int):=fun p hp=>Dd hG (by rw[←hle];exact hp)
   have hs1:(0|||2 ^ (A3 k).toNat)<18446744073709551616:=by
    rw[Nat.zero_or,hck,IT];exact Jx (by omega)
   have hs1u:=Gx hs 0 rfl;have hl':(IY g)[(A3 k).toNat]? =some (l,lb):=by rw[hck,IT];exact hl
   conv=>whnf
   repeat'((first|apply st|(apply sq;intro K U)|(apply si;intro A B Y Z)|(apply Y;clear Z B Y A)|(apply U;clear U K)|refine⟨rfl,?_⟩|refine DB fun σ hs=>?_|refine oi ?_|refine NX ?_|(refine CA (fun hc=>?_)<;>(try rw[hc])<;>clear hc)|refine Pure.use (Sz 0 (A3 k) (by decide) (by omega) (by omega)) ?_|refine Pure.use (Sz _ _ (by first|omega|exact hs1) (by omega) (by omega)) ?_|(intro nn hnn;generalize hg:A6 _ nn _=σ;refine CW hg fun hs=>?_;clear hg)|fail)<;>conv=>whnf)
   have hs0:(0|||2 ^ (A3 k).toNat|||2 ^ Int.toNat 0)<18446744073709551616:=KZ hs1 (by decide);generalize (0|||2 ^ (A3 k).toNat|||2 ^ Int.toNat 0)=s0 at *;refine B4 l.length (fun j (_:Nat)=>[(66,eI (A3 j))]) (fun _ s=>[.box nn [eU s],.own vu 1 (us.map fun u=>[eU u]),.box n0 [vp,vu,.m mm],.map mm [],.own vp 1 (pL (IY g))]) (fun _ s=>s<18446744073709551616) s0 rfl hs0 hs ?_;clear hs hs0;rintro j s σ hj hsb hs;rcases BE l hj with⟨p,hp,hjlt⟩|hje
   ·obtain⟨hp3,hpk⟩:=hlm p (B1 hp)
    obtain⟨u,hu⟩: ∃u,us[p.toNat]? =some u:=⟨_,Ct (by omega)⟩
    have hub:=hus u (B1 hu)
    conv=>whnf
    repeat'((first|apply st|(apply sq;intro K U)|(apply si;intro A B Y Z)|(apply Y;clear Z B Y A)|(apply U;clear U K)|apply dr|refine⟨rfl,?_⟩|refine⟨kZ,?_⟩|refine ix ?_|refine ld ?_|refine DB fun σ hs=>?_|refine oi ?_|refine NX ?_|(refine CA (fun hc=>?_)<;>(try rw[hc])<;>clear hc)|refine Pure.use (pV _ _ hsb hub) ?_|clear U K)<;>conv=>whnf)
    exact⟨hjlt,s|||u,rfl,KZ hsb hub,hs⟩
   ·conv=>whnf
    repeat'((first|apply st|(apply sq;intro K U)|(apply si;intro A B Y Z)|(apply Y;clear Z B Y A)|(apply U;clear U K)|apply dr|refine⟨rfl,?_⟩|refine⟨kZ,?_⟩|refine ld ?_|(refine DU (fun hc=>?_)<;>(try rw[hc])<;>clear hc)|clear U K)<;>conv=>whnf)
    refine GQ (Fv hs 1 (enc:=fun u:Nat=>[eU u]) (xs:=us) (x:=s) rfl (by omega) fA fun vu' σ hs hsl=>?_);have hs2u:=Gx hs 1 rfl
    conv=>whnf
    repeat'((first|(apply si;intro A B Y Z)|(apply Y;clear Z B Y A)|(apply U;clear U K)|apply dr|refine⟨rfl,?_⟩|refine FB fun σ hs=>?_|clear U K)<;>conv=>whnf)
    refine⟨hlt,(vu',us++[s]),rfl,⟨by simp[hul],fun u hu=>?_⟩,hs.less (Jp _ _)⟩;rcases Fo.1 hu with hu|hu
    ·exact hus u hu
    ·rw[KM.1 hu];exact hsb
  ·have hs1u:=Gx hs 0 rfl
   conv=>whnf
   repeat'((first|apply st|(apply sq;intro K U)|(apply si;intro A B Y Z)|(apply Y;clear Z B Y A)|(apply U;clear U K)|refine⟨rfl,?_⟩|refine lo ?_|refine ld ?_|(refine DU (fun hc=>?_)<;>(try rw[hc])<;>clear hc)|clear U K)<;>conv=>whnf)
   replace hs:Sat σ (gH n0 mm vp vu (IY g) us []):=hs.perm pT;refine B4 (IY g).length (fun k (_:List Ord)=>[(96,eI (A3 k))]) (fun _ M=>gH n0 mm vp vu (IY g) us M) (fun k M=>IP g k M) [] rfl IP.nil hs ?_;clear hs;rintro k M σ hk hkn hs;rcases BE (IY g) hk with⟨⟨l,lb⟩,hl,hlt⟩|hke3
   ·have hck:A3 k=k:=AL (by omega)
    obtain⟨b',hpa⟩:=Wa g (k:=k) (by omega);have hle:l=A4 g (k:Int):=by rw[hl]at hpa;exact(Prod.mk.inj (Option.some.inj hpa)).1
    have hll:=C8 hG (k:Int);rw[←hle]at hll;have hlm: ∀p∈l,3≤p∧p<(k:Int):=fun p hp=>Dd hG (by rw[←hle];exact hp)
    have hlo:=YG hG hkn hll (fun x hx=>by have:=hlm x hx;omega);have hord:=bM n0 mm vp vu (IY g) us M (A3 k) l lb (by omega) (by rw[hck,IT];exact hl) hll (fun c=>by have:=(K1 hG hkn c).1;omega) (fun e he=>by have:=hkn.keys e he;omega) hlo.1 hlo.2
    conv=>whnf
    repeat'((first|apply st|(apply sq;intro K U)|(apply si;intro A B Y Z)|(apply Y;clear Z B Y A)|(apply U;clear U K)|refine⟨rfl,?_⟩|(refine CA (fun hc=>?_)<;>(try rw[hc])<;>clear hc)|fail)<;>conv=>whnf)
    refine hord.use (rest:=[]) (by simpa using hs) ?_;clear hs;rintro r post σ ⟨rfl,M',rfl,hM'⟩ hs;rw[Hj]at hs;rw[hck]at hM'
    conv=>whnf
    repeat'((first|(apply si;intro A B Y Z)|(apply Y;clear Z B Y A)|(apply U;clear U K)|refine⟨rfl,?_⟩|clear U K)<;>conv=>whnf)
    exact⟨hlt,M',rfl,hkn.step hle (fun p hp=>by have:=hlm p hp;omega) (by omega) hM',hs⟩
   ·conv=>whnf
    repeat'((first|apply st|(apply sq;intro K U)|(apply si;intro A B Y Z)|(apply Y;clear Z B Y A)|(apply U;clear U K)|refine⟨rfl,?_⟩|(refine DU (fun hc=>?_)<;>(try rw[hc])<;>clear hc)|clear U K)<;>conv=>whnf)
    exact Ap hs (List.Sublist.refl _) (.refl _) fun σ' hs'=>⟨_,⟨_,_,_,_,_,_,rfl,rfl,by rw[←hpl,←hke3];exact hkn⟩,hs'⟩
def n8 {M:List Ord} {c:Int} {σ:AH} {fx:List At} (hs:Sat σ (fx++M.map Y8)) (hl:(CD M c).length≤Ac) (hne:CD M c≠[]) {k kp:V→AH→Prop} (hk: ∀σ',Sat σ' (fx++M.map Y8)→k (.l (iL (CD M c)) false) σ'):BL Tryz.prog 175 [Ih M c] σ (qk k kp):=by
 rcases N3 M c with⟨h1,h2⟩|⟨j,hj⟩
 ·exact absurd h1 hne
 ·have hj':(fx++M.map Y8)[fx.length+j]? =some (At.own (Ih M c) 1 (iL (CD M c))):=by
   rw[List.getElem?_append_right (by omega),Nat.add_sub_cancel_left,hj]
  have hcl:Bj Tryz.prog 175 [Ih M c] [.own (Ih M c) 1 (iL (CD M c))] fun r post=>r= .ret (.l (iL (CD M c)) false)∧post= [.own (Ih M c) 1 (iL (CD M c))]:=by
   clear hk hj' hj;generalize Ih M c=v at *;generalize CD M c=l at *;intro σ hs;refine aB kZ ?_;have hgr:=Cn Bq l
   have hend: ∀ {σ:AH} {w u:V},Sat σ [.own w 1 (iL l),.own u 1 (iL l)]→A5 σ w fun r σ'=> ∃post,(r= .ret (.l (iL l) false)∧post= [.own u 1 (iL l)])∧Sat σ' post:=fun hs=>by
    obtain⟨σ2,h1,h2,h3⟩:=Ir hs 0 rfl;exact F3 h1 h2 ⟨_,⟨rfl,rfl⟩,h3⟩
   have hM:=Mx;rcases hs.get (i:=0) rfl with⟨rfl,_⟩|⟨n,cap,rfl,hn⟩
   ·conv=>whnf
    repeat'((first|(apply sq;intro K U)|(apply si;intro A B Y Z)|(apply Y;clear Z B Y A)|(apply U;clear U K)|fail)<;>conv=>whnf)
    refine⟨fun e=>absurd (List.map_eq_nil_iff.1 e) hne,fun _=>?_⟩
    conv=>whnf
    repeat'((first|apply st|(apply sq;intro K U)|(apply si;intro A B Y Z)|(apply Y;clear Z B Y A)|(apply U;clear U K)|fail)<;>conv=>whnf)
    replace hs:=Cx hs 1;refine Rw hs 0 1 rfl rfl (by simp;omega) hgr.1 hgr.2 fun w σ hs=>?_
    conv=>whnf
    repeat'((first|apply st|(apply Y;clear Z B Y A)|(apply U;clear U K)|fail)<;>conv=>whnf)
    exact hend hs
   ·conv=>whnf
    repeat'((first|apply st|(apply sq;intro K U)|(apply si;intro A B Y Z)|(apply Y;clear Z B Y A)|(apply U;clear U K)|fail)<;>conv=>whnf)
    replace hs:=Cx hs 1;refine Rw hs 0 1 rfl rfl (by simp;omega) hgr.1 hgr.2 fun w σ hs=>?_
    conv=>whnf
    repeat'((first|apply st|(apply Y;clear Z B Y A)|(apply U;clear U K)|fail)<;>conv=>whnf)
    exact hend hs
  refine hcl.gE (Φ:=fun r=>r= .ret (.l (iL (CD M c)) false)) hs hj' ?_;rintro r σ' rfl hs';exact hk σ' hs'
def jj (g:List (List Int)) (f:Bool) (c:Int) (hg:Dt g=true) (hc0:0≤c) (hc1:c<3+g.length) :
    Pure Tryz.prog 209 [.l (Ej g) f,eI c] (if((B9 g).getD c.toNat []).isEmpty then .t [.l [] true,eI 7]else .t [.l (iL ((B9 g).getD c.toNat [])) false,eI 0]):=by
 have hop:=eN g f true c hg hc0 hc1;refine lq kZ ?_;have hs:=Sn;have hM:=Mx;have hG:=Dz hg
 conv=>whnf
 repeat'((first|(apply sq;intro K U)|(apply si;intro A B Y Z)|(apply Y;clear Z B Y A)|(apply U;clear U K)|fail)<;>conv=>whnf)
 refine hop.use (rest:=[]) hs ?_;clear hs;rintro r post σ ⟨n,mm,vp,vu,us,M,rfl,rfl,hkn⟩ hs;rw[Hj]at hs;have hol:=(K1 hG hkn c).1;have hor:=hkn.ZG c hc0 (by omega);by_cases hne:CD M c= []
 ·have hl0:(CD M c).length=0:=by rw[hne];rfl
  conv=>whnf
  repeat'((first|apply st|(apply sq;intro K U)|(apply si;intro A B Y Z)|(apply Y;clear Z B Y A)|(apply U;clear U K)|refine⟨rfl,?_⟩|refine ld ?_|refine D2 ?_|refine vL ?_|refine N4 (fx:=_::_::_::_:: []) hs (by omega) ?_|(constructor<;>intro hc<;>(try rw[hc])<;>(replace hc:=bp hc)<;>try(exfalso;omega))|clear U K)<;>conv=>whnf)
  all_goals try(exfalso;omega)
  rw[←hor,hne];exact AI rfl
 ·have hl0:0<(CD M c).length:=List.length_pos_iff.2 hne
  conv=>whnf
  repeat'((first|apply st|(apply sq;intro K U)|(apply si;intro A B Y Z)|(apply Y;clear Z B Y A)|(apply U;clear U K)|refine⟨rfl,?_⟩|refine ld ?_|refine D2 ?_|refine vL ?_|refine N4 (fx:=_::_::_::_:: []) hs (by omega) ?_|(constructor<;>intro hc<;>(try rw[hc])<;>(replace hc:=bp hc)<;>try(exfalso;omega))|fail)<;>conv=>whnf)
  all_goals try(exfalso;omega)
  refine n8 (fx:=_::_::_::_:: []) hs (by omega) hne fun σ hs=>?_
  conv=>whnf
  repeat'((first|apply st|(apply Y;clear Z B Y A)|(apply U;clear U K)|fail)<;>conv=>whnf)
  rw[←hor]
  have:(CD M c).isEmpty=false:=by
   cases h:(CD M c).isEmpty
   ·rfl
   ·exact absurd (List.isEmpty_iff.1 h) hne
  rw[this];exact AI rfl
def cN (xs:List Int) (f:Bool):Pure Tryz.prog 175 [.l (iL xs) f] (.l (iL xs) false):=by
 refine Pure.fit (by kernel_rfl) fun hf=>?_
 have hxl:=RV hf.1;have hM:=Mx;refine aB kZ ?_;have hs:=Sn
 conv=>whnf
 repeat'((first|(apply sq;intro K U)|(apply si;intro A B Y Z)|(apply Y;clear Z B Y A)|(apply U;clear U K)|fail)<;>conv=>whnf)
 refine⟨fun e t=>?_,fun _=>?_⟩
 ·have hx:xs= []:=List.map_eq_nil_iff.1 e
  subst hx
  conv=>whnf
  repeat'((first|apply st|(apply sq;intro K U)|(apply si;intro A B Y Z)|(apply Y;clear Z B Y A)|(apply U;clear U K)|(constructor<;>intro hc<;>(try rw[hc])<;>(replace hc:=bp hc))|clear U K)<;>conv=>whnf)
  ·exact BO CI
  ·replace hs:=Cx hs 1
   refine HN hs 0 (xs:=[]) (ys:=[]) rfl (by simp) Bq fun v σ hs=>?_
   conv=>whnf
   repeat'((first|apply st|(apply Y;clear Z B Y A)|(apply U;clear U K)|fail)<;>conv=>whnf)
   exact EW hs 0 rfl rfl
 ·conv=>whnf
  repeat'((first|apply st|(apply sq;intro K U)|(apply si;intro A B Y Z)|(apply Y;clear Z B Y A)|(apply U;clear U K)|fail)<;>conv=>whnf)
  replace hs:=Cx hs 1;refine HN hs 0 (xs:=[]) (ys:=xs) rfl (by simp;omega) Bq fun v σ hs=>?_
  conv=>whnf
  repeat'((first|apply st|(apply Y;clear Z B Y A)|(apply U;clear U K)|fail)<;>conv=>whnf)
  exact EW hs 0 rfl rfl
def jJ (c:PT):Pure Tryz.prog 174 [.a (Pa c)] (.l (iL c.parents) false):=by
 refine mK kZ ?_;have hs:=Sn
 conv=>whnf
 repeat'((first|apply st|(apply sq;intro K U)|(apply si;intro A B Y Z)|(apply Y;clear Z B Y A)|(apply U;clear U K)|refine Pure.use (cN _ _) ?_|fail)<;>conv=>whnf)
 exact AI rfl
def fZ (xs:List (List Int)) (v:V) (hl:xs.length≤Ac):Bj Tryz.prog 216 [v] [.own v 1 (Ej xs)] fun r post=>r= .ret (.l (Ej xs) true)∧post= []:=by
 intro σ hs;have hg:=Cn DJ xs;refine lY kZ ?_
 conv=>whnf
 repeat'((first|(apply sq;intro K U)|(apply si;intro A B Y Z)|(apply Y;clear Z B Y A)|(apply U;clear U K)|refine lo ?_|fail)<;>conv=>whnf)
 refine WG (i:=0) hs rfl hg.1 (by simpa using hl) fun σ hs=>?_
 conv=>whnf
 repeat'((first|apply st|(apply Y;clear Z B Y A)|(apply U;clear U K)|fail)<;>conv=>whnf)
 exact Ap hs (List.Sublist.refl _) (.refl _) fun σ' hs'=>⟨_,⟨rfl,rfl⟩,hs'⟩
def N2 (xs:List Int) (v:V) (hl:xs.length≤Ac):Bj Tryz.prog 99 [v] [.own v 1 (iL xs)] fun r post=>r= .ret (.l (iL xs) true)∧post= []:=by
 intro σ hs;have hg:=Cn Bq xs;refine gZ kZ ?_
 conv=>whnf
 repeat'((first|(apply sq;intro K U)|(apply si;intro A B Y Z)|(apply Y;clear Z B Y A)|(apply U;clear U K)|refine lo ?_|fail)<;>conv=>whnf)
 refine WG (i:=0) hs rfl hg.1 (by simpa using hl) fun σ hs=>?_
 conv=>whnf
 repeat'((first|apply st|(apply Y;clear Z B Y A)|(apply U;clear U K)|fail)<;>conv=>whnf)
 exact Ap hs (List.Sublist.refl _) (.refl _) fun σ' hs'=>⟨_,⟨rfl,rfl⟩,hs'⟩
def fO (cs:List PT) (hl:cs.length≤1000000):Pure Tryz.prog 173 [.l (cs.map Pa) false,.f (.func 174) [] []] (.l (Ej (cs.map (·.parents))) false):=by
 have hM:=Mx;refine mL kZ ?_;have hs:=Sn
 conv=>whnf
 repeat'((first|apply st|(apply sq;intro K U)|(apply si;intro A B Y Z)|(apply Y;clear Z B Y A)|(apply U;clear U K)|fail)<;>conv=>whnf)
 refine B4 cs.length (fun k v=>[(5,v),(10,eI (A3 k))]) (fun k v=>[.own v 1 (Ej ((cs.take k).map (·.parents)))]) (fun _ _=>True) (.l [] true) rfl trivial (Cx hs 1) ?_;clear hs;rintro k v σ hk - hs;rcases BE cs hk with⟨c,hc,hlt⟩|hke
 ·conv=>whnf
  repeat'((first|apply st|(apply sq;intro K U)|(apply si;intro A B Y Z)|(apply Y;clear Z B Y A)|(apply U;clear U K)|refine⟨rfl,?_⟩|refine⟨kZ,?_⟩|refine ix ?_|refine ld ?_|refine DB fun σ hs=>?_|(refine CA (fun hc=>?_)<;>(try rw[hc])<;>clear hc)|(intro nn hnn;generalize hg:A6 _ nn _=σ;refine CW hg fun hs=>?_;clear hg)|fail)<;>conv=>whnf)
  refine Bp ((jJ c).use ?_)
  conv=>whnf
  repeat'((first|(apply si;intro A B Y Z)|(apply Y;clear Z B Y A)|(apply U;clear U K)|refine⟨rfl,?_⟩|refine aq fun v σ hs hsl=>?_|clear U K)<;>conv=>whnf)
  exact⟨hlt,_,rfl,trivial,by rw[AQ hc,SN];exact hs.less (Jp _ _)⟩
 ·rw[Au hke]at hs
  conv=>whnf
  repeat'((first|apply st|(apply sq;intro K U)|(apply si;intro A B Y Z)|(apply Y;clear Z B Y A)|(apply U;clear U K)|refine⟨rfl,?_⟩|(refine DU (fun hc=>?_)<;>(try rw[hc])<;>clear hc)|clear U K)<;>conv=>whnf)
  refine(fZ (cs.map (·.parents)) v (by simp;omega)).use (rest:=[]) hs ?_;clear hs;rintro r post σ ⟨rfl,rfl⟩ hs
  conv=>whnf
  repeat'((first|apply st|(apply Y;clear Z B Y A)|(apply U;clear U K)|fail)<;>conv=>whnf)
  exact BO Np
def K8 (p:Prog) (hk0:p.AP.length≤1000):Pure Tryz.prog 138 [.a (BV p)] (.l (Ej (A8 p)) false):=by
 refine Pure.fit (by kernel_rfl) fun hf=>?_
 have F:=Jg hf.1;refine m9 kZ ?_;have hs:=Sn
 conv=>whnf
 repeat'((first|apply st|(apply sq;intro K U)|(apply si;intro A B Y Z)|(apply Y;clear Z B Y A)|(apply U;clear U K)|fail)<;>conv=>whnf)
 refine(fO p.AP (by omega)).use ?_
 conv=>whnf
 repeat'((first|apply st|(apply Y;clear Z B Y A)|(apply U;clear U K)|fail)<;>conv=>whnf)
 exact AI rfl
def Sy (p:Prog) (hk0:p.AP.length≤1000) (hm:Bu p.AP≤Ac):Pure Tryz.prog 108 [.a (BV p)] (.a (Aq (AM p))):=by
 refine Pure.fit (by kernel_rfl) fun hf=>?_
 have F:=Jg hf.1;have hcl:=F.1;have hM:=Mx;refine nj kZ ?_;have hs:=Sn
 conv=>whnf
 repeat'((first|apply st|(apply sq;intro K U)|(apply si;intro A B Y Z)|(apply Y;clear Z B Y A)|(apply U;clear U K)|refine⟨kZ,?_⟩|refine DB fun σ hs=>?_|refine Pure.use (K8 _ hk0) ?_|(intro nn hnn;generalize hg:A6 _ nn _=σ;refine CW hg fun hs=>?_;clear hg)|fail)<;>conv=>whnf)
 rename_i n2 _ _ _ _ _
 rename Nat=>n3
 replace hs:Sat σ [.box n3 [.l (Ej (A8 p)) false,.l [] true],.box n2 [.l [] true,.l [] true]]:=hs;refine B4 p.AP.length (fun k (_:V)=>[(12,eI (A3 k))]) (fun k v=>[.own v 1 (iL (BY 0 (p.AP.take k))),.box n3 [.l (Ej (A8 p)) false,v],.box n2 [.l [] true,.l [] true]]) (fun _ _=>True) (.l [] true) rfl trivial (Cx hs 1) ?_;clear hs;rintro k v σ hk - hs;rcases BE p.AP hk with⟨c,hc,hlt⟩|hke
 ·have hcm:=F.2 c (B1 hc)
  have htk:=O2 hc;have hck:A3 k=k:=AL (by omega)
  have hap:BY 0 (p.AP.take (k+1))=BY 0 (p.AP.take k)++List.replicate c.AT.length ((k:Int)+3):=by
   rw[AQ hc,IS];have:(p.AP.take k).length=k:=by simp;omega
   rw[this];simp[BY]
  have hol:=Cf 0 (p.AP.take k);have hw3:IntKind.i64.wrap (A3 k+3)=(k:Int)+3:=by rw[hck,wrap64 (by omega) (by omega)]
  have hcs:=hcm.2.1;generalize BY 0 (p.AP.take k)=os at *
  conv=>whnf
  repeat'((first|apply st|(apply sq;intro K U)|(apply si;intro A B Y Z)|(apply Y;clear Z B Y A)|(apply U;clear U K)|refine⟨rfl,?_⟩|refine⟨kZ,?_⟩|refine ix ?_|refine ld ?_|refine DB fun σ hs=>?_|(refine CA (fun hc=>?_)<;>(try rw[hc])<;>clear hc)|(intro nn hnn;generalize hg:A6 _ nn _=σ;refine CW hg fun hs=>?_;clear hg)|fail)<;>conv=>whnf)
  refine B4 c.AT.length (fun j (_:V)=>[(20,eI (A3 j))]) (fun j v=>[.own v 1 (iL (os++List.replicate j ((k:Int)+3))),.box n3 [.l (Ej (A8 p)) false,v],.box n2 [.l [] true,.l [] true]]) (fun _ _=>True) v rfl trivial (by simpa using hs.less (Jp _ _)) ?_;clear hs;rintro j v σ hj - hs;rcases BE c.AT hj with⟨s,hsl,hjlt⟩|hje
  ·have hsv0:=Gx hs 0 rfl
   conv=>whnf
   repeat'((first|apply st|(apply sq;intro K U)|(apply si;intro A B Y Z)|(apply Y;clear Z B Y A)|(apply U;clear U K)|refine⟨rfl,?_⟩|refine ld ?_|refine FB fun σ hs=>?_|refine aq fun v σ hs hsl=>?_|(refine CA (fun hc=>?_)<;>(try rw[hc])<;>clear hc)|clear U K)<;>conv=>whnf)
   have hsv:=Gx hs 0 rfl
   conv=>whnf
   refine⟨hjlt,v,rfl,trivial,?_⟩;rw[List.replicate_succ',←SS];rw[hw3]at hs;exact hs
  ·conv=>whnf
   repeat'((first|apply st|(apply sq;intro K U)|(apply si;intro A B Y Z)|(apply Y;clear Z B Y A)|(apply U;clear U K)|refine⟨rfl,?_⟩|(refine DU (fun hc=>?_)<;>(try rw[hc])<;>clear hc)|clear U K)<;>conv=>whnf)
   exact⟨hlt,v,rfl,trivial,by rw[hap,←hje];exact hs⟩
 ·rw[Au hke]at hs
  have hsv:=Gx hs 0 rfl
  conv=>whnf
  repeat'((first|apply st|(apply sq;intro K U)|(apply si;intro A B Y Z)|(apply Y;clear Z B Y A)|(apply U;clear U K)|refine⟨rfl,?_⟩|refine⟨kZ,?_⟩|refine ld ?_|refine DB fun σ hs=>?_|(refine DU (fun hc=>?_)<;>(try rw[hc])<;>clear hc)|clear U K)<;>conv=>whnf)
  exact BO (.a (.cons (.refl _) (.cons (hs.MV 0 rfl) .nil)))
end Go.Gl
namespace Go.Proofs
open Go.Shelf
def Tryz.T6:Go.Shelf.Ren:=⟨fun|189=>135|125=>160|257=>159|128=>205|129=>206|294=>196|295=>197|296=>198|297=>199|298=>200|299=>201|216=>202|300=>203|301=>204|328=>243|329=>244|330=>245|331=>246|332=>247|215=>248|343=>268|n=>n,fun|28=>23|3=>3|46=>193|0=>0|51=>240|53=>182|4=>4|183=>233|182=>232|131=>237|5=>5|9=>9|218=>267|222=>215|228=>300|229=>301|n=>n,fun|n=>n⟩
def Tryz.eX:Go.Proofs.Lays.n189 Tryz.prog Tryz.T6:={
 mixed:=by kernel_rfl
 f125:=Tryz.func160.trans (congrArg some (by kernel_rfl))
 f128:=Tryz.func205.trans (congrArg some (by kernel_rfl))
 f129:=Tryz.func206.trans (congrArg some (by kernel_rfl))
 f189:=Tryz.func135.trans (congrArg some (by kernel_rfl))
 f215:=Tryz.func248.trans (congrArg some (by kernel_rfl))
 f216:=Tryz.func202.trans (congrArg some (by kernel_rfl))
 f257:=Tryz.func159.trans (congrArg some (by kernel_rfl))
 f294:=Tryz.func196.trans (congrArg some (by kernel_rfl))
 f295:=Tryz.func197.trans (congrArg some (by kernel_rfl))
 f296:=Tryz.func198.trans (congrArg some (by kernel_rfl))
 f297:=Tryz.func199.trans (congrArg some (by kernel_rfl))
 f298:=Tryz.func200.trans (congrArg some (by kernel_rfl))
 f299:=Tryz.func201.trans (congrArg some (by kernel_rfl))
 f300:=Tryz.func203.trans (congrArg some (by kernel_rfl))
 f301:=Tryz.func204.trans (congrArg some (by kernel_rfl))
 f328:=Tryz.func243.trans (congrArg some (by kernel_rfl))
 f329:=Tryz.func244.trans (congrArg some (by kernel_rfl))
 f330:=Tryz.func245.trans (congrArg some (by kernel_rfl))
 f331:=Tryz.func246.trans (congrArg some (by kernel_rfl))
 f332:=Tryz.func247.trans (congrArg some (by kernel_rfl))
 f343:=Tryz.func268.trans (congrArg some (by kernel_rfl))
 t0:=Tryz.underlying0
 a0:=Tryz.isAgg0
 z0:=Tryz.sizeOf0
 v0:=Tryz.zeroValue0
 t3:=Tryz.underlying3
 a3:=Tryz.isAgg3
 z3:=Tryz.sizeOf3
 v3:=Tryz.zeroValue3
 t4:=Tryz.underlying4
 a4:=Tryz.isAgg4
 z4:=Tryz.sizeOf4
 v4:=Tryz.zeroValue4
 t5:=Tryz.underlying5
 a5:=Tryz.isAgg5
 z5:=Tryz.sizeOf5
 v5:=Tryz.zeroValue5
 t9:=Tryz.underlying9
 a9:=Tryz.isAgg9
 z9:=Tryz.sizeOf9
 v9:=Tryz.zeroValue9
 t28:=Tryz.underlying23
 a28:=Tryz.isAgg23
 z28:=Tryz.sizeOf23
 v28:=Tryz.zeroValue23
 t46:=Tryz.underlying193
 a46:=Tryz.isAgg193
 z46:=Tryz.sizeOf193
 v46:=Tryz.zeroValue193
 t51:=Tryz.underlying240
 a51:=Tryz.isAgg240
 z51:=Tryz.sizeOf240
 v51:=Tryz.zeroValue240
 t53:=Tryz.underlying182
 a53:=Tryz.isAgg182
 z53:=Tryz.sizeOf182
 v53:=Tryz.zeroValue182
 t131:=Tryz.underlying237
 a131:=Tryz.isAgg237
 z131:=Tryz.sizeOf237
 v131:=Tryz.zeroValue237
 t182:=Tryz.underlying232
 a182:=Tryz.isAgg232
 z182:=Tryz.sizeOf232
 v182:=Tryz.zeroValue232
 t183:=Tryz.underlying233
 a183:=Tryz.isAgg233
 z183:=Tryz.sizeOf233
 v183:=Tryz.zeroValue233
 t218:=Tryz.underlying267
 a218:=Tryz.isAgg267
 z218:=Tryz.sizeOf267
 v218:=Tryz.zeroValue267
 t222:=Tryz.underlying215
 a222:=Tryz.isAgg215
 z222:=Tryz.sizeOf215
 v222:=Tryz.zeroValue215
 t228:=Tryz.underlying300
 a228:=Tryz.isAgg300
 z228:=Tryz.sizeOf300
 v228:=Tryz.zeroValue300
 t229:=Tryz.underlying301
 a229:=Tryz.isAgg301
 z229:=Tryz.sizeOf301
 v229:=Tryz.zeroValue301}
end Go.Proofs
namespace Go.Gl
open Go.Proofs Go.Shelf
abbrev G9 (x y:Int):Bool:=decide (x≤y)
def bC {P:Program} {f:FuncId} (hok:okF P f=true)
    (hc: ∀(blk cap:Nat) (zs:List Int) (w:World),Sort.Holds (Value.int .i64) w blk 0 zs.toArray→blk<w.heap.size→zs.length<4611686018427387904→
     Calls P f #[.slice (some ⟨blk,0,none⟩) zs.length cap] w fun e w'=>e= .returned (.tuple #[])∧ ∃n os,w'=Sort.grow (Sort.putRow (Value.int .i64) (Sort.ahead w n) blk 0 (zs.mergeSort fun x y=>decide (x≤y)).toArray) os)
    (xs:List Int) (n len cap:Nat):Bj P f [.sl n len cap] [.own (.sl n len cap) 1 (iL xs)] fun r post=>r= .ret (.t [])∧post= [.own (.sl n len cap) 1 (iL (xs.mergeSort G9))]:=by
 intro σ hs;refine⟨hok,fun Λ w cs G hv=>?_⟩;rcases hs.get (i:=0) rfl with⟨h,_⟩|⟨n',cap',h,hn⟩
 ·cases h
 cases h;rw[BD]at hv;obtain⟨c,e,hb,h1,h2,h3,h4⟩:=E7 G hn;rw[BD]at h2 h3;have hM:Ac=17592186044416:=rfl;rw[BQ]at h4
 have hcell: ∀j x,xs[j]? =some x→c[j]? =some (Value.int .i64 x)∧IntKind.i64.min≤x∧x≤IntKind.i64.max:=fun j x hx=>by
  have:=(h4 j [.i .i64 x] (by rw[Lc,hx];rfl)).2;simp only[Bh,Nat.mul_one,HA]at this;obtain⟨⟨d,hd,hr⟩,_⟩:=this;simp only[Ae]at hr;obtain⟨rfl,hr⟩:=hr;exact⟨hd,hr⟩
 have hcs:cs= #[.slice (some ⟨n,0,none⟩) xs.length cap]:=by
  obtain⟨hsz,hv⟩:=hv;simp only[Bh,Ae]at hv;obtain⟨⟨d,hd,rfl,_⟩,_⟩:=hv;simp at hsz;apply Array.ext_getElem?;intro i;rcases i with _|i
  ·simpa using hd
  ·rw[Array.getElem?_eq_none (by omega),Array.getElem?_eq_none (by simp)]
 subst hcs
 have hH:Sort.Holds (Value.int .i64) w n 0 xs.toArray:=fun j hj=>by
  have hj':j<xs.length:=by simpa using hj
  obtain⟨h5,_⟩:=hcell j xs[j] (Ct hj');refine⟨?_,?_⟩
  ·rw[HA,DY hb,h5]
   simp[getElem!_pos,hj']
  ·rw[HA];exact O8 hb
 refine(hc n cap xs w hH (G.lt hn) (by omega)).mono fun e' w' ⟨he,k,os,hw⟩=>?_
 subst he;have hlen:(xs.mergeSort G9).length=xs.length:=List.length_mergeSort _
 have hheap: ∀m,m<w.heap.size→w'.heap[m]? =if m=n then some (.cells (Sort.putCells (Value.int .i64) 0 (xs.mergeSort G9).toArray c) e (0,0))else w.heap[m]? :=fun m hm=>by
  rw[hw];simp only[Sort.grow,Sort.putRow,Sort.mapBlock,Sort.ahead];rw[Array.getElem?_append_left (by simpa using hm),Array.getElem?_modify];by_cases e1:n=m
  ·subst e1
   rw[if_pos rfl,if_pos rfl,hb];rfl
  ·rw[if_neg e1,if_neg (Ne.symm e1)]
 have hadv:CM Λ σ w (A6 σ n (.arr 1 (iL (xs.mergeSort G9)) cap)) w':=by
  refine⟨fun m hm h0=>?_,?_,by rw[hw];rfl,by rw[hw];rfl,by rw[hw];rfl,fun m h0 _=>?_⟩
  ·rw[hheap m hm,if_neg]
   intro e1;subst e1;rw[hn]at h0;cases h0
  ·rw[hw];simp[Sort.grow]
  ·rw[C5 _ _ (fun e1=>by subst e1;rw[hn]at h0;cases h0)];exact h0
 refine⟨.ret (.t []),A6 σ n (.arr 1 (iL (xs.mergeSort G9)) cap),⟨_,⟨rfl,rfl⟩,?_⟩,?_,?_,hadv⟩
 ·refine⟨fun a ha=>?_,List.pairwise_singleton _ _⟩
  rw[KM.1 ha];exact .inr ⟨n,cap,by simp[hlen],ES _ _ _⟩
 ·exact⟨_,rfl,by simp[Ae,Bh]⟩
 ·refine G.step hadv fun m o ho=>?_
  by_cases e1:m=n
  ·subst e1
   rw[ES]at ho;cases ho;refine .inr ⟨(G.own _ _ hn).1,_,(hheap m (G.lt hn)).trans (if_pos rfl),_,_,rfl,by simpa[Sort.putCells]using h1,by simpa[hlen]using h2,by simpa[hlen]using h3,?_⟩;rw[BQ];intro i r hi;rw[Lc]at hi;cases hx:(xs.mergeSort G9)[i]? with
   | none=>rw[hx]at hi;cases hi
   | some x=>
     rw[hx]at hi;cases hi;have hil:i<xs.length:=by have:=(Hk.1 hx).1;omega
     have hxm:x∈xs:=(List.mergeSort_perm xs G9).mem_iff.1 (B1 hx);obtain⟨j,hj⟩:=List.getElem?_of_mem hxm;have hbd:=(hcell j x hj).2;obtain⟨hci,_⟩:=hcell i xs[i] (Ct hil);have hcl:i<c.size:=(iA.1 hci).1;refine⟨rfl,?_⟩;simp only[Bh,Nat.mul_one,HA,Ae,and_true];refine⟨_,?_,rfl,hbd⟩;simp only[Sort.putCells,Array.getElem?_mapIdx];rw[hci];have hxe:=(Hk.1 hx).2;simp[hlen,hil,getElem!_pos,hxe]
  ·rw[C5 _ _ e1]at ho
   exact .inl ⟨ho,(hheap m (G.lt ho)).trans (if_neg e1)⟩
def dn (xs:List Int) (n len cap:Nat):Bj Tryz.prog 135 [.sl n len cap] [.own (.sl n len cap) 1 (iL xs)] fun r post=>r= .ret (.t [])∧post= [.own (.sl n len cap) 1 (iL (xs.mergeSort G9))]:=
 bC (by kernel_rfl) (fun blk cap zs w h1 h2 h3=>Any.slices_Sort_int Tryz.eX blk 0 cap zs w h1 h2 h3) xs n len cap
end Go.Gl
namespace Go.Gl
open Go.Proofs
attribute [local irreducible] BL A5 Aj AW AN Ai AV AX AO Ah AS AU BA BK Sat Ad BH Al W
def jm:Pure Tryz.prog 206 [.i .u64 0] (eI 0):=by
 refine lu kZ ?_;have hs:=Sn
 conv=>whnf
 repeat'((first|apply st|(apply sq;intro K U)|(apply si;intro A B Y Z)|(apply Y;clear Z B Y A)|(apply U;clear U K)|refine⟨rfl,?_⟩|(constructor<;>intro hc<;>(try rw[hc])<;>(replace hc:=bp hc)<;>try(exfalso;omega))|fail)<;>conv=>whnf)
 refine⟨by decide,?_⟩
 conv=>whnf
 repeat'((first|apply st|(apply Y;clear Z B Y A)|(apply U;clear U K)|refine⟨rfl,?_⟩|fail)<;>conv=>whnf)
 all_goals exact AI rfl
def jn:Pure Tryz.prog 160 [.i .u64 0] (eI 0):=by
 refine mY kZ ?_;have hs:=Sn
 conv=>whnf
 repeat'((first|apply st|(apply sq;intro K U)|(apply si;intro A B Y Z)|(apply Y;clear Z B Y A)|(apply U;clear U K)|refine jm.use ?_|fail)<;>conv=>whnf)
 all_goals exact AI rfl
def jt:Pure Tryz.prog 196 [.l [] true,eI 0,eI 0] (.t []):=by
 refine ly kZ ?_;have hs:=Sn
 conv=>whnf
 repeat'((first|apply st|(apply sq;intro K U)|(apply si;intro A B Y Z)|(apply Y;clear Z B Y A)|(apply U;clear U K)|refine⟨rfl,?_⟩|fail)<;>conv=>whnf)
 refine ED (fun(_:Unit)=>0) (fun _=>[(6,eI 1)]) (fun _=>[]) (fun _=>True) () rfl trivial hs ?_;clear hs;rintro - σ - hs
 conv=>whnf
 repeat'((first|apply st|(apply sq;intro K U)|(apply si;intro A B Y Z)|(apply Y;clear Z B Y A)|(apply U;clear U K)|refine⟨rfl,?_⟩|(constructor<;>intro hc<;>(try rw[hc])<;>(replace hc:=bp hc)<;>try(exfalso;omega))|clear U K)<;>conv=>whnf)
 all_goals exact AI rfl
def jH:Pure Tryz.prog 159 [.l [] true,eI 0,eI 0,eI 0] (.t []):=by
 refine mZ kZ ?_;have hs:=Sn
 conv=>whnf
 repeat'((first|apply st|(apply sq;intro K U)|(apply si;intro A B Y Z)|(apply Y;clear Z B Y A)|(apply U;clear U K)|fail)<;>conv=>whnf)
 refine ED (fun(_:Unit)=>0) (fun _=>[]) (fun _=>[]) (fun _=>True) () rfl trivial hs ?_;clear hs;rintro - σ - hs
 conv=>whnf
 repeat'((first|apply st|(apply sq;intro K U)|(apply si;intro A B Y Z)|(apply Y;clear Z B Y A)|(apply U;clear U K)|refine⟨rfl,?_⟩|refine jt.use ?_|(constructor<;>intro hc<;>(try rw[hc])<;>(replace hc:=bp hc)<;>(try simp(disch:=omega) only[BD,wrap64,AL]at hc)<;>try(exfalso;omega))|clear U K)<;>conv=>whnf)
 all_goals exact AI rfl
def bD:Pure Tryz.prog 135 [.l [] true] (.t []):=by
 refine nC kZ ?_;have hs:=Sn
 conv=>whnf
 repeat'((first|apply st|(apply sq;intro K U)|(apply si;intro A B Y Z)|(apply Y;clear Z B Y A)|(apply U;clear U K)|refine jn.use ?_|refine jH.use ?_|fail)<;>conv=>whnf)
 all_goals exact AI rfl
def ZO {xs:List Int} {v:V} (hv:(B6 v).isSome=true∨(v= .l [] true∧xs= [])):Bj Tryz.prog 135 [v] [.own v 1 (iL xs)] fun r post=>r= .ret (.t [])∧post= [.own v 1 (iL (xs.mergeSort G9))]:=by
 rcases hv with hv|⟨rfl,rfl⟩
 ·obtain⟨n,l,c,rfl⟩:=ZQ hv
  exact dn xs n l c
 ·intro σ hs
  have:=bD.use (σ:=σ) (k:=fun v σ'=>v= .t []∧σ'=σ) (kp:=fun _ _=>False) ⟨rfl,rfl⟩;refine BL.mono this ?_;rintro(u|u) σ' hq
  ·obtain⟨rfl,rfl⟩:=hq
   exact⟨_,⟨rfl,rfl⟩,by simpa using hs⟩
  ·exact hq.elim
def UB {b:Nat} {σ:AH} {sz:Nat} {v:V} {ys:List (List V)} {f:Bool} {K:V→AH→Prop} (h:AN b σ sz v (.l ys f) fun v' σ'=>((B6 v').isSome=true∨(v'=v∧ys= []))→K v' σ'):AN b σ sz v (.l ys f) K:=by
 unfold AN at *;obtain⟨h1,h2,h3⟩:=h;refine⟨h1,h2,?_⟩;cases v with
 | l es full=>exact⟨h3.1,h3.2.1,fun e=>h3.2.2.1 e (.inr ⟨rfl,e⟩),fun e=>⟨(h3.2.2.2 e).1,fun n cap hn hc=>(h3.2.2.2 e).2 n cap hn hc (.inl rfl)⟩⟩
 | sl n len cap=>
   simp only at h3 ⊢;split at h3
   ·exact⟨h3.1,h3.2.1,h3.2.2.1,h3.2.2.2.1,fun n' cap' hn hc=>h3.2.2.2.2 n' cap' hn hc (.inl rfl)⟩
   ·exact h3.elim
 | _=>exact h3.elim
def Q9 (M:List Int):List (V×V):=M.map fun k=>(eI k,.b true)
def Nb (M:List Int) (k:Int):List Int:=if M.contains k then M else M++[k]
def TK (M:List Int) (k b:Int):(Nb M k).contains b=(M.contains b||b==k):=by
 unfold Nb;split
 ·rename_i h
  by_cases hb:b=k
  ·subst hb;simpa using h
  ·have:(b==k)=false:=by simpa using hb
   rw[this,Bool.or_false]
 ·simp[List.contains_append]
  rfl
def Wq (M:List Int) (k:Int):EN (eI k) (.b true) (Q9 M)=Q9 (Nb M k):=by
 induction M with
 | nil=>rfl
 | cons x r ih=>
   simp only[Q9,FC,EN]at *;have he:EP (eI k) (eI x)=(k==x):=rfl;rw[he];cases hx:k==x
   ·rw[cond_false,ih]
    unfold Nb;have:(x::r).contains k=r.contains k:=by rw[List.contains_cons,hx,Bool.false_or]
    rw[this];split<;>simp
   ·rw[cond_true]
    have hk:k=x:=by simpa using hx
    subst hk;unfold Nb;simp
def K4 (M:List Int) (k:Int):found (.b false) false (DH (eI k) (Q9 M))= .b (M.contains k):=by
 induction M with
 | nil=>rfl
 | cons x r ih=>
   simp only[Q9,FC,DH]at *;have he:EP (eI k) (eI x)=(k==x):=rfl;rw[he,List.contains_cons];cases k==x
   ·simpa using ih
   ·rfl
def HY (M:List Int): ∀kv∈Q9 M,Bt (.i .i64) kv.1=true:=by
 intro kv h;obtain⟨e,_,rfl⟩:=Lf.1 h;rfl
def xn {σ:AH} {l:List At} {i mm:Nat} {M:List Int} {k:Int} {K:V→Prop} (hk:K (.b (M.contains k))) (h:Sat σ l:=by assumption)
    (hi:l[i]? =some (.map mm (Q9 M)):=by first|exact Pv|exact Pu|exact Pt|exact Ps|exact Pr|exact Pq):AS σ (.i .i64) (.b false) false (.m mm) (eI k) K:=
 JG h i hi rfl (HY M) (by rw[K4];exact hk)
def vK {σ:AH} {l:List At} {i mm:Nat} {M:List Int} {k:Int} {K:AH→Prop} (hk: ∀σ',Sat σ' (l.set i (.map mm (Q9 (Nb M k))))→K σ') (h:Sat σ l:=by assumption)
    (hi:l[i]? =some (.map mm (Q9 M)):=by first|exact Pv|exact Pu|exact Pt|exact Ps|exact Pr|exact Pq):AU σ (.i .i64) (.m mm) (eI k) (.b true) K:=
 Hv h i hi rfl (HY M) (fun σ' hs=>hk σ' (by rw[Wq]at hs;exact hs))
def Iw (p:Prog) (c:Nat):PT:=p.AP.getD (c - 3) default
def EF (p:Prog) (c:Nat):Nat→List Int
 | 0=>[]
 | k+1=>if JV (A8 p) c (c - k)then EF p c k++(Iw p (c - k)).AT else EF p c k
def jI {ps:List (List Int)} (ho:ordered ps) {n c:Nat} (hc:c<n) (k:Nat): ∀p∈par ps (c - k),0≤p∧p.toNat<(HB ps n c k).length∧p.toNat<c - k:=fun p hp=>by
 have:=ho _ _ hp;rw[Kk];omega
def S4 {ps:List (List Int)} (ho:ordered ps) {n c:Nat} (hc:c<n) (k b:Nat):(HB ps n c (k+1)).getD b false=((HB ps n c k).getD b false||((HB ps n c k).getD (c - k) false&&(par ps (c - k)).contains (b:Int))):=by
 rw[HB,MG _ _ (jI ho hc k)]
def S5 {ps:List (List Int)} (ho:ordered ps) {n c:Nat} (hc:c<n) (k:Nat): ∀(m:Nat) (b:Nat),c - k≤b→(HB ps n c (k+m)).getD b false=(HB ps n c k).getD b false
 | 0,_,_=>rfl
 | m + 1,b,h=>by
   rw[←Nat.add_assoc,S4 ho hc,S5 ho hc k m b h]
   have:(par ps (c - (k+m))).contains (b:Int)=false:=by
    cases hb:(par ps (c - (k+m))).contains (b:Int)
    ·rfl
    ·have:=ho _ _ (List.contains_iff_mem.1 hb)
     omega
   rw[this,Bool.and_false,Bool.or_false]
def Zi {ps:List (List Int)} (ho:ordered ps) {n c:Nat} (hc:c<n) {k:Nat} (hk:k≤c - 2):(HB ps n c k).getD (c - k) false=JV ps c (c - k):=by
 rw[←WN ho hc (c - k),←S5 ho hc k (c - 2 - k) (c - k) (JU _)];congr 2;omega
def O9 (b:Int): ∀(l M:List Int),(l.foldl Nb M).contains b=(M.contains b||l.contains b)
 | [],M=>by simp
 | x::r,M=>by
   rw[List.foldl_cons,O9 b r,TK,List.contains_cons,Bool.or_assoc]
def iU {σ:AH} {l:List At} {i mm:Nat} {M:List Int} {k:Int} {b:Bool} {K:V→Prop} (e:M.contains k=b) (hk:K (.b b)) (h:Sat σ l:=by assumption)
    (hi:l[i]? =some (.map mm (Q9 M)):=by first|exact Pv|exact Pu|exact Pt|exact Ps|exact Pr|exact Pq):AS σ (.i .i64) (.b false) false (.m mm) (eI k) K:=xn (e ▸ hk) h hi
def jv (p : Prog) (c:Nat) (h10:p.AP.length≤10) (hsl:Cp 0 p.AP=true) (hg:Dt (A8 p)=true) (hc3:3≤c) (hc:c<3+p.AP.length) :
    Pure Tryz.prog 210 [.a (BV p),eI c] (.l (iL ((EF p c (c - 2)).mergeSort G9)) false):=by
 refine Pure.fit (by kernel_rfl) fun hf=>?_
 have F:=Jg hf.1;have hM:=Mx;have hG:=Dz hg;have ho:=JP hG;have hgl:(A8 p).length=p.AP.length:=by simp[A8]
 refine lk kZ ?_;have hs:=Sn
 conv=>whnf
 repeat'((first|(apply sq;intro K U)|(apply si;intro A B Y Z)|(apply Y;clear Z B Y A)|(apply U;clear U K)|(intro nn hnn;generalize hg:A6 _ nn _=σ;refine CW hg fun hs=>?_;clear hg)|fail)<;>conv=>whnf)
 replace hs:Sat σ [.map nn (Q9 [])]:=hs
 conv=>whnf
 repeat'((first|apply st|(apply sq;intro K U)|(apply si;intro A B Y Z)|(apply Y;clear Z B Y A)|(apply U;clear U K)|refine vK (fun σ hs=>?_)|fail)<;>conv=>whnf)
 generalize nn=mm at *;replace hs:Sat σ [.map mm (Q9 [(c:Int)])]:=hs
 refine B4 (c - 2) (fun k (x:List Int×V)=>[(6,x.2),(7,eI ((c:Int) - k))]) (fun k x=>[.own x.2 1 (iL (EF p c k)),.map mm (Q9 x.1)])
  (fun k x=>(∀b:Nat,b<3+(A8 p).length→x.1.contains (b:Int)=(HB (A8 p) (3+(A8 p).length) c k).getD b false)∧((B6 x.2).isSome=true∨(x.2= .l [] true∧EF p c k= []))∧(EF p c k).length≤4*k) ([(c:Int)],.l [] true) ?_ ⟨?_,.inr ⟨rfl,rfl⟩,by simp[EF]⟩ (Cx hs 1) ?_
 ·simp[Na,get]
  exact⟨rfl,rfl,rfl⟩
 ·intro b hb
  simp only[HB];rw[EU (by simp;omega)];by_cases hbc:b=c
  ·subst hbc;simp
  ·rw[if_neg hbc]
   have:((c:Int)==(b:Int))=false:=by simp;omega
   simp[DK,List.getElem?_replicate];split<;>simp<;>omega
 clear hs;rintro k ⟨M,v⟩ σ hk ⟨hMb,hv,hml⟩ hs;dsimp only at hMb hv hs;rcases Nat.lt_or_ge k (c - 2)with hlt|hge
 ·have hkc:M.contains ((c:Int) - k)=JV (A8 p) c (c - k):=by
   have:=hMb (c - k) (by omega);rw[Zi ho (by omega) (by omega)]at this;rw[←this];congr 1;omega
  have hcl:p.AP[(IntKind.i64.wrap ((c:Int) - k - 3)).toNat]? =some (Iw p (c - k)):=by
   rw[wrap64 (by omega) (by omega),show((c:Int) - k - 3).toNat=c - k - 3 by omega,Iw,DK,Ct (by omega)];rfl
  have hwi:0≤IntKind.i64.wrap ((c:Int) - k - 3):=by rw[wrap64 (by omega) (by omega)];omega
  have hw1:IntKind.i64.wrap ((c:Int) - k - 1)=(c:Int) - (k+1:Nat):=by rw[wrap64 (by omega) (by omega)];omega
  have hmt:EF p c (k+1)=if JV (A8 p) c (c - k)then EF p c k++(Iw p (c - k)).AT else EF p c k:=rfl
  have hpar:(Iw p (c - k)).parents=par (A8 p) (c - k):=by
   unfold par Iw A8;rw[if_neg (by omega),DK,DK,Lc,Ct (by omega)];rfl
  have hcm:=F.2 _ (B1 hcl);have hs4:=((FP _ _ hsl).2 _ (B1 hcl)).2;have hst:=fun b=>S4 ho (show c<3+(A8 p).length by omega) k b
  rw[Zi ho (by omega) (by omega),←hpar]at hst;generalize Iw p (c - k)=cl at *;cases hb:JV (A8 p) c (c - k)
  ·rw[hb]at hkc hmt hst
   rw[if_neg (by decide)]at hmt
   conv=>whnf
   repeat'((first|apply st|(apply sq;intro K U)|(apply si;intro A B Y Z)|(apply Y;clear Z B Y A)|(apply U;clear U K)|refine⟨rfl,?_⟩|refine iU hkc ?_|(constructor<;>intro hc<;>(try rw[hc])<;>(replace hc:=bp hc)<;>try(exfalso;omega))|clear U K)<;>conv=>whnf)
   all_goals try(exfalso;omega)
   rw[hw1];exact⟨hlt,(M,v),rfl,⟨fun b hb=>by rw[hMb b hb,hst b];simp,by rw[hmt];exact hv,by rw[hmt];omega⟩,by rw[hmt];exact hs⟩
  ·rw [hb] at hkc hmt hst
   rw[if_pos rfl]at hmt
   conv=>whnf
   repeat'((first|apply st|(apply sq;intro K U)|(apply si;intro A B Y Z)|(apply Y;clear Z B Y A)|(apply U;clear U K)|refine⟨rfl,?_⟩|refine FE ?_|refine iU hkc ?_|(constructor<;>intro hc<;>(try rw[hc])<;>(replace hc:=bp hc)<;>try(exfalso;omega))|fail)<;>conv=>whnf)
   all_goals try(exfalso;omega)
   refine UB (HN hs 0 rfl (by omega) Bq fun v' σ hs hv'=>?_);rw[←hmt]at hs
   conv=>whnf
   repeat'((first|apply st|(apply sq;intro K U)|(apply si;intro A B Y Z)|(apply Y;clear Z B Y A)|(apply U;clear U K)|refine⟨rfl,?_⟩|refine FE ?_|fail)<;>conv=>whnf)
   refine B4 cl.parents.length (fun j (_:List Int)=>[(38,eI (A3 j))]) (fun _ M=>[.own v' 1 (iL (EF p c (k+1))),.map mm (Q9 M)]) (fun j M'=>M'=(cl.parents.take j).foldl Nb M) M rfl rfl hs ?_;clear hs;rintro j M' σ hj hM' hs;rcases BE cl.parents hj with⟨q,hq,hjlt⟩|hje
   ·conv=>whnf
    repeat'((first|apply st|(apply sq;intro K U)|(apply si;intro A B Y Z)|(apply Y;clear Z B Y A)|(apply U;clear U K)|refine⟨rfl,?_⟩|refine ix ?_|(refine CA (fun hc=>?_)<;>(try rw[hc])<;>clear hc)|refine vK (fun σ hs=>?_)|clear U K)<;>conv=>whnf)
    exact⟨hjlt,_,rfl,by rw[AQ hq,List.foldl_append,←hM'];rfl,hs⟩
   ·rw [Au hje]at hM'
    conv=>whnf
    repeat'((first|apply st|(apply sq;intro K U)|(apply si;intro A B Y Z)|(apply Y;clear Z B Y A)|(apply U;clear U K)|refine⟨rfl,?_⟩|(refine DU (fun hc=>?_)<;>(try rw[hc])<;>clear hc)|clear U K)<;>conv=>whnf)
    rw[hw1];refine⟨hlt,(M',v'),rfl,⟨fun b hb=>?_,?_,?_⟩,hs⟩
    ·rw[hM',O9,hMb b hb,hst b,Ey]
    ·rcases hv' with hv'|⟨rfl,he⟩
     ·exact .inl hv'
     ·rcases hv with hv|⟨hv,hm0⟩
      ·exact .inl hv
      ·refine .inr ⟨hv,?_⟩
       rw[hmt,hm0,List.map_eq_nil_iff.1 he];rfl
    ·rw[hmt,PR];omega
 ·have hkk:k=c - 2:=by omega
  rw[hkk]at hs hv hml;clear hMb
  conv=>whnf
  repeat'((first|apply st|(apply sq;intro K U)|(apply si;intro A B Y Z)|(apply Y;clear Z B Y A)|(apply U;clear U K)|refine⟨rfl,?_⟩|(constructor<;>intro hc<;>(try rw[hc])<;>(replace hc:=bp hc)<;>try(exfalso;omega))|clear U K)<;>conv=>whnf)
  all_goals try(exfalso;omega)
  refine(ZO hv).use (rest:=[_]) hs ?_;clear hs;rintro r post σ ⟨rfl,rfl⟩ hs
  conv=>whnf
  repeat'((first|(apply sq;intro K U)|(apply si;intro A B Y Z)|(apply Y;clear Z B Y A)|(apply U;clear U K)|fail)<;>conv=>whnf)
  refine(N2 _ v (by rw[List.length_mergeSort];omega)).use (rest:=[_]) hs ?_;clear hs;rintro r post σ ⟨rfl,rfl⟩ hs
  conv=>whnf
  repeat'((first|apply st|(apply Y;clear Z B Y A)|(apply U;clear U K)|fail)<;>conv=>whnf)
  exact BO Np
def Ox {p : Prog} {c:Nat} (s:Int): ∀k,s∈EF p c k↔ ∃j,j<k∧JV (A8 p) c (c - j)=true∧s∈(Iw p (c - j)).AT
 | 0=>by simp[EF]
 | k + 1 =>by
   rw[EF];have ih:=Ox (p:=p) (c:=c) s k;constructor
   ·intro h
    split at h
    ·rename_i hu
     rcases Fo.1 h with h|h
     ·obtain⟨j,h1,h2⟩:=ih.1 h
      exact⟨j,by omega,h2⟩
     ·exact⟨k,by omega,hu,h⟩
    ·obtain⟨j,h1,h2⟩:=ih.1 h
     exact⟨j,by omega,h2⟩
   ·rintro⟨j,h1,h2,h3⟩
    by_cases hj:j=k
    ·subst hj
     rw[if_pos h2];exact Fo.2 (.inr h3)
    ·have:=ih.2 ⟨j,by omega,h2,h3⟩
     split
     ·exact Fo.2 (.inl this)
     ·exact this
def TF: ∀(l:List Int) (n s:Int),KU n l=true→(s∈l↔n≤s∧s<n+l.length)
 | [],n,s,_=>by simp<;>omega
 | x::r,n,s,h=>by
   simp only[KU,BZ,Dn]at h;obtain⟨rfl,h⟩:=h;have:=TF r (x+1) s h;rw[GB,this,La];omega
def QP: ∀(cs:List PT) (i:Nat) (n s:Int),Cp n cs=true→0≤n→ ∀(j:Nat) (c:PT),cs[j]? =some c→(s∈c.AT↔n≤s∧s<n+(Bu cs:Int)∧(BY i cs).getD (s - n).toNat 0=((i+j:Nat):Int)+3)
 | [],_,_,_,_,_,_,_,h=>by cases h
 | d ::r,i,n,s,h,h0,j,c,hj=>by
   simp only[Cp,BZ,CY]at h;obtain⟨-,-,hq,hr⟩:=h;have hm:=TF d.AT n s hq;have hml:(Bu (d::r):Int)=d.AT.length+Bu r:=by simp[Bu]
   have hgd:n≤s→(BY i (d::r)).getD (s - n).toNat 0=if s<n+d.AT.length then(i:Int)+3 else(BY (i+1) r).getD (s - (n+d.AT.length)).toNat 0:=fun hns=>by
    simp only[BY,DK];split
    ·rw[c7 (by simp;omega),List.getElem?_replicate,if_pos (by omega)]
     rfl
    ·rw[List.getElem?_append_right (by simp;omega)]
     congr 2;simp;omega
   have hout: ∀q,q∈BY (i+1) r→(3:Int)+((i+1:Nat):Int)≤q:=fun q hq=>(F4 hq).1
   cases j with
   | zero=>
     simp at hj;subst hj;rw[hm,hml];constructor
     ·rintro⟨h1,h2⟩
      refine⟨h1,by omega,?_⟩;rw[hgd h1,if_pos h2];simp
     ·rintro⟨h1,h2,h3⟩
      refine⟨h1,?_⟩;rw[hgd h1]at h3;by_cases hlt:s<n+d.AT.length
      ·exact hlt
      ·rw[if_neg hlt,DK]at h3
       have hlen:(s - (n+d.AT.length)).toNat<(BY (i+1) r).length:=by rw[Cf];omega
       rw[Ct hlen]at h3;have:=hout _ (List.getElem_mem hlen);simp at h3;omega
   | succ j=>
     simp at hj;have ih:=QP r (i+1) (n+d.AT.length) s hr (by omega) j c hj;rw[ih,hml];constructor
     ·rintro⟨h1,h2,h3⟩
      refine⟨by omega,by omega,?_⟩;rw[hgd (by omega),if_neg (by omega),h3];omega
     ·rintro⟨h1,h2,h3⟩
      rw[hgd h1]at h3;by_cases hlt:s<n+d.AT.length
      ·rw[if_pos hlt]at h3;omega
      ·rw[if_neg hlt]at h3
       exact⟨by omega,by omega,by rw[h3];omega⟩
def bX {p:Prog} {c:Nat} (hsl:Cp 0 p.AP=true) (ho:ordered (A8 p)) (hc3:3≤c) (hc:c<3+p.AP.length) (s:Int) :
    ((EF p c (c - 2)).mergeSort G9).contains s=(decide (0≤s)&&(decide (s<(Bu p.AP:Int))&&hasB (AM p) (c:Int) s)):=by
 rw[Le,List.contains_iff_mem,(List.mergeSort_perm _ G9).mem_iff,Ox];simp only[BZ,CY,hasB]
 have hown: ∀j,j<c - 2→(s∈(Iw p (c - j)).AT↔0≤s∧s<(Bu p.AP:Int)∧CV (AM p) s=((c - j:Nat):Int)):=fun j hj=>by
  have hcl:p.AP[c - j - 3]? =some (Iw p (c - j)):=by
   rw[Iw,DK,Ct (by omega)];rfl
  have:=QP p.AP 0 0 s hsl (by omega) (c - j - 3) _ hcl;rw[this];simp only[Int.sub_zero,Int.zero_add,CV,AM];constructor
  ·rintro⟨h1,h2,h3⟩;exact⟨h1,h2,by rw[h3];omega⟩
  ·rintro⟨h1,h2,h3⟩;exact⟨h1,h2,by rw[h3];omega⟩
 constructor
 ·rintro⟨j,h1,h2,h3⟩
  obtain⟨h4,h5,h6⟩:=(hown j h1).1 h3;refine⟨h4,h5,by omega,?_⟩;rw[h6];simp only[M5,Fz,BZ,CY];exact .inr (.inr ⟨by omega,by simpa[AM]using h2⟩)
 ·rintro⟨h1,h2,h3,h4⟩
  have hmem:CV (AM p) s∈BY 0 p.AP:=by
   have hlen:s.toNat<(BY 0 p.AP).length:=by rw[Cf];omega
   have:CV (AM p) s=(BY 0 p.AP)[s.toNat]:=by
    simp only[CV,AM,DK,Ct hlen];rfl
   rw[this];exact List.getElem_mem hlen
  have hb:=F4 hmem
  have hup:JV (A8 p) c (CV (AM p) s).toNat=true:=by
   simp only[M5,Fz,BZ,CY,Dn]at h4;rcases h4 with h4|h4|⟨_,h4⟩
   ·rw[←h4,IT];exact Fj ho c
   ·omega
   ·simpa[AM]using h4
  have hle:=Zj ho _ _ hup;refine⟨c - (CV (AM p) s).toNat,by omega,?_,?_⟩
  ·rw[show c - (c - (CV (AM p) s).toNat)=(CV (AM p) s).toNat by omega]
   exact hup
  ·refine(hown _ (by omega)).2 ⟨h1,h2,by omega⟩
end Go.Gl
