import Derived.Shelf.Sort.Plain
import Derived.Test.YtijbpgdmpejgoaaGreatProg
import Derived.Test.YtijbpgdmpejgoaaGreatQ11
set_option linter.all false
set_option linter.unusedVariables false
set_option linter.unusedSimpArgs false
namespace Go.Gl
open Go.Proofs
attribute [local irreducible] BQ BJ A5 Ab AQ A4 Ac Af AR Az AW Aa BT Bf Sat An BZ A6 W
theorem yJ (n:Nat) (h:Int):DD Tryz.prog (.f (.func 287) [] [.p n 0]) eI (fun _:Unit=>[.box n [eI h]]) (SO (· != h)) (fun _ _=>True):=by
 intro y s _ σ hs;refine CZ ?_;show BQ Tryz.prog 287 ([]++[eI y]++[.p n 0]) σ _;refine tu nb ?_
 conv=>whnf
 repeat'((first|refine st ?_|(refine sq ?_;intro K U)|(refine si ?_;intro A B Y Z)|(refine Y _ _ ?_;clear Z B Y A)|(refine U _ _ ?_;clear U K)|refine⟨rfl,?_⟩|refine ld ?_|fail)<;>conv=>whnf)
 exact BU hs (List.Sublist.refl _) (.refl _) fun σ' hs'=>⟨rfl,hs'⟩
theorem YV (ls:List (List Int)):SP ls []=false:=rfl
theorem Vj (ls:List (List Int)) (x:Int) (r:List Int):SP ls (x::r)=free ls x:=rfl
theorem Ya {α:Type} {p:α→Bool} {xs:List α} {k:Nat} {x:α} (hx:xs[k]? =some x) (h:(xs.take k).find? p=none):(xs.take (k+1)).find? p=if p x then some x else none:=by
 rw[BF hx,List.find?_append,h];simp only[List.find?_cons,List.find?_nil,Option.none_or];cases p x<;>rfl
theorem YZ {α:Type} {p:α→Bool} {xs:List α} {k:Nat} {x:α} (h:(xs.take k).find? p=some x):xs.find? p=some x:=by
 conv=>lhs;rw[←List.take_append_drop k xs]
 rw[List.find?_append,h];rfl
theorem Wh (ls:List (List Int)):pick ls=(ls.find? (SP ls)).bind List.head? :=rfl
set_option maxHeartbeats 4000000 in
theorem bj (ls:List (List Int)) (f:Bool) (hok:Ub ls) (ht:total ls<Ax):Pure Tryz.prog 283 [.l (Ji ls) f] (.t [.l (iL (DT ls).1) false,.b (DT ls).2]):=by
 have hM:=Mx;refine tx nb ?_;have hs:=Sn
 conv=>whnf
 repeat'((first|refine st ?_|(refine sq ?_;intro K U)|(refine si ?_;intro A B Y Z)|(refine Y _ _ ?_;clear Z B Y A)|(refine U _ _ ?_;clear U K)|fail)<;>conv=>whnf)
 refine NQ (fun(x:List (List Int)×Bool×V×List Int)=>total x.1) (fun x=>[(0,.l (Ji x.1) x.2.1),(4,x.2.2.1)]) (fun x=>[.own x.2.2.1 1 (iL x.2.2.2)])
  (fun x=>Ub x.1∧x.2.2.2.length+total x.1≤total ls∧DO (total x.1) x.1 x.2.2.2=DT ls) (ls,f,.l [] true,[]) rfl ⟨hok,by simp,rfl⟩ (Xd hs 1) ?_
 clear hs;rintro⟨ls',f',v,out⟩ σ ⟨hok',hlen,hm⟩ hs;dsimp only at hok' hlen hm hs;dsimp only;have hol:=hok'.1
 conv=>whnf
 repeat'((first|refine st ?_|(refine sq ?_;intro K U)|(refine si ?_;intro A B Y Z)|(refine Y _ _ ?_;clear Z B Y A)|(refine U _ _ ?_;clear U K)|fail)<;>conv=>whnf)
 refine FR ls'.length (fun k (t:Bool)=>[(5,.b t),(16,eI (Bo k))]) (fun _ _=>[.own v 1 (iL out)]) (fun k t=>(ls'.take k).find? (SP ls')=none∧t=(ls'.take k).any fun l=> !l.isEmpty) false rfl ⟨rfl,rfl⟩ hs ?_;clear hs;rintro k t σ hk ⟨hfd,hta⟩ hs;rcases Bq ls' hk with⟨l,hl,hlt⟩|hke
 ·have hfs:=Ya (p:=SP ls') hl hfd
  have has:((ls'.take (k+1)).any fun l=> !l.isEmpty)=(t|| !l.isEmpty):=by rw[BF hl,List.any_append,←hta];simp
  have hb:=hok'.2 _ (Fo hl);cases l with
  | nil=>
    have hnl:([]:List Int).length=0:=rfl;rw[YV,if_neg (by decide)]at hfs
    conv=>whnf
    repeat'((first|refine st ?_|(refine sq ?_;intro K U)|(refine si ?_;intro A B Y Z)|(refine Y _ _ ?_;clear Z B Y A)|(refine U _ _ ?_;clear U K)|refine⟨rfl,?_⟩|refine ix ?_|(refine FB (fun hc=>?_)<;>(try rw[hc])<;>clear hc)|(constructor<;>intro hc<;>(try rw[hc])<;>(replace hc:=bp hc)<;>(try simp(disch:=omega) only[Ce,wrap64,Ad]at hc)<;>try(exfalso;omega))|clear U K)<;>conv=>whnf)
    exact⟨hlt,_,rfl,⟨hfs,by rw[has];simp⟩,hs⟩
  | cons x r=>
    have hx0:(x::r)[Int.toNat 0]? =some x:=rfl;have hnl:(x::r).length=r.length+1:=rfl;rw[Vj]at hfs;simp only[List.isEmpty_cons,Bool.not_false,Bool.or_true]at has
    conv=>whnf
    repeat'((first|refine st ?_|(refine sq ?_;intro K U)|(refine si ?_;intro A B Y Z)|(refine Y _ _ ?_;clear Z B Y A)|(refine U _ _ ?_;clear U K)|refine⟨rfl,?_⟩|refine ix ?_|(refine FB (fun hc=>?_)<;>(try rw[hc])<;>clear hc)|(constructor<;>intro hc<;>(try rw[hc])<;>(replace hc:=bp hc)<;>(try simp(disch:=omega) only[Ce,wrap64,Ad]at hc)<;>try(exfalso;omega))|fail)<;>conv=>whnf)
    refine FR ls'.length (fun j (_:Unit)=>[(25,eI (Bo j))]) (fun _ _=>[.own v 1 (iL out)]) (fun j _=>free ls' x=(ls'.drop j).all fun m=> !(m.drop 1).contains x) () rfl rfl hs ?_;clear hs;rintro j - σ hj hfr hs;rcases Bq ls' hj with⟨m,hm0,hjlt⟩|hje
    ·have hmb:=(hok'.2 _ (Fo hm0)).1
     rw[drop_cons hm0,List.all_cons]at hfr;cases m with
     | nil=>
       have hml:([]:List Int).length=0:=rfl
       conv=>whnf
       repeat'((first|refine st ?_|(refine sq ?_;intro K U)|(refine si ?_;intro A B Y Z)|(refine Y _ _ ?_;clear Z B Y A)|(refine U _ _ ?_;clear U K)|refine dr ?_|refine⟨rfl,?_⟩|refine ix ?_|(refine FB (fun hc=>?_)<;>(try rw[hc])<;>clear hc)|(constructor<;>intro hc<;>(try rw[hc])<;>(replace hc:=bp hc)<;>(try simp(disch:=omega) only[Ce,wrap64,Ad]at hc)<;>try(exfalso;omega))|clear U K)<;>conv=>whnf)
       exact⟨hjlt,(),rfl,by rw[hfr];rfl,hs⟩
     | cons y s=>
       have hml:(y::s).length=s.length+1:=rfl
       conv=>whnf
       repeat'((first|refine st ?_|(refine sq ?_;intro K U)|(refine si ?_;intro A B Y Z)|(refine Y _ _ ?_;clear Z B Y A)|(refine U _ _ ?_;clear U K)|refine dr ?_|refine⟨rfl,?_⟩|refine ix ?_|(refine FB (fun hc=>?_)<;>(try rw[hc])<;>clear hc)|(constructor<;>intro hc<;>(try rw[hc])<;>(replace hc:=bp hc)<;>(try simp(disch:=omega) only[Ce,wrap64,Ad]at hc)<;>try(exfalso;omega))|fail)<;>conv=>whnf)
       refine bS 1 rfl (by omega) (fun _=>rfl) ?_
       conv=>whnf
       repeat'((first|refine st ?_|(refine si ?_;intro A B Y Z)|(refine Y _ _ ?_;clear Z B Y A)|(refine U _ _ ?_;clear U K)|refine dr ?_|refine⟨rfl,?_⟩|refine Y7 ?_|refine Pure.use (Dc _ _ _) ?_|(constructor<;>intro hc<;>(try rw[hc])<;>(replace hc:=bp hc))|clear U K)<;>conv=>whnf)
       ·rw[hc]at hfr
        have hfr2:free ls' x=false:=by rw[hfr];rfl
        rw[hfr2,if_neg (by decide)]at hfs;exact⟨hlt,true,rfl,⟨hfs,by rw[has]⟩,hs⟩
       ·exact⟨hjlt,(),rfl,by rw[hfr,hc];rfl,hs⟩
    ·rw[Bt hje]at hfr
     have hgood:free ls' x=true:=hfr;rw[hgood,if_pos rfl]at hfs;have hp:pick ls'=some x:=by rw[Wh,YZ hfs];rfl
     have htp:=JQ hp
     conv=>whnf
     repeat'((first|refine st ?_|(refine sq ?_;intro K U)|(refine si ?_;intro A B Y Z)|(refine Y _ _ ?_;clear Z B Y A)|(refine U _ _ ?_;clear U K)|refine⟨rfl,?_⟩|refine Y7 ?_|refine ld ?_|refine s1 fun σ hs=>?_|refine aq fun v σ hs hsl=>?_|(refine F5 (fun hc=>?_)<;>(try rw[hc])<;>clear hc)|(intro nn hnn;generalize hg:BI _ nn _=σ;refine al hg fun hs=>?_;clear hg)|clear U K)<;>conv=>whnf)
     have hs2:Sat σ [.own v 1 (iL (out++[x])),.box nn [eI x]]:=hs;refine FR ls'.length (fun k u=>[(11,u),(50,eI (Bo k))]) (fun k u=>[.own v 1 (iL (out++[x])),.box nn [eI x],.own u 1 (Ji ((ls'.take k).map fun l=>l.filter (· != x)))]) (fun _ _=>True) (.l [] true) rfl trivial (Xd hs2 1) ?_;clear hs hs2;rintro q u σ hq - hs;rcases Bq ls' hq with⟨w,hw,hqlt⟩|hqe
     ·conv=>whnf
      repeat'((first|refine st ?_|(refine sq ?_;intro K U)|(refine si ?_;intro A B Y Z)|(refine Y _ _ ?_;clear Z B Y A)|(refine U _ _ ?_;clear U K)|refine⟨rfl,?_⟩|refine ix ?_|(refine FB (fun hc=>?_)<;>(try rw[hc])<;>clear hc)|fail)<;>conv=>whnf)
      refine(fF 287 [] [.p nn 0] [.box nn [eI x]] (· != x) (yJ nn x) w false).use (rest:=[_,_]) (hs.perm (.swap _ _ _)) ?_;clear hs;rintro rr post σ ⟨rfl,rfl⟩ hs
      conv=>whnf
      repeat'((first|(refine si ?_;intro A B Y Z)|(refine Y _ _ ?_;clear Z B Y A)|(refine U _ _ ?_;clear U K)|refine⟨rfl,?_⟩|refine aq fun v σ hs hsl=>?_|clear U K)<;>conv=>whnf)
      refine⟨hqlt,_,rfl,trivial,?_⟩;rw[BF hw,List.map_append];exact hs.perm (.swap _ _ _)
     ·conv=>whnf
      repeat'((first|refine st ?_|(refine sq ?_;intro K U)|(refine si ?_;intro A B Y Z)|(refine Y _ _ ?_;clear Z B Y A)|(refine U _ _ ?_;clear U K)|refine⟨rfl,?_⟩|(refine F5 (fun hc=>?_)<;>(try rw[hc])<;>clear hc)|clear U K)<;>conv=>whnf)
      rw[Cz hqe]at hs;refine hLet hs 2 rfl fun σ' hs'=>?_
      conv=>whnf
      repeat'((first|refine st ?_|(refine Y _ _ ?_;clear Z B Y A)|(refine U _ _ ?_;clear U K)|clear U K)<;>conv=>whnf)
      refine⟨(ls'.map fun l=>l.filter (· != x),false,v,out++[x]),htp,rfl,⟨hok'.filter x,by simp;omega,?_⟩,hs'.take 1⟩;rw[←Tq hp];exact hm
 ·rw[Cz hke]at hfd hta
  have hp:pick ls'=none:=by rw[Wh,hfd];rfl
  rw[VX hp]at hm
  conv=>whnf
  repeat'((first|refine st ?_|(refine sq ?_;intro K U)|(refine si ?_;intro A B Y Z)|(refine Y _ _ ?_;clear Z B Y A)|(refine U _ _ ?_;clear U K)|refine⟨rfl,?_⟩|(refine F5 (fun hc=>?_)<;>(try rw[hc])<;>clear hc)|clear U K)<;>conv=>whnf)
  refine Dj ?_;rw[←hm];refine .t (.cons (hs.Jk 0 rfl) (.cons ?_ .nil));have:(!t)=ls'.all List.isEmpty:=by rw[hta];simp[List.all_eq_not_any_not]
  rw[←this];exact .refl _
end Go.Gl
namespace Go.Gl
variable {P:Program} {σ:AG}
theorem Sat.wR {l:List At} {a:At} (h:Sat σ (l++[a])):Sat σ (a::l):=h.perm (by
 have:=List.perm_append_comm (l₁:=l) (l₂:=[a])
 simpa using this)
theorem FF {l:List At} (h:Sat σ l) (sz:Nat):Sat σ (.own (.l [] true) sz []::l):=(Xd h sz).wR
theorem kx {l:List At} (h:Sat σ l) {sz:Nat} {es:List (List V)} (hs: ∀e∈es,e.length=sz):Sat σ (.own (.l es true) sz es::l):=(hLit h hs).wR
theorem D8 {l:List At} {o:O} {n:Nat} {K:Prop} {σ':AG} (e:BI σ n o=σ') (hk:Sat σ' (.obj n o::l)→K) (hn:σ n=none:=by assumption) (h:Sat σ l:=by assumption):K:=hk (e ▸ (rN h hn).wR)
theorem JW {α:Type}: ∀ {l:List α} {j:Nat} {a:α},l[j]? =some a→l.Perm (a::l.eraseIdx j)
 | x::r,0,a,h=>by simp at h;subst h;simp
 | x::r,j+1,a,h=>by
   simp only[wQ]at h;simp only[List.eraseIdx_cons_succ];exact((JW h).cons x).trans (.swap _ _ _)
theorem Sat.front {l:List At} {j:Nat} {a:At} (h:Sat σ l) (hj:l[j]? =some a):Sat σ (a::l.eraseIdx j):=h.perm (JW hj)
theorem Sat.back {l:List At} {j:Nat} {a:At} (h:Sat σ (a::l.eraseIdx j)) (hj:l[j]? =some a):Sat σ l:=h.perm (JW hj).symm
theorem Bx.kR {f:FuncId} {args:List V} {a:At} {Φ:R→Prop} (h:Bx P f args [a] fun r post=>Φ r∧post= [a]) {l:List At} {j:Nat} (hs:Sat σ l) (hj:l[j]? =some a) {Q:R→AG→Prop} (hk: ∀r σ',Φ r→Sat σ' l→Q r σ'):BQ P f args σ Q:=by
 refine h.use (rest:=l.eraseIdx j) (hs.front hj) ?_;rintro r post σ' ⟨hr,rfl⟩ hs';exact hk r σ' hr (Sat.back hs' hj)
theorem G4 {l:List At} {i n off:Nat} {vs:List V} {x:V} {K:AG→Prop} (hk: ∀σ',Sat σ' (l.set i (.box n (vs.set off x)))→K σ') (h:Sat σ l:=by assumption)
 (hi:l[i]? =some (.box n vs):=by first|exact UM|exact UL|exact UK|exact UJ|exact UI|exact UH)
 (h1:B7 x=true:=by first|rfl|exact I6 (by assumption) 0 rfl|exact I6 (by assumption) 1 rfl|exact I6 (by assumption) 2 rfl|exact I6 (by assumption) 3 rfl|(simp<;>fail)) (ho:off+1≤vs.length:=by exact Nat.le_of_ble_eq_true rfl):Af σ 1 (.p n off) x K:=
 Mo h i hi h1 ho hk
theorem GM {l:List At} {i n off sz:Nat} {vs vc:List V} {x:V} {K:AG→Prop} (hk: ∀σ',Sat σ' (l.set i (.box n (putAt vs off vc)))→K σ') (h:Sat σ l:=by assumption)
 (hi:l[i]? =some (.box n vs):=by first|exact UM|exact UL|exact UK|exact UJ|exact UI|exact UH)
 (hc:cellsOf x=some vc:=by rfl) (hl:vc.length=sz:=by rfl) (h1:vc.all B7=true:=by first|rfl|(simp<;>fail)|(simp[*]<;>fail)) (ho:off+sz≤vs.length:=by exact Nat.le_of_ble_eq_true rfl):Af σ sz (.p n off) x K:=
 Uz h i hi hc hl h1 ho hk
theorem Y8 {sz m n o:Nat} {ki:IntKind} {j:Int} {K:V→Prop} (h:K (.p n (o+j.toNat*sz))) (h0:0≤j:=by omega) (h1:j<m:=by omega):Ab sz (some m) (.p n o) (.i ki j) K:=⟨h0,h1,h⟩
theorem wK {sz m:Nat} {cs:List V} {ki:IntKind} {j:Int} {K:V→Prop} (h:K (.rp (cs.drop (j.toNat*sz)))) (h0:0≤j:=by omega) (h1:j<m:=by omega):Ab sz (some m) (.rp cs) (.i ki j) K:=⟨h0,h1,h⟩
theorem sa {l:List At} (h:Sat σ l) (i:Nat) {v:V} {sz:Nat} {es es':List (List V)} (hi:l[i]? =some (.own v sz es)) (he: ∀σ2,Fq σ σ2 es es'): ∃σ2,Sub σ2 σ∧F6 σ σ2 v (.l es' false)∧Sat σ2 (l.eraseIdx i):=by
 rcases h.get hi with⟨rfl,_⟩|⟨n,cap,rfl,hn⟩
 ·exact⟨σ,fun _ _ h=>h,.l (fun h=>(by cases h)) (he _),h.less (List.eraseIdx_sublist _ _)⟩
 ·refine⟨del σ n,FI σ n,.arr hn (DI σ n) rfl (he _),?_⟩
  refine⟨fun b hb=>?_,h.2.sublist (List.eraseIdx_sublist _ _)⟩;refine FD (h.1 b (List.mem_of_mem_eraseIdx hb)) fun m hm=>?_
  rw[GF];intro e;subst e;exact ES h.2 hi b hb m rfl hm
theorem wq {l:List At} (h:Sat σ l) {sz:Nat} {z:List V} {n m:Nat} {K:V→AG→Prop} (hnm:n≤m) (hn:m≤1073741824) (hk: ∀v σ',Sat σ' (.own v sz (List.replicate n z)::l)→(∃id,v= .sl id n m)→K v σ') {ki kj:IntKind} :
 AR σ sz z (.i ki (n:Int)) (.i kj (m:Int)) K:=by
 refine⟨by omega,by omega,by omega,fun id hid=>?_⟩;simp only[Int.toNat_natCast];refine hk _ _ (h.add (a:= .own (.sl id n m) sz (List.replicate n z)) (fun b hb=>FD hb fun m hm=>?_) (fun b hb m hm hb'=>?_) (.inr ⟨id,m,by simp,by simp[BI]⟩)).wR ⟨id,rfl⟩
 ·obtain⟨o,ho⟩:=DH hb hm
  rw[Cf];intro e;subst e;rw[hid]at ho;cases ho
 ·cases hm
  obtain⟨o,ho⟩:=DH hb hb';rw[hid]at ho;cases ho
theorem Zn {σ:AG} {l:List At} {i:Nat} {v:V} {sz:Nat} {es:List (List V)} (hs:Sat σ l) (hi:l[i]? =some (.own v sz es)) (he: ∀e∈es,e.length=sz) (hm:es.length≤Ax) {K:V→AG→Prop} (hk: ∀σ',Sat σ' (l.eraseIdx i)→K (.l es true) σ'):Ac σ sz v none (some (.i .i64 (es.length:Int))) (some (.i .i64 (es.length:Int))) K:=by
 rcases hs.get hi with⟨rfl,_⟩|⟨n,cap,rfl,hn⟩
 ·refine⟨he,?_⟩
  simp only[Oh];refine⟨Int.le_refl _,Int.natCast_nonneg _,Int.le_refl _,trivial,?_⟩;have:=hk σ (hs.less (List.eraseIdx_sublist _ _));simpa using this
 ·unfold Ac
  simp only[Oh];refine⟨Int.le_refl _,Int.natCast_nonneg _,Int.le_refl _,trivial,trivial,trivial,?_⟩;rw[hn];refine⟨rfl,rfl,rfl,.inl (hk _ ?_)⟩;refine⟨fun b hb=>?_,hs.2.sublist (List.eraseIdx_sublist _ _)⟩;refine FD (hs.1 b (List.mem_of_mem_eraseIdx hb)) fun m hm=>?_
  rw[GF];intro e;subst e;exact ES hs.2 hi b hb m rfl hm
end Go.Gl
namespace Go.Gl
open Go.Proofs
attribute [local irreducible] BQ BJ A5 Ab AQ A4 Ac Af AR Az AW Aa BT Bf Sat An BZ A6 W
abbrev Ord:=Int×V×List Int
def dA (e:Ord):V×V:=(eI e.1,e.2.1)
def Y9 (e:Ord):At:= .own e.2.1 1 (iL e.2.2)
abbrev pL (ps:List (List Int×Bool)):List (List V):=ps.map fun p=>[.l (iL p.1) p.2]
abbrev gH (n mm:Nat) (vp vu:V) (ps:List (List Int×Bool)) (us:List Nat) (M:List Ord):List At:=
 .box n [vp,vu,.m mm]:: .own vp 1 (pL ps):: .own vu 1 (us.map fun u=>[eU u]):: .map mm (M.map dA)::M.map Y9
def B1 (M:List Ord) (c:Int):List Int:=((M.find? fun e=>c==e.1).map fun e=>e.2.2).getD []
def Hi (M:List Ord) (c:Int):V:=((M.find? fun e=>c==e.1).map fun e=>e.2.1).getD (.l [] true)
theorem br (M:List Ord) (c:Int):found (.l [] true) false (CR (eI c) (M.map dA))=Hi M c:=by
 induction M with
 | nil=>rfl
 | cons e r ih=>
   simp only[List.map_cons,dA,CR,Hi,List.find?_cons]at *;have he:DX (eI c) (eI e.1)=(c==e.1):=rfl;rw[he];cases c==e.1
   ·exact ih
   ·rfl
theorem Uv (M:List Ord): ∀kv∈M.map dA,BM (.i .i64) kv.1=true:=by
 intro kv h;obtain⟨e,_,rfl⟩:=Oe.1 h;rfl
theorem ep {M:List Ord} {c:Int} (v:V) (l:List Int) (h: ∀e∈M,e.1≠c):DW (eI c) v (M.map dA)=(M++[(c,v,l)]).map dA:=by
 induction M with
 | nil=>rfl
 | cons e r ih=>
   simp only[List.map_cons,List.cons_append,dA,DW];have he:DX (eI c) (eI e.1)=(c==e.1):=rfl;rw[he,beq_false_of_ne (fun e'=>h e (.head _) e'.symm)];simp only[cond_false];rw[ih fun e he=>h e (.tail _ he)]
theorem Na (M:List Ord) (c:Int):(B1 M c= []∧Hi M c= .l [] true)∨ ∃j:Nat,(M.map Y9)[j]? =some (At.own (Hi M c) 1 (iL (B1 M c))):=by
 unfold B1 Hi;cases h:M.find? fun e=>c==e.1 with
 | none=>exact .inl ⟨rfl,rfl⟩
 | some e=>
   refine .inr ?_;obtain⟨j,hj⟩:=List.getElem?_of_mem (List.mem_of_find?_eq_some h);refine⟨j,?_⟩;rw[Rv,hj];rfl
theorem Nb {M:List Ord} {c:Int} {σ:AG} {fx:List At} (hs:Sat σ (fx++M.map Y9)) (hl:(B1 M c).length≤Ax) {K:V→Prop} (hk:K (.i .i64 (B1 M c).length)):BZ (Hi M c) K:=by
 rcases Na M c with⟨h1,h2⟩|⟨j,hj⟩
 ·rw[h2]
  rw[h1]at hk;exact NI hk
 ·have hj':(fx++M.map Y9)[fx.length+j]? =some (At.own (Hi M c) 1 (iL (B1 M c))):=by
   rw[List.getElem?_append_right (by omega),Nat.add_sub_cancel_left,hj]
  exact wu hs _ hj' (by simpa using hl) (by simpa using hk)
theorem lkO {σ:AG} {l:List At} {i mm:Nat} {M:List Ord} {c:Int} {K:V→Prop} (hk:K (Hi M c)) (h:Sat σ l:=by assumption)
 (hi:l[i]? =some (.map mm (M.map dA)):=by first|exact UM|exact UL|exact UK|exact UJ|exact UI|exact UH):AW σ (.i .i64) (.l [] true) false (.m mm) (eI c) K:=
 RH h i hi rfl (Uv M) (by rw[br];exact hk)
theorem yj {M:List Ord} {c:Int} {σ:AG} {fx:List At} (hs:Sat σ (fx++M.map Y9)) (hl:(B1 M c).length≤Ax) (hne:B1 M c≠[]) {k kp:V→AG→Prop} (hk: ∀σ',Sat σ' (fx++M.map Y9)→k (.l (iL ((B1 M c).filter (· != 0))) false) σ'):BQ Tryz.prog 285 [Hi M c] σ (qk k kp):=by
 rcases Na M c with⟨h1,h2⟩|⟨j,hj⟩
 ·exact absurd h1 hne
 ·have hj':(fx++M.map Y9)[fx.length+j]? =some (At.own (Hi M c) 1 (iL (B1 M c))):=by
   rw[List.getElem?_append_right (by omega),Nat.add_sub_cancel_left,hj]
  refine(cZ (B1 M c) (Hi M c) hl).kR hs hj' ?_;rintro r σ' rfl hs';exact hk σ' hs'
theorem Te {σ σ2:AG}: ∀ {a a' b b':List (List V)},Fq σ σ2 a a'→Fq σ σ2 b b'→Fq σ σ2 (a++b) (a'++b')
 | [],[],_,_,.nil,h=>h
 | _::_,_::_,_,_,.cons h1 h2,h=> .cons h1 (Te h2 h)
theorem bo (n mm:Nat) (vp vu:V) (ps:List (List Int×Bool)) (us:List Nat) (M:List Ord) (c:Int) (l:List Int) (b:Bool) (hc0:0≤c) (hl:ps[c.toNat]? =some (l,b)) (hll:l.length≤3) (hol: ∀c,(B1 M c).length≤Ax) :
 Bx Tryz.prog 282 [.p n 0,eI c] (gH n mm vp vu ps us M) fun r post=>r= .ret (if l.any fun p=>(B1 M p).isEmpty then .t [.l [] true,.b false]else .t [.l (Ji (l.map (fun p=>(B1 M p).filter (· != 0))++[l])) false,.b true])∧post=gH n mm vp vu ps us M:=by
 intro σ hs;have hM:=Mx;have hci:c<ps.length:=by have:=(List.getElem?_eq_some_iff.1 hl).1;omega
 refine tz nb ?_
 conv=>whnf
 repeat'((first|refine st ?_|(refine sq ?_;intro K U)|(refine si ?_;intro A B Y Z)|(refine Y _ _ ?_;clear Z B Y A)|(refine U _ _ ?_;clear U K)|refine ld ?_|refine oi ?_|refine wS ?_|fail)<;>conv=>whnf)
 refine FR l.length (fun k v=>[(6,v),(17,eI (Bo k))]) (fun k v=> .own v 1 (Ji ((l.take k).map fun p=>(B1 M p).filter (· != 0)))::gH n mm vp vu ps us M) (fun k _=>((l.take k).any fun p=>(B1 M p).isEmpty)=false) (.l [] true) rfl rfl (FF hs 1) ?_;clear hs;rintro k v σ hk hne hs;rcases Bq l hk with⟨p,hp,hlt⟩|hke
 ·have han:((l.take (k+1)).any fun p=>(B1 M p).isEmpty)=(B1 M p).isEmpty:=by rw[BF hp,List.any_append,hne];simp
  have hap:(l.take k).length≤3:=by rw[UD];omega
  conv=>whnf
  repeat'((first|refine st ?_|(refine sq ?_;intro K U)|(refine si ?_;intro A B Y Z)|(refine Y _ _ ?_;clear Z B Y A)|(refine U _ _ ?_;clear U K)|refine⟨rfl,?_⟩|refine ix ?_|refine ld ?_|(refine FB (fun hc=>?_)<;>(try rw[hc])<;>clear hc)|refine lkO ?_|refine Nb (fx:=_::_::_::_::_:: []) hs (hol _) ?_|(constructor<;>intro hc<;>(try rw[hc])<;>(replace hc:=bp hc))|clear U K)<;>conv=>whnf)
  ·have h0:(B1 M p).isEmpty=true:=by rw[List.isEmpty_iff_length_eq_zero];omega
   have hany:(l.any fun p=>(B1 M p).isEmpty)=true:=List.any_eq_true.2 ⟨p,Fo hp,h0⟩;refine BU (l':=gH n mm vp vu ps us M) hs (List.sublist_cons_self _ _) (.refl _) fun σ' hs'=>⟨_,⟨?_,rfl⟩,hs'⟩
   rw[if_pos hany]
  ·have h0:(B1 M p).isEmpty=false:=by
    cases h:(B1 M p).isEmpty
    ·rfl
    ·rw[List.isEmpty_iff_length_eq_zero]at h;omega
   refine yj (fx:=_::_::_::_::_:: []) hs (hol _) (fun e=>by rw[e]at h0;cases h0) fun σ hs=>?_
   conv=>whnf
   repeat'((first|(refine si ?_;intro A B Y Z)|(refine Y _ _ ?_;clear Z B Y A)|(refine U _ _ ?_;clear U K)|refine⟨rfl,?_⟩|refine aq fun v σ hs hsl=>?_|clear U K)<;>conv=>whnf)
   refine⟨hlt,_,rfl,by rw[han];exact h0,?_⟩;rw[BF hp,List.map_append];exact hs
 ·rw[Cz hke]at hne hs
  conv=>whnf
  repeat'((first|refine st ?_|(refine sq ?_;intro K U)|(refine si ?_;intro A B Y Z)|(refine Y _ _ ?_;clear Z B Y A)|(refine U _ _ ?_;clear U K)|refine⟨rfl,?_⟩|refine ld ?_|refine oi ?_|refine wS ?_|(refine F5 (fun hc=>?_)<;>(try rw[hc])<;>clear hc)|clear U K)<;>conv=>whnf)
  refine hAppend hs 0 rfl (by simp;omega) (fun e he=>by simp at he;subst he;rfl) (fun e he v hv=>by simp at he;subst he;simp at hv;subst hv;rfl) fun v σ hs=>?_
  conv=>whnf
  repeat'((first|refine st ?_|(refine Y _ _ ?_;clear Z B Y A)|(refine U _ _ ?_;clear U K)|fail)<;>conv=>whnf)
  obtain⟨σ2,h1,h2,h3⟩:=sa (es':=Ji (l.map (fun p=>(B1 M p).filter (· != 0))++[l])) hs 0 rfl fun σ2=>by
   have e:Ji (l.map (fun p=>(B1 M p).filter (· != 0))++[l])=Ji (l.map fun p=>(B1 M p).filter (· != 0))++[[.l (iL l) false]]:=by simp only[Ji,List.map_append,List.map_cons,List.map_nil]
   rw[e];exact Te (Ig _) (.cons (.cons Zk .nil) .nil)
  refine KB h1 (.t (.cons h2 (.cons (.refl _) .nil))) ⟨_,⟨?_,rfl⟩,h3⟩;rw[hne,if_neg (by decide)]
theorem Sat.rot2 {σ:AG} {l:List At} {a:At} (h:Sat σ (a::l)):Sat σ (l++[a]):=h.perm (by
 have:=List.perm_append_comm (l₁:=[a]) (l₂:=l)
 simpa using this)
def Cx (M:List Ord) (l:List Int):List (List Int):=l.map (fun p=>(B1 M p).filter (· != 0))++[l]
def F7 (M:List Ord) (l:List Int) (c:Int):List Int:=
 if c=0 then [0]else if l.any (fun p=>(B1 M p).isEmpty)then []else if(DT (Cx M l)).2 then [c]++(DT (Cx M l)).1++[0]else []
theorem Wz (n mm:Nat) (vp vu:V) (ps:List (List Int×Bool)) (us:List Nat) (M:List Ord) {c:Int} {v:V} {l:List Int} (hk: ∀e∈M,e.1≠c) {σ:AG}
 (hs:Sat σ (.own v 1 (iL l):: .box n [vp,vu,.m mm]:: .own vp 1 (pL ps):: .own vu 1 (us.map fun u=>[eU u]):: .map mm (DW (eI c) v (M.map dA))::M.map Y9)):Sat σ (gH n mm vp vu ps us (M++[(c,v,l)])):=by
 rw[ep v l hk]at hs;have:=hs.rot2;unfold gH;rw[List.map_append (f:=Y9)];exact this
theorem bY (n mm:Nat) (vp vu:V) (ps:List (List Int×Bool)) (us:List Nat) (M:List Ord) (c:Int) (l:List Int) (b:Bool) (hc0:0≤c) (hl:ps[c.toNat]? =some (l,b)) (hll:l.length≤3) (hol: ∀c,(B1 M c).length≤Ax) (hk: ∀e∈M,e.1≠c)
 (hok:Ub (Cx M l)) (ht:total (Cx M l)<1000000000) :
 Bx Tryz.prog 271 [.p n 0,eI c] (gH n mm vp vu ps us M) fun r post=>r= .ret (.t [])∧ ∃M',post=gH n mm vp vu ps us M'∧((M'=M∧F7 M l c= [])∨ ∃v,M'=M++[(c,v,F7 M l c)]∧F7 M l c≠[]):=by
 intro σ hs;have hM:=Mx;refine uI nb ?_;by_cases hc:c=0
 ·subst hc
  conv=>whnf
  repeat'((first|refine st ?_|(refine sq ?_;intro K U)|(refine si ?_;intro A B Y Z)|(refine Y _ _ ?_;clear Z B Y A)|(refine U _ _ ?_;clear U K)|refine⟨rfl,?_⟩|refine ld ?_|(constructor<;>intro hc<;>(try rw[hc])<;>(replace hc:=bp hc)<;>(try simp(disch:=omega) only[Ce,wrap64,Ad]at hc)<;>try(exfalso;omega))|fail)<;>conv=>whnf)
  refine J2 hs 3 rfl rfl (Uv M) fun σ hs=>?_
  conv=>whnf
  repeat'((first|refine st ?_|(refine Y _ _ ?_;clear Z B Y A)|(refine U _ _ ?_;clear U K)|clear U K)<;>conv=>whnf)
  refine BU (l':=gH n mm vp vu ps us (M++[(0,.l [[eI 0]] true,[0])])) ?_ (List.Sublist.refl _) (.refl _) fun σ' hs'=>⟨_,⟨rfl,_,rfl,.inr ⟨.l [[eI 0]] true,?_,?_⟩⟩,hs'⟩
  ·refine Wz n mm vp vu ps us M hk ?_
   exact kx hs (fun e he=>by simp at he;subst he;rfl)
  ·rw[F7,if_pos rfl]
  ·rw[F7,if_pos rfl];exact fun e=>by cases e
 ·have hoc:F7 M l c=if l.any (fun p=>(B1 M p).isEmpty)then []else if(DT (Cx M l)).2 then [c]++(DT (Cx M l)).1++[0]else []:=by rw[F7,if_neg hc]
  have hli:=bo n mm vp vu ps us M c l b hc0 hl hll hol;have hmg:=bj (Cx M l) false hok (by omega);have hml:=JZ (total (Cx M l)) (Cx M l) [];have hml2:(DT (Cx M l)).1.length≤total (Cx M l):=by simpa[DT]using hml
  cases hany:l.any fun p=>(B1 M p).isEmpty
  ·rw[hany,if_neg (by decide)]at hoc
   simp only[hany,Ls,if_false]at hli;have hdn: ∀ {σ:AG} {M':List Ord},Sat σ (gH n mm vp vu ps us M')→((M'=M∧F7 M l c= [])∨ ∃v,M'=M++[(c,v,F7 M l c)]∧F7 M l c≠[])→BJ σ (.t []) fun r σ'=> ∃post,(r= .ret (.t [])∧ ∃M',post=gH n mm vp vu ps us M'∧((M'=M∧F7 M l c= [])∨ ∃v,M'=M++[(c,v,F7 M l c)]∧F7 M l c≠[]))∧Sat σ' post:=fun hs h=>BU hs (List.Sublist.refl _) (.refl _) fun σ' hs'=>⟨_,⟨rfl,_,rfl,h⟩,hs'⟩
   conv=>whnf
   repeat'((first|refine st ?_|(refine sq ?_;intro K U)|(refine si ?_;intro A B Y Z)|(refine Y _ _ ?_;clear Z B Y A)|(refine U _ _ ?_;clear U K)|refine⟨rfl,?_⟩|(constructor<;>intro hc<;>(try rw[hc])<;>(replace hc:=bp hc)<;>try(exfalso;omega))|fail)<;>conv=>whnf)
   refine hli.use (rest:=[]) (by simpa using hs) ?_;clear hs;rintro r post σ ⟨rfl,rfl⟩ hs;rw[List.append_nil]at hs;have hml3:(Cx M l)=l.map (fun p=>(B1 M p).filter (· != 0))++[l]:=rfl;rw[←hml3];generalize Cx M l=ll at *;cases hb:(DT ll).2<;>rw[hb]at hmg hoc
   ·conv=>whnf
    repeat'((first|refine st ?_|(refine sq ?_;intro K U)|(refine si ?_;intro A B Y Z)|(refine Y _ _ ?_;clear Z B Y A)|(refine U _ _ ?_;clear U K)|refine G5 ?_|refine Pure.use (by assumption) ?_|fail)<;>conv=>whnf)
    exact hdn hs (.inl ⟨rfl,by rw[hoc];rfl⟩)
   ·rw[if_pos rfl]at hoc
    conv=>whnf
    repeat'((first|refine st ?_|(refine sq ?_;intro K U)|(refine si ?_;intro A B Y Z)|(refine Y _ _ ?_;clear Z B Y A)|(refine U _ _ ?_;clear U K)|refine dr ?_|refine ld ?_|refine G5 ?_|refine Pure.use (by assumption) ?_|fail)<;>conv=>whnf)
    replace hs:=kx hs (sz:=1) (es:=[[eI c]]) (fun e he=>by simp at he;subst he;rfl);refine PD hs 0 (xs:=[c]) (ys:=(DT ll).1) rfl (by simp;omega) FK fun v σ hs=>?_
    conv=>whnf
    repeat'((first|refine dr ?_|refine rk ?_ ?_|exact fun s e=>by cases e;rfl|refine ld ?_|refine aq fun v σ hs hsl=>?_|fail)<;>conv=>whnf)
    refine J2 hs 4 rfl rfl (Uv M) fun σ hs=>?_
    conv=>whnf
    repeat'((first|(refine Y _ _ ?_;clear Z B Y A)|refine dr ?_|fail)<;>conv=>whnf)
    refine hdn (Wz n mm vp vu ps us M hk (l:=F7 M l c) ?_) (.inr ⟨v,rfl,by rw[hoc];simp⟩);rw[hoc];exact hs
  ·rw[hany,if_pos rfl]at hoc
   simp only[hany,if_true]at hli
   conv=>whnf
   repeat'((first|refine st ?_|(refine sq ?_;intro K U)|(refine si ?_;intro A B Y Z)|(refine Y _ _ ?_;clear Z B Y A)|(refine U _ _ ?_;clear U K)|refine⟨rfl,?_⟩|(constructor<;>intro hc<;>(try rw[hc])<;>(replace hc:=bp hc)<;>try(exfalso;omega))|fail)<;>conv=>whnf)
   refine hli.use (rest:=[]) (by simpa using hs) ?_;clear hs;rintro r post σ ⟨rfl,rfl⟩ hs;rw[List.append_nil]at hs
   conv=>whnf
   repeat'((first|refine st ?_|(refine sq ?_;intro K U)|(refine si ?_;intro A B Y Z)|(refine Y _ _ ?_;clear Z B Y A)|(refine U _ _ ?_;clear U K)|refine MM ?_|clear U K)<;>conv=>whnf)
   exact BU hs (List.Sublist.refl _) (.refl _) fun σ' hs'=>⟨_,⟨rfl,_,rfl,.inl ⟨rfl,hoc⟩⟩,hs'⟩
end Go.Gl
namespace Go.Gl
theorem X8 {M:List Ord} {k:Int} {v:V} {o:List Int} (h: ∀e∈M,e.1<k) (d:Int):B1 (M++[(k,v,o)]) d=if d=k then o else B1 M d:=by
 unfold B1;rw[List.find?_append];split
 ·rename_i e
  have:M.find? (fun e=>d==e.1)=none:=by
   rw[List.find?_eq_none];intro x hx;have:=h x hx;simp;omega
  rw[this];simp[e]
 ·rename_i e
  cases hf:M.find? fun e=>d==e.1 with
  | some x=>simp
  | none=>simp[List.find?_cons,e]
structure HY (g:List (List Int)) (k:Nat) (M:List Ord):Prop where
 keys: ∀e∈M,0≤e.1∧e.1<(k:Int)
 ZN: ∀d:Int,0≤d→d<k→B1 M d=(Da g).getD d.toNat []
theorem S1 {g:List (List Int)} {k:Nat} {M:List Ord} (h:HY g k M) {d:Int} (hd:d<0∨(k:Int)≤d):B1 M d= []:=by
 unfold B1
 have:M.find? (fun e=>d==e.1)=none:=by
  rw[List.find?_eq_none];intro x hx;have:=h.keys x hx;simp;omega
 rw[this];rfl
theorem KN {g:List (List Int)} (hg:Jr g) {k:Nat} {M:List Ord} (h:HY g k M) (d:Int):(B1 M d).length≤71744535∧ ∀x∈B1 M d,(0:Int)≤x:=by
 by_cases hd:d<0∨(k:Int)≤d
 ·rw[S1 h hd]
  exact⟨by simp,fun x hx=>by cases hx⟩
 ·rw[h.ZN d (by omega) (by omega)]
  have hb:=Kj hg (2+g.length);have hl:=j5 (k:=2+g.length) (by have:=hg.1;omega);unfold Da;exact⟨TG (fun o ho=>Nat.le_trans (hb o ho).1 hl) _,TF (fun o ho=>(hb o ho).2) _⟩
theorem YF {g:List (List Int)} (hg:Jr g) {k:Nat} {M:List Ord} (h:HY g k M) {l:List Int} (hl:l.length≤3) (h0: ∀x∈l,(0:Int)≤x):Ub (Cx M l)∧total (Cx M l)<1000000000:=by
 have hM:Ax=17592186044416:=rfl;have hf: ∀p,((B1 M p).filter (· != 0)).length≤71744535:=fun p=>Nat.le_trans (List.length_filter_le _ _) (KN hg h p).1
 have ht: ∀l:List Int,total (l.map fun p=>(B1 M p).filter (· != 0))≤l.length*71744535:=by
  intro l
  induction l with
  | nil=>simp[total]
  | cons p r ih=>
    simp only[total,List.map_cons,List.sum_cons,Mu]at *;have:=hf p;rw[Nat.add_mul];omega
 refine⟨⟨by simp[Cx];omega,fun m hm=>?_⟩,?_⟩
 ·rcases FQ.1 hm with hm|hm
  ·obtain⟨p,_,rfl⟩:=Oe.1 hm
   refine⟨by have:=hf p;omega,fun x hx=>(KN hg h p).2 x (Mt.1 hx).1⟩
  ·rw[List.mem_singleton.1 hm]
   exact⟨by omega,h0⟩
 ·have h1:=ht l
  have h2:total (Cx M l)=total (l.map fun p=>(B1 M p).filter (· != 0))+l.length:=by simp[Cx,total]
  have h3:=Nat.mul_le_mul_right 71744535 hl;omega
theorem eQ {g:List (List Int)} {k:Nat} {M:List Ord} (h:HY g (k+1) M) {l:List Int} (hl:l=Be g ((k:Int)+1)) (hp: ∀p∈l,(0:Int)≤p∧p<(k:Int)+1) (hk:k+1<3+g.length) :
 F7 M l ((k:Int)+1)=HF g (CN g k) ((k:Int)+1):=by
 have ho: ∀p∈l,B1 M p=(CN g k).getD p.toNat []:=fun p hpl=>by
  obtain⟨h0,h1⟩:=hp p hpl;rw[h.ZN p h0 (by omega)];unfold Da;rw[FA,FA,ER (k:=2+g.length) (j:=p.toNat) (by omega),ER (k:=k) (j:=p.toNat) (by omega)]
 have e1:(l.any fun p=>(B1 M p).isEmpty)=(l.any fun p=>((CN g k).getD p.toNat []).isEmpty):=by
  rw[Bool.eq_iff_iff,List.any_eq_true,List.any_eq_true];constructor
  ·rintro⟨p,h1,h2⟩;exact⟨p,h1,by rw[←ho p h1];exact h2⟩
  ·rintro⟨p,h1,h2⟩;exact⟨p,h1,by rw[ho p h1];exact h2⟩
 have e2:Cx M l=l.map (fun p=>((CN g k).getD p.toNat []).filter (· != 0))++[l]:=by
  unfold Cx;congr 1;exact List.map_congr_left fun p hpl=>by rw[ho p hpl]
 unfold F7 HF J1;rw[if_neg (by omega),e1,e2,←hl];split<;>rfl
theorem HY.nil {g:List (List Int)}:HY g 0 []:=⟨fun e h=>(by cases h),fun d h0 h1=>by omega⟩
theorem HY.step {g:List (List Int)} {k:Nat} {M M':List Ord} (h:HY g k M) {l:List Int} (hl:l=Be g (k:Int)) (hp: ∀p∈l,(0:Int)≤p∧p<(k:Int)) (hk:k<3+g.length)
 (hM:(M'=M∧F7 M l k= [])∨ ∃v,M'=M++[((k:Int),v,F7 M l k)]∧F7 M l k≠[]):HY g (k+1) M':=by
 have hc:F7 M l k=(Da g).getD k []:=by
  cases k with
  | zero=>
    unfold F7 Da;rw[if_pos (by simp),FA,ER (j:=0) (by omega)];rfl
  | succ k=>
    have:=eQ h (by simpa using hl) (fun p hpl=>by have:=hp p hpl;simpa using this) hk;have e:((k+1:Nat):Int)=(k:Int)+1:=by omega
    rw[e,this];unfold Da;rw[FA,ER (k:=2+g.length) (j:=k+1) (by omega),CN,List.getElem?_append_right (by rw[FO];omega),FO,Nat.sub_self];rfl
 rcases hM with⟨rfl,he⟩|⟨v,rfl,_⟩
 ·refine⟨fun e he=>by have:=h.keys e he;omega,fun d h0 h1=>?_⟩
  by_cases hd:d=k
  ·subst hd
   rw[S1 h (by omega)];rw[Int.toNat_natCast,←hc,he]
  ·exact h.ZN d h0 (by omega)
 ·refine⟨fun e he=>?_,fun d h0 h1=>?_⟩
  ·rcases FQ.1 he with he|he
   ·have:=h.keys e he;omega
   ·rw[List.mem_singleton.1 he]
    exact⟨by simp,by simp;omega⟩
  ·rw[X8 (fun e he=>(h.keys e he).2)]
   split
   ·rename_i hd
    rw[hd,Int.toNat_natCast];exact hc
   ·exact h.ZN d h0 (by omega)
end Go.Gl
namespace Go.Gl
open Go.Proofs
attribute [local irreducible] BQ BJ A5 Ab AQ A4 Ac Af AR Az AW Aa BT Bf Sat An BZ A6 W
theorem da (s c:Nat) (hs0:s<18446744073709551616) (hc:c<64):Pure Tryz.prog 269 [.a [eU s],eI c] (.a [eU (s|||2 ^ c)]):=by
 refine uK nb ?_;have hs:=Sn
 conv=>whnf
 repeat'((first|refine st ?_|(refine sq ?_;intro K U)|(refine si ?_;intro A B Y Z)|(refine Y _ _ ?_;clear Z B Y A)|(refine U _ _ ?_;clear U K)|refine dr ?_|refine⟨rfl,?_⟩|refine⟨nb,?_⟩|refine Y8 ?_|refine ld ?_|refine G4 fun σ hs=>?_|refine GM fun σ hs=>?_|refine⟨Int.natCast_nonneg _,?_⟩|(intro nn hnn;generalize hg:BI _ nn _=σ;refine D8 hg fun hs=>?_;clear hg)|fail)<;>conv=>whnf)
 refine AY ?_;simp only[Int.toNat_natCast,WX hc,KA hs0 (JD hc)];rfl
theorem yE (s t:Nat) (hs0:s<18446744073709551616) (ht0:t<18446744073709551616):Pure Tryz.prog 270 [.a [eU s],.a [eU t]] (.a [eU (s|||t)]):=by
 refine uJ nb ?_;have hs:=Sn
 conv=>whnf
 repeat'((first|refine st ?_|(refine sq ?_;intro K U)|(refine si ?_;intro A B Y Z)|(refine Y _ _ ?_;clear Z B Y A)|(refine U _ _ ?_;clear U K)|refine⟨rfl,?_⟩|refine⟨nb,?_⟩|refine Y8 ?_|refine wK ?_|refine ld ?_|refine G4 fun σ hs=>?_|refine GM fun σ hs=>?_|(intro nn hnn;generalize hg:BI _ nn _=σ;refine D8 hg fun hs=>?_;clear hg)|fail)<;>conv=>whnf)
 refine AY ?_;simp only[KA hs0 ht0];rfl
theorem Se (s:Nat) (c:Int) (hs0:s<18446744073709551616) (h0:0≤c) (hc:c<64):Pure Tryz.prog 269 [.a [eU s],eI c] (.a [eU (s|||2 ^ c.toNat)]):=by
 have:=da s c.toNat hs0 (by omega);rw[Int.toNat_of_nonneg h0]at this;exact this
theorem Jp {a b:Nat} (ha:a<18446744073709551616) (hb:b<18446744073709551616):a|||b<18446744073709551616:=by
 have:=Nat.or_lt_two_pow (n:=64) (x:=a) (y:=b) (by simpa using ha) (by simpa using hb);simpa using this
def Hc (g:List (List Int)):List (List Int×Bool):=[([],true),([],true),([],true)]++g.map fun l=>(l,false)
theorem bV (g:List (List Int)):(Hc g).length=3+g.length:=by simp[Hc];omega
theorem Wg (g:List (List Int)) {k:Nat} (hk:k<3+g.length): ∃b,(Hc g)[k]? =some (Be g (k:Int),b):=by
 unfold Hc Be;by_cases h3:k<3
 ·rw[if_pos (by omega),qv (by simpa using h3)]
  refine⟨true,?_⟩;rcases k with _|_|_|k
  ·rfl
  ·rfl
  ·rfl
  ·omega
 ·rw[if_neg (by omega),List.getElem?_append_right (by simp;omega)]
  refine⟨false,?_⟩;simp only[Mu,List.length_nil,Rv];have e:((k:Int) - 3).toNat=k - (0+1+1+1):=by omega
  rw[e,FA,Fs (by omega)];rfl
theorem fJ:GX (fun u:Nat=>[eU u]) 1:=fun x=>⟨rfl,fun v hv=>by simp at hv;subst hv;rfl⟩
theorem yD {α:Type} {a b c d:α}: [a,b,c,d].Perm [b,d,a,c]:=by
 have h1: [a,b,c,d].Perm [b,a,c,d]:= .swap _ _ _;have h2: [a,c,d].Perm [d,a,c]:=List.perm_append_comm (l₁:=[a,c]) (l₂:=[d]);exact h1.trans (h2.cons b)
set_option maxHeartbeats 4000000 in
theorem eR (g:List (List Int)) (f f2:Bool) (c:Int) (hg:Es g=true) (hc0:0≤c) (hc1:c<3+g.length) :
 Bx Tryz.prog 250 [.l (Ji g) f,.l (iL [c]) f2] [] fun r post=> ∃n mm vp vu us M,r= .ret (.t [.p n 0,.b true])∧post=gH n mm vp vu (Hc g) us M∧HY g (3+g.length) M:=by
 intro σ hs;refine BQ.fit (by kernel_rfl) fun hf=>?_
 have⟨g1,g2⟩:=aL hf.1;have hM:=Mx;have hG:=D1 hg;have hgl:=hG.1;have hfn:=W8 g f;rw[hg]at hfn;have hc2: [c][0]? =some c:=rfl;have hpl:=bV g;refine uT nb ?_
 conv=>whnf
 repeat'((first|refine st ?_|(refine sq ?_;intro K U)|(refine si ?_;intro A B Y Z)|(refine Y _ _ ?_;clear Z B Y A)|(refine U _ _ ?_;clear U K)|refine G5 ?_|refine Pure.use hfn ?_|fail)<;>conv=>whnf)
 refine FR 1 (fun k (_:Unit)=>[(20,eI (Bo k))]) (fun _ _=>[]) (fun _ _=>True) () rfl trivial hs ?_;clear hs;rintro k - σ hk - hs;have hkk:k=0∨k=1:=by omega
 rcases hkk with rfl|rfl
 ·conv=>whnf
  repeat'((first|refine st ?_|(refine sq ?_;intro K U)|(refine si ?_;intro A B Y Z)|(refine Y _ _ ?_;clear Z B Y A)|(refine U _ _ ?_;clear U K)|refine⟨rfl,?_⟩|refine⟨nb,?_⟩|refine ix ?_|(refine FB (fun hc=>?_)<;>(try rw[hc])<;>clear hc)|(constructor<;>intro hc<;>(try rw[hc])<;>(replace hc:=bp hc)<;>(try simp(disch:=omega) only[Ce,wrap64,Ad]at hc)<;>try(exfalso;omega))|clear U K)<;>conv=>whnf)
  all_goals try(exfalso;omega)
  exact⟨(),rfl,trivial,hs⟩
 ·have hke:1= [c].length:=rfl
  conv=>whnf
  repeat'((first|refine st ?_|(refine sq ?_;intro K U)|(refine si ?_;intro A B Y Z)|(refine Y _ _ ?_;clear Z B Y A)|(refine U _ _ ?_;clear U K)|refine⟨rfl,?_⟩|(refine F5 (fun hc=>?_)<;>(try rw[hc])<;>clear hc)|clear U K)<;>conv=>whnf)
  rw[show IntKind.i64.wrap (3+((Ji g).length:Nat))=((3+g.length:Nat):Int) by rw[Ce,wrap64 (by omega) (by omega)];omega];refine wq (n:=3) hs (by omega) (by omega) fun vp σ hs hv=>?_
  obtain⟨idp,rfl⟩:=hv
  conv=>whnf
  repeat'((first|(refine sq ?_;intro K U)|(refine si ?_;intro A B Y Z)|(refine Y _ _ ?_;clear Z B Y A)|(refine U _ _ ?_;clear U K)|refine ld ?_|(intro nn hnn;generalize hg:BI _ nn _=σ;refine D8 hg fun hs=>?_;clear hg)|fail)<;>conv=>whnf)
  obtain⟨mm,hs⟩: ∃mm,Sat σ [.box nn [.sl idp 3 (3+g.length),.l [] true,.m mm],.map mm [],.own (.sl idp 3 (3+g.length)) 1 (List.replicate 3 [.l [] true])]:=⟨_,hs⟩
  generalize nn=n0 at *;have hgr:=FU KW g;refine hAppend hs 2 rfl (by simp;omega) hgr.1 hgr.2 fun vp σ hs=>?_
  have hps:List.replicate 3 [.l [] true]++Ji g=pL (Hc g):=by simp[pL,Hc,List.replicate,Ji]
  rw[hps]at hs;clear hps;have hs1p:=I6 hs 2 rfl
  conv=>whnf
  repeat'((first|refine st ?_|(refine sq ?_;intro K U)|(refine si ?_;intro A B Y Z)|(refine Y _ _ ?_;clear Z B Y A)|(refine U _ _ ?_;clear U K)|refine lo ?_|refine ld ?_|refine G4 fun σ hs=>?_|fail)<;>conv=>whnf)
  replace hs:Sat σ [.box n0 [vp,.l [] true,.m mm],.map mm [],.own vp 1 (pL (Hc g))]:=hs;refine FR (Hc g).length (fun k (_:V×List Nat)=>[(55,eI (Bo k))]) (fun _ x=>[.own x.1 1 (x.2.map fun u=>[eU u]),.box n0 [vp,x.1,.m mm],.map mm [],.own vp 1 (pL (Hc g))]) (fun k x=>x.2.length=k∧ ∀u∈x.2,u<18446744073709551616) (.l [] true,[]) rfl ⟨rfl,fun u hu=>by cases hu⟩ (FF hs 1) ?_;clear hs;rintro k ⟨vu,us⟩ σ hk ⟨hul,hus⟩ hs;dsimp only at hul hus hs;rcases Bq (Hc g) hk with⟨⟨l,lb⟩,hl,hlt⟩|hke2
  ·have hck:Bo k=k:=Ad (by omega)
   obtain⟨b',hpa⟩:=Wg g (k:=k) (by omega);have hle:l=Be g (k:Int):=by rw[hl]at hpa;exact(Prod.mk.inj (Option.some.inj hpa)).1
   have hll:=GI hG (k:Int);rw[←hle]at hll;have hlm: ∀p∈l,3≤p∧p<(k:Int):=fun p hp=>Em hG (by rw[←hle];exact hp)
   have hs1:(0|||2 ^ (Bo k).toNat)<18446744073709551616:=by
    rw[Nat.zero_or,hck,Int.toNat_natCast];exact JD (by omega)
   have hs1u:=I6 hs 0 rfl;have hl':(Hc g)[(Bo k).toNat]? =some (l,lb):=by rw[hck,Int.toNat_natCast];exact hl
   conv=>whnf
   repeat'((first|refine st ?_|(refine sq ?_;intro K U)|(refine si ?_;intro A B Y Z)|(refine Y _ _ ?_;clear Z B Y A)|(refine U _ _ ?_;clear U K)|refine⟨rfl,?_⟩|refine GM fun σ hs=>?_|refine oi ?_|refine wS ?_|(refine FB (fun hc=>?_)<;>(try rw[hc])<;>clear hc)|refine Pure.use (Se 0 (Bo k) (by decide) (by omega) (by omega)) ?_|refine Pure.use (Se _ _ (by first|omega|exact hs1) (by omega) (by omega)) ?_|(intro nn hnn;generalize hg:BI _ nn _=σ;refine D8 hg fun hs=>?_;clear hg)|fail)<;>conv=>whnf)
   have hs0:(0|||2 ^ (Bo k).toNat|||2 ^ Int.toNat 0)<18446744073709551616:=Jp hs1 (by decide);generalize (0|||2 ^ (Bo k).toNat|||2 ^ Int.toNat 0)=s0 at *;refine FR l.length (fun j (_:Nat)=>[(66,eI (Bo j))]) (fun _ s=>[.box nn [eU s],.own vu 1 (us.map fun u=>[eU u]),.box n0 [vp,vu,.m mm],.map mm [],.own vp 1 (pL (Hc g))]) (fun _ s=>s<18446744073709551616) s0 rfl hs0 hs ?_;clear hs hs0;rintro j s σ hj hsb hs;rcases Bq l hj with⟨p,hp,hjlt⟩|hje
   ·obtain⟨hp3,hpk⟩:=hlm p (Fo hp)
    obtain⟨u,hu⟩: ∃u,us[p.toNat]? =some u:=⟨_,Fs (by omega)⟩
    have hub:=hus u (Fo hu)
    conv=>whnf
    repeat'((first|refine st ?_|(refine sq ?_;intro K U)|(refine si ?_;intro A B Y Z)|(refine Y _ _ ?_;clear Z B Y A)|(refine U _ _ ?_;clear U K)|refine dr ?_|refine⟨rfl,?_⟩|refine⟨nb,?_⟩|refine ix ?_|refine ld ?_|refine GM fun σ hs=>?_|refine oi ?_|refine wS ?_|(refine FB (fun hc=>?_)<;>(try rw[hc])<;>clear hc)|refine Pure.use (yE _ _ hsb hub) ?_|clear U K)<;>conv=>whnf)
    exact⟨hjlt,s|||u,rfl,Jp hsb hub,hs⟩
   ·conv=>whnf
    repeat'((first|refine st ?_|(refine sq ?_;intro K U)|(refine si ?_;intro A B Y Z)|(refine Y _ _ ?_;clear Z B Y A)|(refine U _ _ ?_;clear U K)|refine dr ?_|refine⟨rfl,?_⟩|refine⟨nb,?_⟩|refine ld ?_|(refine F5 (fun hc=>?_)<;>(try rw[hc])<;>clear hc)|clear U K)<;>conv=>whnf)
    refine HL (WK hs 1 (enc:=fun u:Nat=>[eU u]) (xs:=us) (x:=s) rfl (by omega) fJ fun vu' σ hs hsl=>?_);have hs2u:=I6 hs 1 rfl
    conv=>whnf
    repeat'((first|(refine si ?_;intro A B Y Z)|(refine Y _ _ ?_;clear Z B Y A)|(refine U _ _ ?_;clear U K)|refine dr ?_|refine⟨rfl,?_⟩|refine G4 fun σ hs=>?_|clear U K)<;>conv=>whnf)
    refine⟨hlt,(vu',us++[s]),rfl,⟨by simp[hul],fun u hu=>?_⟩,hs.less (List.sublist_cons_self _ _)⟩;rcases FQ.1 hu with hu|hu
    ·exact hus u hu
    ·rw[List.mem_singleton.1 hu];exact hsb
  ·have hs1u:=I6 hs 0 rfl
   conv=>whnf
   repeat'((first|refine st ?_|(refine sq ?_;intro K U)|(refine si ?_;intro A B Y Z)|(refine Y _ _ ?_;clear Z B Y A)|(refine U _ _ ?_;clear U K)|refine⟨rfl,?_⟩|refine lo ?_|refine ld ?_|(refine F5 (fun hc=>?_)<;>(try rw[hc])<;>clear hc)|clear U K)<;>conv=>whnf)
   replace hs:Sat σ (gH n0 mm vp vu (Hc g) us []):=hs.perm yD;refine FR (Hc g).length (fun k (_:List Ord)=>[(96,eI (Bo k))]) (fun _ M=>gH n0 mm vp vu (Hc g) us M) (fun k M=>HY g k M) [] rfl HY.nil hs ?_;clear hs;rintro k M σ hk hkn hs;rcases Bq (Hc g) hk with⟨⟨l,lb⟩,hl,hlt⟩|hke3
   ·have hck:Bo k=k:=Ad (by omega)
    obtain⟨b',hpa⟩:=Wg g (k:=k) (by omega);have hle:l=Be g (k:Int):=by rw[hl]at hpa;exact(Prod.mk.inj (Option.some.inj hpa)).1
    have hll:=GI hG (k:Int);rw[←hle]at hll;have hlm: ∀p∈l,3≤p∧p<(k:Int):=fun p hp=>Em hG (by rw[←hle];exact hp)
    have hlo:=YF hG hkn hll (fun x hx=>by have:=hlm x hx;omega);have hord:=bY n0 mm vp vu (Hc g) us M (Bo k) l lb (by omega) (by rw[hck,Int.toNat_natCast];exact hl) hll (fun c=>by have:=(KN hG hkn c).1;omega) (fun e he=>by have:=hkn.keys e he;omega) hlo.1 hlo.2
    conv=>whnf
    repeat'((first|refine st ?_|(refine sq ?_;intro K U)|(refine si ?_;intro A B Y Z)|(refine Y _ _ ?_;clear Z B Y A)|(refine U _ _ ?_;clear U K)|refine⟨rfl,?_⟩|(refine FB (fun hc=>?_)<;>(try rw[hc])<;>clear hc)|fail)<;>conv=>whnf)
    refine hord.use (rest:=[]) (by simpa using hs) ?_;clear hs;rintro r post σ ⟨rfl,M',rfl,hM'⟩ hs;rw[List.append_nil]at hs;rw[hck]at hM'
    conv=>whnf
    repeat'((first|(refine si ?_;intro A B Y Z)|(refine Y _ _ ?_;clear Z B Y A)|(refine U _ _ ?_;clear U K)|refine⟨rfl,?_⟩|clear U K)<;>conv=>whnf)
    exact⟨hlt,M',rfl,hkn.step hle (fun p hp=>by have:=hlm p hp;omega) (by omega) hM',hs⟩
   ·conv=>whnf
    repeat'((first|refine st ?_|(refine sq ?_;intro K U)|(refine si ?_;intro A B Y Z)|(refine Y _ _ ?_;clear Z B Y A)|(refine U _ _ ?_;clear U K)|refine⟨rfl,?_⟩|(refine F5 (fun hc=>?_)<;>(try rw[hc])<;>clear hc)|clear U K)<;>conv=>whnf)
    exact BU hs (List.Sublist.refl _) (.refl _) fun σ' hs'=>⟨_,⟨_,_,_,_,_,_,rfl,rfl,by rw[←hpl,←hke3];exact hkn⟩,hs'⟩
theorem vo {M:List Ord} {c:Int} {σ:AG} {fx:List At} (hs:Sat σ (fx++M.map Y9)) (hl:(B1 M c).length≤Ax) (hne:B1 M c≠[]) {k kp:V→AG→Prop} (hk: ∀σ',Sat σ' (fx++M.map Y9)→k (.l (iL (B1 M c)) false) σ'):BQ Tryz.prog 175 [Hi M c] σ (qk k kp):=by
 rcases Na M c with⟨h1,h2⟩|⟨j,hj⟩
 ·exact absurd h1 hne
 ·have hj':(fx++M.map Y9)[fx.length+j]? =some (At.own (Hi M c) 1 (iL (B1 M c))):=by
   rw[List.getElem?_append_right (by omega),Nat.add_sub_cancel_left,hj]
  have hcl:Bx Tryz.prog 175 [Hi M c] [.own (Hi M c) 1 (iL (B1 M c))] fun r post=>r= .ret (.l (iL (B1 M c)) false)∧post= [.own (Hi M c) 1 (iL (B1 M c))]:=by
   clear hk hj' hj;generalize Hi M c=v at *;generalize B1 M c=l at *;intro σ hs;refine aU nb ?_;have hgr:=FU FK l
   have hend: ∀ {σ:AG} {w u:V},Sat σ [.own w 1 (iL l),.own u 1 (iL l)]→BJ σ w fun r σ'=> ∃post,(r= .ret (.l (iL l) false)∧post= [.own u 1 (iL l)])∧Sat σ' post:=fun hs=>by
    obtain⟨σ2,h1,h2,h3⟩:=WH hs 0 rfl;exact KB h1 h2 ⟨_,⟨rfl,rfl⟩,h3⟩
   have hM:=Mx;rcases hs.get (i:=0) rfl with⟨rfl,_⟩|⟨n,cap,rfl,hn⟩
   ·conv=>whnf
    repeat'((first|(refine sq ?_;intro K U)|(refine si ?_;intro A B Y Z)|(refine Y _ _ ?_;clear Z B Y A)|(refine U _ _ ?_;clear U K)|fail)<;>conv=>whnf)
    refine⟨fun e=>absurd (List.map_eq_nil_iff.1 e) hne,fun _=>?_⟩
    conv=>whnf
    repeat'((first|refine st ?_|(refine sq ?_;intro K U)|(refine si ?_;intro A B Y Z)|(refine Y _ _ ?_;clear Z B Y A)|(refine U _ _ ?_;clear U K)|fail)<;>conv=>whnf)
    replace hs:=FF hs 1;refine Wv hs 0 1 rfl rfl (by simp;omega) hgr.1 hgr.2 fun w σ hs=>?_
    conv=>whnf
    repeat'((first|refine st ?_|(refine Y _ _ ?_;clear Z B Y A)|(refine U _ _ ?_;clear U K)|fail)<;>conv=>whnf)
    exact hend hs
   ·conv=>whnf
    repeat'((first|refine st ?_|(refine sq ?_;intro K U)|(refine si ?_;intro A B Y Z)|(refine Y _ _ ?_;clear Z B Y A)|(refine U _ _ ?_;clear U K)|fail)<;>conv=>whnf)
    replace hs:=FF hs 1;refine Wv hs 0 1 rfl rfl (by simp;omega) hgr.1 hgr.2 fun w σ hs=>?_
    conv=>whnf
    repeat'((first|refine st ?_|(refine Y _ _ ?_;clear Z B Y A)|(refine U _ _ ?_;clear U K)|fail)<;>conv=>whnf)
    exact hend hs
  refine hcl.kR (Φ:=fun r=>r= .ret (.l (iL (B1 M c)) false)) hs hj' ?_;rintro r σ' rfl hs';exact hk σ' hs'
theorem sZ (g:List (List Int)) (f:Bool) (c:Int) (hg:Es g=true) (hc0:0≤c) (hc1:c<3+g.length) :
 Pure Tryz.prog 209 [.l (Ji g) f,eI c] (if((Da g).getD c.toNat []).isEmpty then .t [.l [] true,eI 7]else .t [.l (iL ((Da g).getD c.toNat [])) false,eI 0]):=by
 have hop:=eR g f true c hg hc0 hc1;refine ur nb ?_;have hs:=Sn;have hM:=Mx;have hG:=D1 hg
 conv=>whnf
 repeat'((first|(refine sq ?_;intro K U)|(refine si ?_;intro A B Y Z)|(refine Y _ _ ?_;clear Z B Y A)|(refine U _ _ ?_;clear U K)|fail)<;>conv=>whnf)
 refine hop.use (rest:=[]) hs ?_;clear hs;rintro r post σ ⟨n,mm,vp,vu,us,M,rfl,rfl,hkn⟩ hs;rw[List.append_nil]at hs;have hol:=(KN hG hkn c).1;have hor:=hkn.ZN c hc0 (by omega);by_cases hne:B1 M c= []
 ·have hl0:(B1 M c).length=0:=by rw[hne];rfl
  conv=>whnf
  repeat'((first|refine st ?_|(refine sq ?_;intro K U)|(refine si ?_;intro A B Y Z)|(refine Y _ _ ?_;clear Z B Y A)|(refine U _ _ ?_;clear U K)|refine⟨rfl,?_⟩|refine ld ?_|refine G5 ?_|refine lkO ?_|refine Nb (fx:=_::_::_::_:: []) hs (by omega) ?_|(constructor<;>intro hc<;>(try rw[hc])<;>(replace hc:=bp hc)<;>try(exfalso;omega))|clear U K)<;>conv=>whnf)
  all_goals try(exfalso;omega)
  rw[←hor,hne];exact AY rfl
 ·have hl0:0<(B1 M c).length:=List.length_pos_iff.2 hne
  conv=>whnf
  repeat'((first|refine st ?_|(refine sq ?_;intro K U)|(refine si ?_;intro A B Y Z)|(refine Y _ _ ?_;clear Z B Y A)|(refine U _ _ ?_;clear U K)|refine⟨rfl,?_⟩|refine ld ?_|refine G5 ?_|refine lkO ?_|refine Nb (fx:=_::_::_::_:: []) hs (by omega) ?_|(constructor<;>intro hc<;>(try rw[hc])<;>(replace hc:=bp hc)<;>try(exfalso;omega))|fail)<;>conv=>whnf)
  all_goals try(exfalso;omega)
  refine vo (fx:=_::_::_::_:: []) hs (by omega) hne fun σ hs=>?_
  conv=>whnf
  repeat'((first|refine st ?_|(refine Y _ _ ?_;clear Z B Y A)|(refine U _ _ ?_;clear U K)|fail)<;>conv=>whnf)
  rw[←hor]
  have:(B1 M c).isEmpty=false:=by
   cases h:(B1 M c).isEmpty
   ·rfl
   ·exact absurd (List.isEmpty_iff.1 h) hne
  rw[this];exact AY rfl
theorem cN (xs:List Int) (f:Bool):Pure Tryz.prog 175 [.l (iL xs) f] (.l (iL xs) false):=by
 refine Pure.fit (by kernel_rfl) fun hf=>?_
 have hxl:=Qj hf.1;have hM:=Mx;refine aU nb ?_;have hs:=Sn
 conv=>whnf
 repeat'((first|(refine sq ?_;intro K U)|(refine si ?_;intro A B Y Z)|(refine Y _ _ ?_;clear Z B Y A)|(refine U _ _ ?_;clear U K)|fail)<;>conv=>whnf)
 refine⟨fun e t=>?_,fun _=>?_⟩
 ·have hx:xs= []:=List.map_eq_nil_iff.1 e
  subst hx
  conv=>whnf
  repeat'((first|refine st ?_|(refine sq ?_;intro K U)|(refine si ?_;intro A B Y Z)|(refine Y _ _ ?_;clear Z B Y A)|(refine U _ _ ?_;clear U K)|(constructor<;>intro hc<;>(try rw[hc])<;>(replace hc:=bp hc))|clear U K)<;>conv=>whnf)
  ·exact Dj RJ
  ·replace hs:=FF hs 1
   refine PD hs 0 (xs:=[]) (ys:=[]) rfl (by simp) FK fun v σ hs=>?_
   conv=>whnf
   repeat'((first|refine st ?_|(refine Y _ _ ?_;clear Z B Y A)|(refine U _ _ ?_;clear U K)|fail)<;>conv=>whnf)
   exact N0 hs 0 rfl rfl
 ·conv=>whnf
  repeat'((first|refine st ?_|(refine sq ?_;intro K U)|(refine si ?_;intro A B Y Z)|(refine Y _ _ ?_;clear Z B Y A)|(refine U _ _ ?_;clear U K)|fail)<;>conv=>whnf)
  replace hs:=FF hs 1;refine PD hs 0 (xs:=[]) (ys:=xs) rfl (by simp;omega) FK fun v σ hs=>?_
  conv=>whnf
  repeat'((first|refine st ?_|(refine Y _ _ ?_;clear Z B Y A)|(refine U _ _ ?_;clear U K)|fail)<;>conv=>whnf)
  exact N0 hs 0 rfl rfl
theorem r6 (c:Of):Pure Tryz.prog 174 [.a (SB c)] (.l (iL c.parents) false):=by
 refine vB nb ?_;have hs:=Sn
 conv=>whnf
 repeat'((first|refine st ?_|(refine sq ?_;intro K U)|(refine si ?_;intro A B Y Z)|(refine Y _ _ ?_;clear Z B Y A)|(refine U _ _ ?_;clear U K)|refine Pure.use (cN _ _) ?_|fail)<;>conv=>whnf)
 exact AY rfl
theorem j3 (xs:List (List Int)) (v:V) (hl:xs.length≤Ax):Bx Tryz.prog 216 [v] [.own v 1 (Ji xs)] fun r post=>r= .ret (.l (Ji xs) true)∧post= []:=by
 intro σ hs;have hg:=FU KW xs;refine ui nb ?_
 conv=>whnf
 repeat'((first|(refine sq ?_;intro K U)|(refine si ?_;intro A B Y Z)|(refine Y _ _ ?_;clear Z B Y A)|(refine U _ _ ?_;clear U K)|refine lo ?_|fail)<;>conv=>whnf)
 refine Zn (i:=0) hs rfl hg.1 (by simpa using hl) fun σ hs=>?_
 conv=>whnf
 repeat'((first|refine st ?_|(refine Y _ _ ?_;clear Z B Y A)|(refine U _ _ ?_;clear U K)|fail)<;>conv=>whnf)
 exact BU hs (List.Sublist.refl _) (.refl _) fun σ' hs'=>⟨_,⟨rfl,rfl⟩,hs'⟩
theorem vq (xs:List Int) (v:V) (hl:xs.length≤Ax):Bx Tryz.prog 99 [v] [.own v 1 (iL xs)] fun r post=>r= .ret (.l (iL xs) true)∧post= []:=by
 intro σ hs;have hg:=FU FK xs;refine yW nb ?_
 conv=>whnf
 repeat'((first|(refine sq ?_;intro K U)|(refine si ?_;intro A B Y Z)|(refine Y _ _ ?_;clear Z B Y A)|(refine U _ _ ?_;clear U K)|refine lo ?_|fail)<;>conv=>whnf)
 refine Zn (i:=0) hs rfl hg.1 (by simpa using hl) fun σ hs=>?_
 conv=>whnf
 repeat'((first|refine st ?_|(refine Y _ _ ?_;clear Z B Y A)|(refine U _ _ ?_;clear U K)|fail)<;>conv=>whnf)
 exact BU hs (List.Sublist.refl _) (.refl _) fun σ' hs'=>⟨_,⟨rfl,rfl⟩,hs'⟩
theorem jl (cs:List Of) (hl:cs.length≤1000000):Pure Tryz.prog 173 [.l (cs.map SB) false,.f (.func 174) [] []] (.l (Ji (cs.map (·.parents))) false):=by
 have hM:=Mx;refine vC nb ?_;have hs:=Sn
 conv=>whnf
 repeat'((first|refine st ?_|(refine sq ?_;intro K U)|(refine si ?_;intro A B Y Z)|(refine Y _ _ ?_;clear Z B Y A)|(refine U _ _ ?_;clear U K)|fail)<;>conv=>whnf)
 refine FR cs.length (fun k v=>[(5,v),(10,eI (Bo k))]) (fun k v=>[.own v 1 (Ji ((cs.take k).map (·.parents)))]) (fun _ _=>True) (.l [] true) rfl trivial (FF hs 1) ?_;clear hs;rintro k v σ hk - hs;rcases Bq cs hk with⟨c,hc,hlt⟩|hke
 ·conv=>whnf
  repeat'((first|refine st ?_|(refine sq ?_;intro K U)|(refine si ?_;intro A B Y Z)|(refine Y _ _ ?_;clear Z B Y A)|(refine U _ _ ?_;clear U K)|refine⟨rfl,?_⟩|refine⟨nb,?_⟩|refine ix ?_|refine ld ?_|refine GM fun σ hs=>?_|(refine FB (fun hc=>?_)<;>(try rw[hc])<;>clear hc)|(intro nn hnn;generalize hg:BI _ nn _=σ;refine D8 hg fun hs=>?_;clear hg)|fail)<;>conv=>whnf)
  refine CZ ((r6 c).use ?_)
  conv=>whnf
  repeat'((first|(refine si ?_;intro A B Y Z)|(refine Y _ _ ?_;clear Z B Y A)|(refine U _ _ ?_;clear U K)|refine⟨rfl,?_⟩|refine aq fun v σ hs hsl=>?_|clear U K)<;>conv=>whnf)
  exact⟨hlt,_,rfl,trivial,by rw[BF hc,List.map_append];exact hs.less (List.sublist_cons_self _ _)⟩
 ·rw[Cz hke]at hs
  conv=>whnf
  repeat'((first|refine st ?_|(refine sq ?_;intro K U)|(refine si ?_;intro A B Y Z)|(refine Y _ _ ?_;clear Z B Y A)|(refine U _ _ ?_;clear U K)|refine⟨rfl,?_⟩|(refine F5 (fun hc=>?_)<;>(try rw[hc])<;>clear hc)|clear U K)<;>conv=>whnf)
  refine(j3 (cs.map (·.parents)) v (by simp;omega)).use (rest:=[]) hs ?_;clear hs;rintro r post σ ⟨rfl,rfl⟩ hs
  conv=>whnf
  repeat'((first|refine st ?_|(refine Y _ _ ?_;clear Z B Y A)|(refine U _ _ ?_;clear U K)|fail)<;>conv=>whnf)
  exact Dj Zk
theorem KV (p:Prog) (hk0:p.AU.length≤1000):Pure Tryz.prog 138 [.a (Bz p)] (.l (Ji (BE p)) false):=by
 refine Pure.fit (by kernel_rfl) fun hf=>?_
 have F:=WN hf.1;refine vX nb ?_;have hs:=Sn
 conv=>whnf
 repeat'((first|refine st ?_|(refine sq ?_;intro K U)|(refine si ?_;intro A B Y Z)|(refine Y _ _ ?_;clear Z B Y A)|(refine U _ _ ?_;clear U K)|fail)<;>conv=>whnf)
 refine(jl p.AU (by omega)).use ?_
 conv=>whnf
 repeat'((first|refine st ?_|(refine Y _ _ ?_;clear Z B Y A)|(refine U _ _ ?_;clear U K)|fail)<;>conv=>whnf)
 exact AY rfl
theorem Sd (p:Prog) (hk0:p.AU.length≤1000) (hm:CX p.AU≤Ax):Pure Tryz.prog 108 [.a (Bz p)] (.a (CY (Ar p))):=by
 refine Pure.fit (by kernel_rfl) fun hf=>?_
 have F:=WN hf.1;have hcl:=F.1;have hM:=Mx;refine vg nb ?_;have hs:=Sn
 conv=>whnf
 repeat'((first|refine st ?_|(refine sq ?_;intro K U)|(refine si ?_;intro A B Y Z)|(refine Y _ _ ?_;clear Z B Y A)|(refine U _ _ ?_;clear U K)|refine⟨nb,?_⟩|refine GM fun σ hs=>?_|refine Pure.use (KV _ hk0) ?_|(intro nn hnn;generalize hg:BI _ nn _=σ;refine D8 hg fun hs=>?_;clear hg)|fail)<;>conv=>whnf)
 rename_i n2 _ _ _ _ _
 rename Nat=>n3
 replace hs:Sat σ [.box n3 [.l (Ji (BE p)) false,.l [] true],.box n2 [.l [] true,.l [] true]]:=hs;refine FR p.AU.length (fun k (_:V)=>[(12,eI (Bo k))]) (fun k v=>[.own v 1 (iL (BX 0 (p.AU.take k))),.box n3 [.l (Ji (BE p)) false,v],.box n2 [.l [] true,.l [] true]]) (fun _ _=>True) (.l [] true) rfl trivial (FF hs 1) ?_;clear hs;rintro k v σ hk - hs;rcases Bq p.AU hk with⟨c,hc,hlt⟩|hke
 ·have hcm:=F.2 c (Fo hc)
  have htk:=VZ hc;have hck:Bo k=k:=Ad (by omega)
  have hap:BX 0 (p.AU.take (k+1))=BX 0 (p.AU.take k)++List.replicate c.AL.length ((k:Int)+3):=by
   rw[BF hc,MX];have:(p.AU.take k).length=k:=by simp;omega
   rw[this];simp[BX]
  have hol:=DK 0 (p.AU.take k);have hw3:IntKind.i64.wrap (Bo k+3)=(k:Int)+3:=by rw[hck,wrap64 (by omega) (by omega)]
  have hcs:=hcm.2.1;generalize BX 0 (p.AU.take k)=os at *
  conv=>whnf
  repeat'((first|refine st ?_|(refine sq ?_;intro K U)|(refine si ?_;intro A B Y Z)|(refine Y _ _ ?_;clear Z B Y A)|(refine U _ _ ?_;clear U K)|refine⟨rfl,?_⟩|refine⟨nb,?_⟩|refine ix ?_|refine ld ?_|refine GM fun σ hs=>?_|(refine FB (fun hc=>?_)<;>(try rw[hc])<;>clear hc)|(intro nn hnn;generalize hg:BI _ nn _=σ;refine D8 hg fun hs=>?_;clear hg)|fail)<;>conv=>whnf)
  refine FR c.AL.length (fun j (_:V)=>[(20,eI (Bo j))]) (fun j v=>[.own v 1 (iL (os++List.replicate j ((k:Int)+3))),.box n3 [.l (Ji (BE p)) false,v],.box n2 [.l [] true,.l [] true]]) (fun _ _=>True) v rfl trivial (by simpa using hs.less (List.sublist_cons_self _ _)) ?_;clear hs;rintro j v σ hj - hs;rcases Bq c.AL hj with⟨s,hsl,hjlt⟩|hje
  ·have hsv0:=I6 hs 0 rfl
   conv=>whnf
   repeat'((first|refine st ?_|(refine sq ?_;intro K U)|(refine si ?_;intro A B Y Z)|(refine Y _ _ ?_;clear Z B Y A)|(refine U _ _ ?_;clear U K)|refine⟨rfl,?_⟩|refine ld ?_|refine G4 fun σ hs=>?_|refine aq fun v σ hs hsl=>?_|(refine FB (fun hc=>?_)<;>(try rw[hc])<;>clear hc)|clear U K)<;>conv=>whnf)
   have hsv:=I6 hs 0 rfl
   conv=>whnf
   refine⟨hjlt,v,rfl,trivial,?_⟩;rw[List.replicate_succ',←UR];rw[hw3]at hs;exact hs
  ·conv=>whnf
   repeat'((first|refine st ?_|(refine sq ?_;intro K U)|(refine si ?_;intro A B Y Z)|(refine Y _ _ ?_;clear Z B Y A)|(refine U _ _ ?_;clear U K)|refine⟨rfl,?_⟩|(refine F5 (fun hc=>?_)<;>(try rw[hc])<;>clear hc)|clear U K)<;>conv=>whnf)
   exact⟨hlt,v,rfl,trivial,by rw[hap,←hje];exact hs⟩
 ·rw[Cz hke]at hs
  have hsv:=I6 hs 0 rfl
  conv=>whnf
  repeat'((first|refine st ?_|(refine sq ?_;intro K U)|(refine si ?_;intro A B Y Z)|(refine Y _ _ ?_;clear Z B Y A)|(refine U _ _ ?_;clear U K)|refine⟨rfl,?_⟩|refine⟨nb,?_⟩|refine ld ?_|refine GM fun σ hs=>?_|(refine F5 (fun hc=>?_)<;>(try rw[hc])<;>clear hc)|clear U K)<;>conv=>whnf)
  exact Dj (.a (.cons (.refl _) (.cons (hs.Jk 0 rfl) .nil)))
end Go.Gl
namespace Go.Proofs
open Go.Shelf
def Tryz.Tt:Go.Shelf.Ren:=⟨fun|189=>135|125=>160|257=>159|128=>205|129=>206|294=>196|295=>197|296=>198|297=>199|298=>200|299=>201|216=>202|300=>203|301=>204|328=>243|329=>244|330=>245|331=>246|332=>247|215=>248|343=>268|n=>n,fun|28=>23|3=>3|46=>193|0=>0|51=>240|53=>182|4=>4|183=>233|182=>232|131=>237|5=>5|9=>9|218=>267|222=>215|228=>300|229=>301|n=>n,fun|n=>n⟩
theorem Tryz.eo:Go.Proofs.Lays.n189 Tryz.prog Tryz.Tt:={
 mixed:=by kernel_rfl
 f125:=Tryz.func160.trans (congrArg some (by kernel_rfl))
 f128:=Tryz.func205.trans (congrArg some (by kernel_rfl))
 f129:=Tryz.func206.trans (congrArg some (by kernel_rfl))
 f189:=Tryz.func135.trans (congrArg some (by kernel_rfl))
 f215:=Tryz.func248.trans (congrArg some (by kernel_rfl))
 f216:=Tryz.func202.trans (congrArg some (by kernel_rfl))
 f257:=Tryz.func159.trans (congrArg some (by kernel_rfl))
 f294:=Tryz.func196.trans (congrArg some (by kernel_rfl))
 f295:=Tryz.func197.trans (congrArg some (by kernel_rfl))
 f296:=Tryz.func198.trans (congrArg some (by kernel_rfl))
 f297:=Tryz.func199.trans (congrArg some (by kernel_rfl))
 f298:=Tryz.func200.trans (congrArg some (by kernel_rfl))
 f299:=Tryz.func201.trans (congrArg some (by kernel_rfl))
 f300:=Tryz.func203.trans (congrArg some (by kernel_rfl))
 f301:=Tryz.func204.trans (congrArg some (by kernel_rfl))
 f328:=Tryz.func243.trans (congrArg some (by kernel_rfl))
 f329:=Tryz.func244.trans (congrArg some (by kernel_rfl))
 f330:=Tryz.func245.trans (congrArg some (by kernel_rfl))
 f331:=Tryz.func246.trans (congrArg some (by kernel_rfl))
 f332:=Tryz.func247.trans (congrArg some (by kernel_rfl))
 f343:=Tryz.func268.trans (congrArg some (by kernel_rfl))
 t0:=Tryz.underlying0
 a0:=Tryz.isAgg0
 z0:=Tryz.sizeOf0
 v0:=Tryz.zeroValue0
 t3:=Tryz.underlying3
 a3:=Tryz.isAgg3
 z3:=Tryz.sizeOf3
 v3:=Tryz.zeroValue3
 t4:=Tryz.underlying4
 a4:=Tryz.isAgg4
 z4:=Tryz.sizeOf4
 v4:=Tryz.zeroValue4
 t5:=Tryz.underlying5
 a5:=Tryz.isAgg5
 z5:=Tryz.sizeOf5
 v5:=Tryz.zeroValue5
 t9:=Tryz.underlying9
 a9:=Tryz.isAgg9
 z9:=Tryz.sizeOf9
 v9:=Tryz.zeroValue9
 t28:=Tryz.underlying23
 a28:=Tryz.isAgg23
 z28:=Tryz.sizeOf23
 v28:=Tryz.zeroValue23
 t46:=Tryz.underlying193
 a46:=Tryz.isAgg193
 z46:=Tryz.sizeOf193
 v46:=Tryz.zeroValue193
 t51:=Tryz.underlying240
 a51:=Tryz.isAgg240
 z51:=Tryz.sizeOf240
 v51:=Tryz.zeroValue240
 t53:=Tryz.underlying182
 a53:=Tryz.isAgg182
 z53:=Tryz.sizeOf182
 v53:=Tryz.zeroValue182
 t131:=Tryz.underlying237
 a131:=Tryz.isAgg237
 z131:=Tryz.sizeOf237
 v131:=Tryz.zeroValue237
 t182:=Tryz.underlying232
 a182:=Tryz.isAgg232
 z182:=Tryz.sizeOf232
 v182:=Tryz.zeroValue232
 t183:=Tryz.underlying233
 a183:=Tryz.isAgg233
 z183:=Tryz.sizeOf233
 v183:=Tryz.zeroValue233
 t218:=Tryz.underlying267
 a218:=Tryz.isAgg267
 z218:=Tryz.sizeOf267
 v218:=Tryz.zeroValue267
 t222:=Tryz.underlying215
 a222:=Tryz.isAgg215
 z222:=Tryz.sizeOf215
 v222:=Tryz.zeroValue215
 t228:=Tryz.underlying300
 a228:=Tryz.isAgg300
 z228:=Tryz.sizeOf300
 v228:=Tryz.zeroValue300
 t229:=Tryz.underlying301
 a229:=Tryz.isAgg301
 z229:=Tryz.sizeOf301
 v229:=Tryz.zeroValue301}
end Go.Proofs
