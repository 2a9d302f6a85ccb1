import Derived.Test.YtijbpgdmpejgoaaGreatQ12
set_option linter.all false
set_option linter.unusedVariables false
set_option linter.unusedSimpArgs false
namespace Go.Gl
open Go.Proofs
attribute [local irreducible] Bj Bf Ba Al Aa BS Ao Aq Ac BO Ah Ap Bz CA Sat A7 B8 Be W
def FY (f:Int→Int→List Int→Option (List Int)) (op size:Int):Nat→List Int→List Int→Option (List Int)
 | _,[],s=>some s
 | i,k::r,s=>match f k (if op=9∧i=1 then size+1 else size) s with
   | none=>none
   | some s'=>FY f op size (i+1) r s'
def EH (p:Prog) (next:Bool) (size:Int) (x:Node):Bool:=((x.kids.length:Int)==Ir p x)&&(Lv p x size&&(x.op != 18||next))
def Ce (p:Prog) (next:Bool):Nat→Int→Int→List Int→Option (List Int)
 | 0,_,_,_=>none
 | d+1,n,size,s=>
   if n<0∨(p.nodes.length:Int)≤n∨0≤s.getD n.toNat 0 then none else
   match p.nodes[n.toNat]? with
   | none=>none
   | some x=>if EH p next size x then FY (Ce p next d) x.op size 0 x.kids (s.set n.toNat size)else none
def TU (v:V) (s:List Int) (o:Option (List Int)) (r:R) (post:List At):Prop:=
 ∃s':List Int,s'.length=s.length∧post= [.own v 1 (iL s')]∧((o=some s'∧r= .ret (.b true))∨(o=none∧r= .ret (.b false)))
theorem OF {v:V} {s s':List Int} {o:Option (List Int)} {σ:AH} {rest:List At} (hs:Sat σ (.own v 1 (iL s')::rest)) (hl:s'.length=s.length) (ho:o=none):Bf σ (.b false) fun r σ'=> ∃post,TU v s o r post∧Sat σ' post:=
 BG hs (.cons₂ _ (List.nil_sublist _)) (.refl _) fun σ' hs'=>⟨_,⟨s',hl,rfl,.inr ⟨ho,rfl⟩⟩,hs'⟩
theorem af {p:Prog} (h:E3 (.a (Br p))) {x:Node} (hx:x∈p.nodes):x.kids.length≤Ak:=by
 simp only[Br,G0,Dm,Gz,I2]at h
 have h2:Hm (It x):=by
  first|exact h.2.2.2.2.1.2 x hx|exact h.2.2.2.2.2.1.2 x hx|exact h.2.2.2.1.2 x hx|exact h.2.2.1.2 x hx|exact h.2.1.2 x hx
 simp only[It,Dm,Gz,B2]at h2
 first|exact h2.2.2.1.1|exact h2.2.2.1|exact h2.1
theorem Nb {p:Prog} {next:Bool} {d:Nat} {n size:Int} {s:List Int} {x:Node} {y:Int} (h0:0≤n) (h1:n<(p.nodes.length:Int)) (hs:s[n.toNat]? =some y) (hy:y<0) (hx:p.nodes[n.toNat]? =some x) :
 Ce p next (d+1) n size s=if EH p next size x then FY (Ce p next d) x.op size 0 x.kids (s.set n.toNat size)else none:=by
 have e:s.getD n.toNat 0=y:=by rw[E9,hs];rfl
 simp only[Ce];rw[if_neg (by rw[e];omega),hx]
theorem MH {p:Prog} {next:Bool} {d:Nat} {n size:Int} {s:List Int} (h:n<0∨(p.nodes.length:Int)≤n∨0≤s.getD n.toNat 0):Ce p next (d+1) n size s=none:=by
 simp only[Ce];rw[if_pos h]
set_option maxHeartbeats 4000000 in
theorem Z6 (p : Prog) (next:Bool): ∀d:Nat,d≤12→ ∀(n size depth:Int) (s:List Int) (v:V),depth=13 - d→0≤size→size+d≤100→s.length=p.nodes.length→(EW v).isSome=true→
 CL Tryz.prog 96 [.a (Br p),eI n,eI size,eI depth,.b next,v] [.own v 1 (iL s)] (TU v s (Ce p next d n size s)):=by
 intro d
 induction d with
 | zero=>
   intro _ n size depth s v hd h0 h1 hl hv σ hs;refine Bj.fit (by kernel_rfl) fun hf=>?_
   have⟨p1,p2,p3,p4⟩:=Gb hf.1;have hM:=Mx;refine pP nb ?_
   conv=>whnf
   repeat'((first|refine st ?_|(refine sq ?_;intro K U)|(refine si ?_;intro A B Y Z)|(refine Y _ _ ?_;clear Z B Y A)|(refine U _ _ ?_;clear U K)|refine⟨rfl,?_⟩|refine oi ?_|refine ol fun x hx=>?_|(constructor<;>intro hc<;>(try rw[hc])<;>(replace hc:=bp hc)<;>(try simp(disch:=omega) only[B2,wrap64,AU]at hc)<;>try(exfalso;omega))|clear U K)<;>conv=>whnf)
   all_goals exact BG hs (.refl _) (.refl _) fun σ' hs'=>⟨_,⟨s,rfl,rfl,.inr ⟨rfl,rfl⟩⟩,hs'⟩
 | succ d ih =>
   intro hd12 n size depth s v hd h0 h1 hl hv σ hs;refine Bj.fit (by kernel_rfl) fun hf=>?_
   have⟨p1,p2,p3,p4⟩:=Gb hf.1;have hM:=Mx;refine pP nb ?_
   conv=>whnf
   repeat'((first|refine st ?_|(refine sq ?_;intro K U)|(refine si ?_;intro A B Y Z)|(refine Y _ _ ?_;clear Z B Y A)|(refine U _ _ ?_;clear U K)|refine dr ?_|refine rk ?_ ?_|exact fun s e=>by cases e;rfl|refine⟨rfl,?_⟩|refine⟨nb,?_⟩|refine iq fun x hx=>?_|refine ld ?_|refine sn fun σ hs=>?_|refine oi ?_|refine ol fun x hx=>?_|refine oset fun σ hs=>?_|refine Pure.use (fb _ _) ?_|refine Pure.use (YW _ _ _) ?_|(constructor<;>intro hc<;>(try rw[hc])<;>(replace hc:=bp hc)<;>(try simp(disch:=omega) only[B2,wrap64,AU]at hc)<;>try(exfalso;omega))|(intro nn hnn;generalize hg:BI _ nn _=σ;refine al hg fun hs=>?_;clear hg)|clear U K)<;>conv=>whnf)
   ·exact OF hs (by simp) (by rw[Nb (by assumption) (by assumption) (by assumption) (by assumption) hx];simp[EH, *])
   rotate_left
   ·cases hc
   rotate_left
   ·exact OF hs (by simp) (by rw[Nb (by assumption) (by assumption) (by assumption) (by assumption) hx];simp[EH, *])
   ·exact OF hs (by simp) (by rw[Nb (by assumption) (by assumption) (by assumption) (by assumption) hx];simp[EH, *])
   ·exact OF hs rfl (MH (.inr (.inr (by rw[E9,hx];exact hc))))
   ·exact OF hs rfl (MH (.inr (.inl hc)))
   ·exact OF hs rfl (MH (.inl hc))
   all_goals
    have hW:Ce p next (d+1) n size s=FY (Ce p next d) x.op size 0 x.kids (s.set n.toNat size):=by
     rw[Nb (by assumption) (by assumption) (by assumption) (by assumption) hx];simp[EH, *]
    rw[hW]
    rename Node=>nd
    refine C5 nd.kids.length (fun k (_:List Int)=>[(14,eI (Bw k))]) (fun _ s'=>[.own v 1 (iL s'),.obj nn (.cs (It nd))]) (fun k s'=>s'.length=s.length∧FY (Ce p next d) nd.op size 0 nd.kids (s.set n.toNat size)=FY (Ce p next d) nd.op size k (nd.kids.drop k) s') (s.set n.toNat size) rfl ⟨by simp,by simp⟩ hs ?_;clear hs;rintro k s' σ hk ⟨hl',hkids⟩ hs;have hkm:=af hf.1 (DL hx);have hck:Bw k=k:=AU (by omega);by_cases hlt:k<nd.kids.length
    ·obtain⟨kid,hkid⟩: ∃kid,nd.kids[k]? =some kid:=⟨_,E4 hlt⟩
     have hrec:=fun kid sz h0 h1=>ih (by omega) kid sz (depth+1) s' v (by omega) h0 h1 (by omega) hv
     conv=>whnf
     repeat'((first|refine st ?_|(refine sq ?_;intro K U)|(refine si ?_;intro A B Y Z)|(refine Y _ _ ?_;clear Z B Y A)|(refine U _ _ ?_;clear U K)|refine dr ?_|refine⟨rfl,?_⟩|refine⟨nb,?_⟩|refine ix ?_|refine ld ?_|(refine fc (fun x hx hlt hc=>?_) (fun hk hc=>?_)<;>(try rw[hc])<;>clear hc)|(constructor<;>intro hc<;>(try rw[hc])<;>(replace hc:=bp hc)<;>(try simp(disch:=omega) only[B2,wrap64,AU]at hc)<;>try(exfalso;omega))|clear U K)<;>conv=>whnf)
     all_goals try(exfalso;omega)
     all_goals try refine Im (enc:=fun i:Int=>[V.i .i64 i]) hkid hkm rfl ?_
     conv=>whnf
     all_goals try(exfalso;omega)
     all_goals
      have hK2:=hkids;rw[drop_cons hx,FY]at hK2
      first
       | rw[if_pos (by omega)]at hK2
         rw[wrap64 (by omega) (by omega),wrap64 (by omega) (by omega)];refine(hrec x (size+1) (by omega) (by omega)).use hs ?_
       | rw[if_neg (by omega)]at hK2
         rw[wrap64 (by omega) (by omega)];refine(hrec x size (by omega) (by omega)).use hs ?_
      rintro r post σ' ⟨s2,hl2,rfl,⟨ho,rfl⟩|⟨ho,rfl⟩⟩ hs
      ·rw[ho]at hK2
       conv=>whnf
       repeat'((first|refine st ?_|(refine sq ?_;intro K U)|(refine si ?_;intro A B Y Z)|(refine Y _ _ ?_;clear Z B Y A)|(refine U _ _ ?_;clear U K)|refine dr ?_|refine⟨rfl,?_⟩|(constructor<;>intro hc<;>(try rw[hc])<;>(replace hc:=bp hc)<;>(try simp(disch:=omega) only[B2,wrap64,AU]at hc))|clear U K)<;>conv=>whnf)
       all_goals first|(exfalso;cases hc;done)|exact⟨hlt,s2,rfl,⟨by omega,hK2⟩,hs⟩
      ·rw[ho]at hK2
       conv=>whnf
       repeat'((first|refine st ?_|(refine sq ?_;intro K U)|(refine si ?_;intro A B Y Z)|(refine Y _ _ ?_;clear Z B Y A)|(refine U _ _ ?_;clear U K)|refine dr ?_|refine⟨rfl,?_⟩|(constructor<;>intro hc<;>(try rw[hc])<;>(replace hc:=bp hc)<;>(try simp(disch:=omega) only[B2,wrap64,AU]at hc))|clear U K)<;>conv=>whnf)
       all_goals first|exact OF hs (by omega) hK2|(exfalso;cases hc;done)
    ·have hke:k=nd.kids.length:=by omega
     conv=>whnf
     repeat'((first|refine st ?_|(refine sq ?_;intro K U)|(refine si ?_;intro A B Y Z)|(refine Y _ _ ?_;clear Z B Y A)|(refine U _ _ ?_;clear U K)|refine⟨rfl,?_⟩|refine ld ?_|(refine fc (fun x hx hlt hc=>?_) (fun hk hc=>?_)<;>(try rw[hc])<;>clear hc)|(constructor<;>intro hc<;>(try rw[hc])<;>(replace hc:=bp hc)<;>try(exfalso;omega))|clear U K)<;>conv=>whnf)
     all_goals try(exfalso;omega)
     rw[hke,Ax rfl]at hkids;exact BG hs (.cons₂ _ (List.nil_sublist _)) (.refl _) fun σ' hs'=>⟨_,⟨s',hl',rfl,.inl ⟨(by first|rw[hW,hkids,FY]|rw[hkids,FY]),rfl⟩⟩,hs'⟩
end Go.Gl
namespace Go.Gl
variable {P:Program} {σ:AH} {env:Env}
theorem iqF {xs:List Fact} {f:Bool} {K:V→Prop} {ki:IntKind} {j:Int} (h: ∀x,xs[j.toNat]? =some x→K (.rp (xF x))) (h0:0≤j:=by omega) (h1:j<xs.length:=by omega):Al 6 none (.l (xs.map Ge) f) (.i ki j) K:=by
 refine iq (fun x hx=>?_) h0 h1 (by intro x;rw[Bp];rfl);rw[Bp];exact h x hx
theorem lo {l:List At} {i:Nat} {v:V} {sz:Nat} {es:List (List V)} {K:V→Prop} (hk:K (.i .i64 es.length)) (h:Sat σ l:=by assumption)
 (hi:l[i]? =some (.own v sz es):=by first|exact Q8|exact Q7|exact Q6|exact Q5|exact Q4|exact Q3) (hm:es.length≤Ak:=by first|omega|(simp only[B2,List.length_replicate,List.length_set,Ak]at *;omega)):B8 v K:=yM h i hi hm hk
theorem slq {α:Type} {enc:α→List V} {xs:List α} {f:Bool} {sz:Nat} {ki:IntKind} {j:Int} {K:V→AH→Prop} (h:K (.l ((xs.take j.toNat).map enc) (f&&decide (j=((xs.map enc).length:Nat)))) σ) (h0:0≤j:=by omega) (h1:j≤xs.length:=by first|omega|(simp only[B2]at *;omega)) (hs: ∀x,(enc x).length=sz:=by intro x;first|rfl|simp|(rw[Bp];rfl)) :
 Ao σ sz (.l (xs.map enc) f) none (some (.i ki j)) none K:=by
 refine⟨fun e he=>?_,?_⟩
 ·obtain⟨x,_,rfl⟩:=Nv.1 he
  exact hs x
 ·simp only[Pb,B2]
  refine⟨by omega,by omega,by omega,?_⟩;simpa[List.map_take]using h
theorem Sat.take {l:List At} (h:Sat σ l) (n:Nat):Sat σ (l.take n):=h.less (List.take_sublist _ _)
theorem Hw {b:Bool} {σ σ':AH}:Gs σ σ' (.l [] b) (.l [] false):= .l (fun h=>by cases h) .nil
theorem Zz {b:Bool} {σ σ':AH} {es:List (List V)}:Gs σ σ' (.l es b) (.l es false):= .l (fun h=>by cases h) (F6.refl _ _ _)
mutual
theorem Qy {σ σ':AH}: ∀vs:List V,Es σ σ' vs vs
 | []=> .nil
 | v::r=> .cons (.refl v) (Qy r)
end
theorem Ek {σ σ':AH}: ∀es:List (List V),F6 σ σ' es es
 | []=> .nil
 | e::r=> .cons (Qy e) (Ek r)
theorem xq {α:Type} {enc:α→List V} {xs:List α} {y:α} {l:List At} {i:Nat} {v x:V} {sz k:Nat} {vc:List V} {K:AH→Prop} (hk: ∀σ',Sat σ' (l.set i (.own v sz ((xs.set k y).map enc)))→K σ') (h:Sat σ l:=by assumption)
 (hi:l[i]? =some (.own v sz (xs.map enc)):=by first|exact Q8|exact Q7|exact Q6|exact Q5|exact Q4|exact Q3) (hc:cellsOf x=some vc:=by rfl) (he:vc=enc y:=by rfl) (hg:F9 enc sz:=by first|exact DC|exact Dg|exact SH|exact L6|exact No)
 (hv:(EW v).isSome=true:=by rfl) (h1:k<xs.length:=by first|omega|(simp only[B2]at *;omega)):Aq σ sz (GA v sz k) x K:=oset hk h hi hc he hg hv h1
theorem B0 {α:Type} (xs:List α) {k:Nat} (hk:k≤xs.length):(∃x,xs[k]? =some x∧k<xs.length)∨k=xs.length:=by
 rcases Nat.lt_or_ge k xs.length with h|h
 ·exact .inl ⟨_,E4 h,h⟩
 ·exact .inr (by omega)
theorem Et {α:Type} {enc:α→List V} {xs:List α} {k:Nat} {x:α} {A B:Prop} (h1:decide (Bw k<((xs.map enc).length:Nat))=true→A) (hx:xs[k]? =some x:=by assumption) (hm:xs.length≤Ak:=by first|assumption|omega|simp[Ak]<;>omega) :
 (decide (Bw k<((xs.map enc).length:Nat))=true→A)∧(decide (Bw k<((xs.map enc).length:Nat))=false→B):=by
 refine⟨h1,fun h=>?_⟩;have hlt:=(List.getElem?_eq_some_iff.1 hx).1;rw[AU (by omega),B2]at h;have:=of_decide_eq_false h;omega
theorem F4 {α:Type} {enc:α→List V} {xs:List α} {k:Nat} {A B:Prop} (h1:decide (Bw k<((xs.map enc).length:Nat))=false→B) (hx:k=xs.length:=by assumption) (hm:xs.length≤Ak:=by first|assumption|omega|simp[Ak]<;>omega) :
 (decide (Bw k<((xs.map enc).length:Nat))=true→A)∧(decide (Bw k<((xs.map enc).length:Nat))=false→B):=by
 refine⟨fun h=>?_,h1⟩;rw[AU (by omega),B2]at h;have:=of_decide_eq_true h;omega
theorem Sp {α:Type} {enc:α→List V} {xs:List α} {f:Bool} {sz:Nat} {K:V→Prop} {ki:IntKind} {j:Int} {x:α} (h:K (.rp (enc x))) (hx:xs[j.toNat]? =some x:=by assumption) (h0:0≤j:=by omega) (hs:(enc x).length=sz:=by first|rfl|simp|(rw[Bp];rfl)) :
 Al sz none (.l (xs.map enc) f) (.i ki j) K:=S6 j.toNat hx (by omega) hs h
theorem RI {xs:List Fact} {f:Bool} {K:V→Prop} {ki:IntKind} {j:Int} {x:Fact} (h:K (.rp (xF x))) (hx:xs[j.toNat]? =some x:=by assumption) (h0:0≤j:=by omega):Al 6 none (.l (xs.map Ge) f) (.i ki j) K:=by
 refine Sp ?_ hx h0;rw[Bp];exact h
class CB (b:Bool) (v:outParam Bool):Prop where
 h:b=v
instance :CB true true:=⟨rfl⟩
instance :CB false false:=⟨rfl⟩
instance {b:Bool} [i:CB b true]:CB (!b) false:=⟨by rw[i.h];rfl⟩
instance {b:Bool} [i:CB b false]:CB (!b) true:=⟨by rw[i.h];rfl⟩
instance {b x y v:Bool} [i:CB b true] [j:CB x v]:CB (bif b then x else y) v:=⟨by rw[i.h,j.h];rfl⟩
instance {b x y v:Bool} [i:CB b false] [j:CB y v]:CB (bif b then x else y) v:=⟨by rw[i.h,j.h];rfl⟩
instance {a b:Bool} [i:CB a true] [j:CB b true]:CB (a==b) true:=⟨by rw[i.h,j.h];rfl⟩
instance {a b:Bool} [i:CB a true] [j:CB b false]:CB (a==b) false:=⟨by rw[i.h,j.h];rfl⟩
instance {a b:Bool} [i:CB a false] [j:CB b true]:CB (a==b) false:=⟨by rw[i.h,j.h];rfl⟩
instance {a b:Bool} [i:CB a false] [j:CB b false]:CB (a==b) true:=⟨by rw[i.h,j.h];rfl⟩
instance {a b:Bool} [i:CB a true] [j:CB b true]:CB (a != b) false:=⟨by rw[i.h,j.h];rfl⟩
instance {a b:Bool} [i:CB a true] [j:CB b false]:CB (a != b) true:=⟨by rw[i.h,j.h];rfl⟩
instance {a b:Bool} [i:CB a false] [j:CB b true]:CB (a != b) true:=⟨by rw[i.h,j.h];rfl⟩
instance {a b:Bool} [i:CB a false] [j:CB b false]:CB (a != b) false:=⟨by rw[i.h,j.h];rfl⟩
theorem Ls {A B:Prop} {b:Bool} [i:CB b true] (h:A):(b=true→A)∧(b=false→B):=⟨fun _=>h,fun e=>(by rw[i.h]at e;cases e)⟩
theorem IV {A B:Prop} {b:Bool} [i:CB b false] (h:B):(b=true→A)∧(b=false→B):=⟨fun e=>(by rw[i.h]at e;cases e),fun _=>h⟩
theorem Uw {α:Type} {enc:α→List V} {xs:List α} {x:α} {l:List At} {i:Nat} {v:V} {sz k:Nat} {agg:Option Nat} {K:V→Prop} (hk:cut agg (enc x) 0 K) (h:Sat σ l:=by assumption)
 (hi:l[i]? =some (.own v sz (xs.map enc)):=by first|exact Q8|exact Q7|exact Q6|exact Q5|exact Q4|exact Q3) (hx:xs[k]? =some x:=by assumption):A7 σ agg (GA v sz k) K:=
 Hv h i hi (by rw[Pu,hx];rfl) hk
theorem yB {xs:List Fact} {x:Fact} {l:List At} {i:Nat} {v:V} {k:Nat} {agg:Option Nat} {K:V→Prop} (hk:cut agg (xF x) 0 K) (h:Sat σ l:=by assumption)
 (hi:l[i]? =some (.own v 6 (facts xs)):=by first|exact Q8|exact Q7|exact Q6|exact Q5|exact Q4|exact Q3) (hx:xs[k]? =some x:=by assumption):A7 σ agg (GA v 6 k) K:=
 Hv h i hi (by rw[Pu,hx];exact congrArg some (Bp x)) hk
theorem lM {v:V} (h:(EW v).isSome=true): ∃n l c,v= .sl n l c:=by
 cases v<;>first|(cases h;done)|exact⟨_,_,_,rfl⟩
theorem apF {l:List At} {i:Nat} {xs:List Fact} {x:Fact} {v:V} {f:Bool} {e:List V} {K:V→AH→Prop} (hk: ∀v' σ',Sat σ' (l.set i (.own v' 6 (facts (xs++[x]))))→(EW v').isSome=true→K v' σ') (h:Sat σ l:=by assumption)
 (hi:l[i]? =some (.own v 6 (facts xs)):=by first|exact Q8|exact Q7|exact Q6|exact Q5|exact Q4|exact Q3)
 (he:e=xF x:=by rfl)
 {b:Nat} (hl:xs.length<Ak∧(xs.length+1)*b≤140737488355328:=by first|assumption|omega|(simp only[Sl,B2,NW,List.length_nil,PZ,zqZ,List.length_replicate,Ak]at *;omega)):Aa b σ 6 v (.l [e] f) K:=
 GM (Fs h i hi hl L6 hk (by rw[he,Bp]))
end Go.Gl
namespace Go.Gl
open Go.Proofs
attribute [local irreducible] Bj Bf Ba Al Aa BS Ao Aq Ac BO Ah Ap Bz CA Sat A7 B8 Be W
theorem PA {w:AP} (f:Fact):CZ w f=true→P3 f=true:=by
 induction f using Fact.ind with
 | h f ih=>
   intro h;rw[Df]at h;simp only[Da,Bn,IU,D8]at h;rw[On];simp only[Bn,D8,List.all_map,IU,Function.comp_apply,id];exact⟨⟨h.1.2.2.1,h.1.2.2.2.1⟩,fun k hk=>ih k hk (h.2 k hk)⟩
def Pa (p:Prog) (m:N8):Bool:=decide (1≤m.kind)&&(decide (m.kind≤4)&&(decide (0≤m.gen)&&(decide (m.gen<(p.EA.length:Int))&&(Ev (Ae p) m.fact&&decide (Gw m.fact≤p.EA.getD m.gen.toNat 0)))))
def runM (p:Prog):List N8→List Int→Option (List Int)
 | [],s=>some s
 | m::r,s=>if Pa p m then match Ce p (Jl m.kind) 12 m.node (p.EA.getD m.gen.toNat 0) s with
   | none=>none
   | some s'=>runM p r s' else none
def DN (p:Prog):Bool:=BC p&&(decide (p.EA.length≤8)&&(decide (p.methods.length≤16)&&(decide (1≤p.nodes.length)&&(decide (p.nodes.length≤120)&&p.EA.all fun g=>decide (1≤g)&&decide (g≤3)))))
def Bx (p:Prog):Option (List Int):=if DN p then match runM p p.methods (List.replicate p.nodes.length (-1))with
 | none=>none
 | some s=>match Ce p false 12 p.main 0 s with
   | none=>none
   | some s=>if s.all fun n=>decide (0≤n)then some s else none else none
def Jn (p:Prog):Option (List Int)→Option (List Int)
 | none=>none
 | some s=>match Ce p false 12 p.main 0 s with
   | none=>none
   | some s=>if s.all fun n=>decide (0≤n)then some s else none
def Mp (p:Prog):V:=match Bx p with
 | none=> .t [.l [] true,.b false]
 | some s=> .t [.l (iL s) false,.b true]
theorem lW {p:Prog} (h:Bx p=none):Mp p= .t [.l [] true,.b false]:=by simp only[Mp,h]
theorem zb {p:Prog} (h:DN p=false):Mp p= .t [.l [] true,.b false]:=lW (by unfold Bx;rw[h];rfl)
theorem Kt {p:Prog} {σ:AH} (h:Bx p=none):Bf σ (.t [.l [] true,.b false]) fun r σ'=>r=R.ret (Mp p)∧σ'=emp:=by
 rw[lW h];exact AM rfl
theorem OE {p:Prog} {σ:AH} (h:DN p=false):Bf σ (.t [.l [] true,.b false]) fun r σ'=>r=R.ret (Mp p)∧σ'=emp:=by
 rw[zb h];exact AM rfl
theorem XF {p:Prog} (h:DN p=true):Bx p=Jn p (runM p p.methods (List.replicate p.nodes.length (-1))):=by
 unfold Bx;rw[if_pos h];rfl
theorem Dk {p:Prog} {k:Nat} {x:N8} {s:List Int} (hx:p.methods[k]? =some x) (hn:Bx p=Jn p (runM p (p.methods.drop k) s)) (hok:Pa p x=false):Bx p=none:=by
 rw[hn,drop_cons hx,runM,if_neg (by simp[hok])];rfl
theorem QH {p:Prog} {k:Nat} {x:N8} {s:List Int} (hx:p.methods[k]? =some x) (hn:Bx p=Jn p (runM p (p.methods.drop k) s)) (hok:Pa p x=true) (hw:Ce p (Jl x.kind) 12 x.node (p.EA.getD x.gen.toNat 0) s=none):Bx p=none:=by
 rw[hn,drop_cons hx,runM,if_pos hok,hw];rfl
theorem Ws {p:Prog} {k:Nat} {x:N8} {s s':List Int} (hx:p.methods[k]? =some x) (hn:Bx p=Jn p (runM p (p.methods.drop k) s)) (hok:Pa p x=true) (hw:Ce p (Jl x.kind) 12 x.node (p.EA.getD x.gen.toNat 0) s=some s'):Bx p=Jn p (runM p (p.methods.drop (k+1)) s'):=by
 rw[hn,drop_cons hx,runM,if_pos hok,hw]
theorem Qb {p:Prog} (h:DN p=true) {k:Nat} {x:Int} (hx:p.EA[k]? =some x):1≤x∧x≤3:=by
 simp only[DN,Bn,IU,D8]at h;exact h.2.2.2.2.2 x (DL hx)
set_option maxHeartbeats 4000000 in
theorem tH (p:Prog):Pure Tryz.prog 65 [.a (Br p)] (Mp p):=by
 refine Pure.fit (by kernel_rfl) fun hf=>?_
 have⟨p1,p2,p3,p4⟩:=Gb hf.1;have hM:=Mx;refine zx nb ?_;have hs:=Sn
 conv=>whnf
 repeat'((first|refine st ?_|(refine sq ?_;intro K U)|(refine si ?_;intro A B Y Z)|(refine Y _ _ ?_;clear Z B Y A)|(refine U _ _ ?_;clear U K)|refine⟨rfl,?_⟩|refine⟨nb,?_⟩|refine Pure.use (ZC _) ?_|(constructor<;>intro hc<;>(try rw[hc])<;>(replace hc:=bp hc)<;>(try simp(disch:=omega) only[B2,wrap64,AU]at hc))|clear U K)<;>conv=>whnf)
 ·exact OE (by simp[DN];intros;omega)
 rotate_left
 ·exact OE (by simp[DN];intros;omega)
 ·exact OE (by simp[DN];intros;omega)
 ·exact OE (by simp[DN];intros;omega)
 ·exact OE (by simp[DN, *])
 have a1:p.EA.length≤8:=by omega
 have a2:p.methods.length≤16:=by omega
 have a3:1≤p.nodes.length:=by omega
 have a4:p.nodes.length≤120:=by omega
 have hg:DN p=p.EA.all fun g=>decide (1≤g)&&decide (g≤3):=by
  simp only[DN,a1,a2,a3,a4,decide_true,Bool.true_and];simp[*]
 refine C5 p.EA.length (fun k (_:Unit)=>[(4,eI (Bw k))]) (fun _ _=>[]) (fun k _=>DN p=(p.EA.drop k).all fun g=>decide (1≤g)&&decide (g≤3)) () rfl (by simpa using hg) hs ?_;clear hs;rintro k - σ hk hn hs
 conv=>whnf
 repeat'((first|refine st ?_|(refine sq ?_;intro K U)|(refine si ?_;intro A B Y Z)|(refine Y _ _ ?_;clear Z B Y A)|(refine U _ _ ?_;clear U K)|refine⟨rfl,?_⟩|refine ix ?_|(refine fc (fun x hx hlt hc=>?_) (fun hk hc=>?_)<;>(try rw[hc])<;>clear hc)|(constructor<;>intro hc<;>(try rw[hc])<;>(replace hc:=bp hc))|clear U K)<;>conv=>whnf)
 ·exact OE (by rw[hn,drop_cons hx];simp;intros;omega)
 ·exact⟨hlt,(),rfl,by rw[hn,drop_cons hx];simp[*],hs⟩
 ·exact OE (by rw[hn,drop_cons hx];simp;intros;omega)
 have hh:DN p=true:=by rw[hn,Ax hk];rfl
 have F:=Mq hf.1;have hcB:BC p=true:=by assumption
 have hsb:C0 0 p.AO=true:=by simp only[BC,Bn]at hcB;exact hcB.2.1
 have hc10:p.AO.length≤1000:=by simp only[BC,Bn,D8]at hcB;omega
 have hmS:B3 p.AO≤Ak:=by have:=(FF _ _ hsb).1;simp only[BC,Bn,D8]at hcB;omega
 have hL:=XF hh;clear hn hg;refine C5 p.nodes.length (fun j v=>[(5,v),(6,eI (Bw j))]) (fun j v=>[.own v 1 (iL (List.replicate j (-1)))]) (fun j v=>1≤j→(EW v).isSome=true) (.l [] true) rfl (fun h=>by omega) (Hl hs 1) ?_;clear hs;rintro j v σ hj hv hs
 conv=>whnf
 repeat'((first|refine st ?_|(refine sq ?_;intro K U)|(refine si ?_;intro A B Y Z)|(refine Y _ _ ?_;clear Z B Y A)|(refine U _ _ ?_;clear U K)|refine⟨rfl,?_⟩|refine⟨nb,?_⟩|refine sn fun σ hs=>?_|refine aq fun v σ hs hsl=>?_|(refine fc (fun x hx hlt hc=>?_) (fun hk hc=>?_)<;>(try rw[hc])<;>clear hc)|refine Pure.use (Rw _ (by assumption) (by omega) (by assumption)) ?_|(intro nn hnn;generalize hg:BI _ nn _=σ;refine al hg fun hs=>?_;clear hg)|clear U K)<;>conv=>whnf)
 ·exact⟨hlt,_,rfl,fun _=>hsl,by rw[List.replicate_succ'];exact hs⟩
 have hsv:=hv (by omega);subst hk;refine C5 p.methods.length (fun k (s:List Int)=>[(8,eI (Bw k))]) (fun _ s=>[.own v 1 (iL s),.box nn (BQ (Ae p))]) (fun k s=>s.length=p.nodes.length∧Bx p=Jn p (runM p (p.methods.drop k) s)) (List.replicate p.nodes.length (-1)) rfl ⟨by simp,hL⟩ hs ?_;clear hs;rintro k s σ hk ⟨hl,hn⟩ hs
 conv=>whnf
 repeat'((first|refine st ?_|(refine sq ?_;intro K U)|(refine si ?_;intro A B Y Z)|(refine Y _ _ ?_;clear Z B Y A)|(refine U _ _ ?_;clear U K)|refine dr ?_|refine rk ?_ ?_|exact fun s e=>by cases e;rfl|refine⟨rfl,?_⟩|refine⟨nb,?_⟩|refine ix ?_|refine iq fun x hx=>?_|refine ld ?_|refine sn fun σ hs=>?_|(refine fc (fun x hx hlt hc=>?_) (fun hk hc=>?_)<;>(try rw[hc])<;>clear hc)|refine Pure.use (cV _ _) ?_|(constructor<;>intro hc<;>(try rw[hc])<;>(replace hc:=bp hc)<;>(try simp(disch:=omega) only[B2,wrap64,AU]at hc))|(intro nn hnn;generalize hg:BI _ nn _=σ;refine al hg fun hs=>?_;clear hg)|clear U K)<;>conv=>whnf)
 rotate_left
 ·exact Kt (Dk hx hn (by simp[Pa, *]))
 ·exact Kt (Dk hx hn (by simp[Pa];intros;omega))
 ·exact Kt (Dk hx hn (by simp[Pa];intros;omega))
 ·exact Kt (Dk hx hn (by simp[Pa];intros;omega))
 ·exact Kt (Dk hx hn (by simp[Pa];intros;omega))
 ·refine(Z6 p false 12 (Nat.le_refl _) p.main 0 1 s v rfl (by omega) (by omega) hl hsv).use hs ?_
  clear hs;rintro r post σ ⟨s2,hl2,rfl,⟨ho,rfl⟩|⟨ho,rfl⟩⟩ hs
  ·conv=>whnf
   repeat'((first|refine st ?_|(refine sq ?_;intro K U)|(refine si ?_;intro A B Y Z)|(refine Y _ _ ?_;clear Z B Y A)|(refine U _ _ ?_;clear U K)|(constructor<;>intro hc<;>(try rw[hc])<;>(replace hc:=bp hc)<;>(try simp(disch:=omega) only[B2,wrap64,AU]at hc))|clear U K)<;>conv=>whnf)
   ·cases hc
   have hz:Bx p=if s2.all fun n=>decide (0≤n)then some s2 else none:=by rw[hn,Ax hk,runM,Jn,ho]
   refine C5 s2.length (fun j (_:Unit)=>[(10,eI (Bw j))]) (fun _ _=>[.own v 1 (iL s2),.box nn (BQ (Ae p))]) (fun j _=>Bx p=if(s2.drop j).all fun n=>decide (0≤n)then some s2 else none) () rfl hz hs ?_;clear hs;rintro j - σ hj hz hs
   conv=>whnf
   repeat'((first|refine st ?_|(refine sq ?_;intro K U)|(refine si ?_;intro A B Y Z)|(refine Y _ _ ?_;clear Z B Y A)|(refine U _ _ ?_;clear U K)|refine⟨rfl,?_⟩|refine oc ?_|refine ol fun x hx=>?_|(refine fc (fun x hx hlt hc=>?_) (fun hk hc=>?_)<;>(try rw[hc])<;>clear hc)|refine lo ?_|(constructor<;>intro hc<;>(try rw[hc])<;>(replace hc:=bp hc))|clear U K)<;>conv=>whnf)
   ·exact Kt (by rw[hz,drop_cons hx,List.all_cons,if_neg];simp;intros;omega)
   ·exact⟨hlt,(),rfl,by rw[hz,drop_cons hx,List.all_cons];simp[*],hs⟩
   ·have hz2:Bx p=some s2:=by rw[hz,Ax (by assumption)];rfl
    simp only[Mp,hz2];exact CD (.t (.cons (hs.I9 0 rfl) (.cons (.refl _) .nil)))
  ·conv=>whnf
   repeat'((first|refine st ?_|(refine sq ?_;intro K U)|(refine si ?_;intro A B Y Z)|(refine Y _ _ ?_;clear Z B Y A)|(refine U _ _ ?_;clear U K)|(constructor<;>intro hc<;>(try rw[hc])<;>(replace hc:=bp hc)<;>(try simp(disch:=omega) only[B2,wrap64,AU]at hc))|clear U K)<;>conv=>whnf)
   ·exact Kt (by rw[hn,Ax hk,runM,Jn,ho])
   ·cases hc
 rename N8=>m
 rename p.methods[k]? =some m=>hm
 refine(bj m.fact (PA _ (by(have:Ev (Ae p) m.fact=true:=by assumption);simp only[Ev,Bn]at this;exact this.2.2))).use ?_
 conv=>whnf
 repeat'((first|refine st ?_|(refine sq ?_;intro K U)|(refine si ?_;intro A B Y Z)|(refine Y _ _ ?_;clear Z B Y A)|(refine U _ _ ?_;clear U K)|refine dr ?_|refine rk ?_ ?_|exact fun s e=>by cases e;rfl|refine⟨rfl,?_⟩|refine⟨nb,?_⟩|refine iq fun x hx=>?_|refine ld ?_|refine Pure.use (s4 _) ?_|(constructor<;>intro hc<;>(try rw[hc])<;>(replace hc:=bp hc))|clear U K)<;>conv=>whnf)
 ·exact Kt (Dk hm hn (by simp[Pa,E9,hx];intros;omega))
 obtain⟨hx1,hx3⟩:=Qb hh hx;have hgd:p.EA.getD m.gen.toNat 0=x:=by rw[E9,hx];rfl
 rename p.EA[m.gen.toNat]? =some _=>hx2
 have hxe:=Option.some.inj (hx.symm.trans hx2);subst hxe;have hok:Pa p m=true:=by simp only[Pa,hgd,Bn,D8];exact⟨by assumption,by omega,by assumption,by assumption,by assumption,by assumption⟩
 refine(Z6 p (Jl m.kind) 12 (Nat.le_refl _) m.node x 1 s v rfl (by omega) (by omega) hl hsv).use (rest:=[_,_]) hs ?_;clear hs;rintro r post σ ⟨s2,hl2,rfl,⟨ho,rfl⟩|⟨ho,rfl⟩⟩ hs
 ·conv=>whnf
  repeat'((first|refine st ?_|(refine sq ?_;intro K U)|(refine si ?_;intro A B Y Z)|(refine Y _ _ ?_;clear Z B Y A)|(refine U _ _ ?_;clear U K)|refine dr ?_|refine⟨rfl,?_⟩|(constructor<;>intro hc<;>(try rw[hc])<;>(replace hc:=bp hc)<;>(try simp(disch:=omega) only[B2,wrap64,AU]at hc))|clear U K)<;>conv=>whnf)
  ·cases hc
  ·exact⟨by assumption,s2,rfl,⟨by omega,Ws hm hn hok (by rw[hgd];exact ho)⟩,hs.less (.cons₂ _ (.cons₂ _ (List.nil_sublist _)))⟩
 ·conv=>whnf
  repeat'((first|refine st ?_|(refine sq ?_;intro K U)|(refine si ?_;intro A B Y Z)|(refine Y _ _ ?_;clear Z B Y A)|(refine U _ _ ?_;clear U K)|refine dr ?_|refine⟨rfl,?_⟩|(constructor<;>intro hc<;>(try rw[hc])<;>(replace hc:=bp hc)<;>(try simp(disch:=omega) only[B2,wrap64,AU]at hc))|clear U K)<;>conv=>whnf)
  ·exact Kt (QH hm hn hok (by rw[hgd];exact ho))
  ·cases hc
theorem sX (p:Prog):Pure Tryz.prog 27 [.a (Br p)] (.b (Bx p).isSome):=by
 refine AAF nb ?_;have h:=tH p;unfold Mp at h;cases hl:Bx p with
 | none=>
   rw[hl]at h
   conv=>whnf
   repeat'((first|refine st ?_|(refine sq ?_;intro K U)|(refine si ?_;intro A B Y Z)|(refine Y _ _ ?_;clear Z B Y A)|(refine U _ _ ?_;clear U K)|refine⟨nb,?_⟩|refine Pure.use (by assumption) ?_|fail)<;>conv=>whnf)
   all_goals exact AM (by first|rfl|simp)
 | some s=>
   rw[hl]at h
   conv=>whnf
   repeat'((first|refine st ?_|(refine sq ?_;intro K U)|(refine si ?_;intro A B Y Z)|(refine Y _ _ ?_;clear Z B Y A)|(refine U _ _ ?_;clear U K)|refine⟨nb,?_⟩|refine Pure.use (by assumption) ?_|fail)<;>conv=>whnf)
   all_goals exact AM (by first|rfl|simp)
theorem KM (xs ys:List Int) (f g:Bool):Pure Tryz.prog 30 [.l (iL xs) f,.l (iL ys) g] (.b (xs==ys)):=by
 refine Pure.fit (by kernel_rfl) fun hf=>?_
 have hx:=Ks hf.1;have hy:=Ks hf.2.1;have hM:=Mx;refine AAE nb ?_;have hs:=Sn
 conv=>whnf
 repeat'((first|refine st ?_|(refine sq ?_;intro K U)|(refine si ?_;intro A B Y Z)|(refine Y _ _ ?_;clear Z B Y A)|(refine U _ _ ?_;clear U K)|refine⟨rfl,?_⟩|(constructor<;>intro hc<;>(try rw[hc])<;>(replace hc:=bp hc)<;>(try simp(disch:=omega) only[B2,wrap64,AU]at hc))|clear U K)<;>conv=>whnf)
 ·exact AM (by(have:(xs==ys)=false:=by(simp;intro e;subst e;simp at hc));rw[this])
 have hl:xs.length=ys.length:=by omega
 refine C5 xs.length (fun k (_:Unit)=>[(13,eI (Bw k))]) (fun _ _=>[]) (fun k _=>(xs==ys)=(xs.drop k==ys.drop k)) () rfl rfl Sat.nil ?_;clear hs;rintro k - σ hk hn hs;by_cases hlt:k<xs.length
 ·obtain⟨y,hyk⟩: ∃y,ys[k]? =some y:=⟨_,E4 (by omega)⟩
  conv=>whnf
  repeat'((first|refine st ?_|(refine sq ?_;intro K U)|(refine si ?_;intro A B Y Z)|(refine Y _ _ ?_;clear Z B Y A)|(refine U _ _ ?_;clear U K)|refine dr ?_|refine⟨rfl,?_⟩|refine ix ?_|(refine fc (fun x hx hlt hc=>?_) (fun hk hc=>?_)<;>(try rw[hc])<;>clear hc)|(constructor<;>intro hc<;>(try rw[hc])<;>(replace hc:=bp hc))|clear U K)<;>conv=>whnf)
  ·exact AM (by rw[hn,drop_cons hx,drop_cons hyk];simp[hc])
  ·exact⟨hlt,(),rfl,by rw[hn,drop_cons hx,drop_cons hyk,hc];simp,hs⟩
  ·omega
 ·conv=>whnf
  repeat'((first|refine st ?_|(refine sq ?_;intro K U)|(refine si ?_;intro A B Y Z)|(refine Y _ _ ?_;clear Z B Y A)|(refine U _ _ ?_;clear U K)|refine dr ?_|refine⟨rfl,?_⟩|refine ix ?_|refine iq fun x hx=>?_|(refine fc (fun x hx hlt hc=>?_) (fun hk hc=>?_)<;>(try rw[hc])<;>clear hc)|(constructor<;>intro hc<;>(try rw[hc])<;>(replace hc:=bp hc)<;>try(exfalso;omega))|clear U K)<;>conv=>whnf)
  exact AM (by rw[hn,Ax hk,Ax (by omega)];rfl)
def Pk:List (Fact→Bool)→List Fact→Bool
 | h::r,k::s=>h k&&Pk r s
 | _,_=>true
def lN (f:Fact) (l:List (Fact→Bool)) (g:Fact):Bool:=f.op==g.op&&(f.arg==g.arg&&(f.cls==g.cls&&(f.n==g.n&&(f.path==g.path&&(f.kids.length==g.kids.length&&Pk l g.kids)))))
def FT (f:Fact):Fact→Bool:=f.IZ lN
theorem LI (f g:Fact):FT f g=(f.op==g.op&&(f.arg==g.arg&&(f.cls==g.cls&&(f.n==g.n&&(f.path==g.path&&(f.kids.length==g.kids.length&&Pk (f.kids.map FT) g.kids)))))):=congrFun (Fact.EU lN f) g
theorem UI {xs ys:List Fact} (h: ∀x∈xs,∀y,FT x y=true↔x=y) (hl:xs.length=ys.length):Pk (xs.map FT) ys=true↔xs=ys:=by
 induction xs generalizing ys with
 | nil=>cases ys with
   | nil=>simp[Pk]
   | cons _ _=>simp at hl
 | cons x r ih=>cases ys with
   | nil=>simp at hl
   | cons y s=>
     simp only[List.map_cons,Pk,Bn,List.cons.injEq];rw[h x (.head _) y,ih (fun x hx=>h x (.tail _ hx)) (by simpa using hl)]
theorem QF (f g:Fact):FT f g=true↔f=g:=by
 induction f using Fact.ind generalizing g with
 | h f ih=>
   rw[LI];cases f with
   | mk o a p c n k=>cases g with
     | mk o' a' p' c' n' k'=>
       simp only[Fact.op,Fact.arg,Fact.cls,Fact.n,Fact.path,Fact.kids,Bn,FQ,Fact.mk.injEq]at *;constructor
       ·rintro⟨rfl,rfl,rfl,rfl,rfl,hl,h⟩
        exact⟨rfl,rfl,rfl,rfl,rfl,(UI (fun x hx y=>ih x hx y) hl).1 h⟩
       ·rintro⟨rfl,rfl,rfl,rfl,rfl,rfl⟩
        exact⟨rfl,rfl,rfl,rfl,rfl,rfl,(UI (fun x hx y=>ih x hx y) rfl).2 rfl⟩
set_option maxHeartbeats 1000000 in
theorem eV (f g:Fact):Pure Tryz.prog 232 [.a (xF f),.a (xF g)] (.b (FT f g)):=by
 induction f using Fact.ind generalizing g with
 | h f ih=>
   refine Pure.fit (by kernel_rfl) fun hf=>?_
   have⟨h2,h3,h4⟩:=Jp hf.1;have⟨g2,g3,g4⟩:=Jp hf.2.1;have hM:=Mx;refine vQ nb ?_;have hs:=Sn
   conv=>whnf
   repeat'((first|refine st ?_|(refine sq ?_;intro K U)|(refine si ?_;intro A B Y Z)|(refine Y _ _ ?_;clear Z B Y A)|(refine U _ _ ?_;clear U K)|refine⟨rfl,?_⟩|refine Pure.use (KM _ _ _ _) ?_|(constructor<;>intro hc<;>(try rw[hc])<;>(replace hc:=bp hc)<;>(try simp(disch:=omega) only[B2,wrap64,AU]at hc))|clear U K)<;>conv=>whnf)
   rotate_left
   all_goals try exact AM (by rw[LI];simp[*]<;>omega)
   rotate_left
   ·have hkl:f.kids.length=g.kids.length:=by omega
    refine C5 f.kids.length (fun k (_:Unit)=>[(52,eI (Bw k))]) (fun _ _=>[]) (fun k _=>FT f g=Pk ((f.kids.drop k).map FT) (g.kids.drop k)) () rfl (by rw[LI];simp[*]) Sat.nil ?_;clear hs;rintro k - σ hk hn hs;by_cases hlt:k<f.kids.length
    ·obtain⟨y,hyk⟩: ∃y,g.kids[k]? =some y:=⟨_,E4 (by omega)⟩
     conv=>whnf
     repeat'((first|refine st ?_|(refine sq ?_;intro K U)|(refine si ?_;intro A B Y Z)|(refine Y _ _ ?_;clear Z B Y A)|(refine U _ _ ?_;clear U K)|refine dr ?_|refine⟨rfl,?_⟩|refine⟨nb,?_⟩|refine Q2 ?_|(refine fc (fun x hx hlt hc=>?_) (fun hk hc=>?_)<;>(try rw[hc])<;>clear hc)|clear U K)<;>conv=>whnf)
     ·refine(ih x (DL hx) y).use ?_
      conv=>whnf
      repeat'((first|refine st ?_|(refine sq ?_;intro K U)|(refine si ?_;intro A B Y Z)|(refine Y _ _ ?_;clear Z B Y A)|(refine U _ _ ?_;clear U K)|refine dr ?_|refine⟨rfl,?_⟩|(constructor<;>intro hc<;>(try rw[hc])<;>(replace hc:=bp hc))|clear U K)<;>conv=>whnf)
      ·exact AM (by rw[hn,drop_cons hx,drop_cons hyk,List.map_cons,Pk,hc];rfl)
      ·exact⟨hlt,(),rfl,by rw[hn,drop_cons hx,drop_cons hyk,List.map_cons,Pk,hc];rfl,hs⟩
     ·omega
    ·conv=>whnf
     repeat'((first|refine st ?_|(refine sq ?_;intro K U)|(refine si ?_;intro A B Y Z)|(refine Y _ _ ?_;clear Z B Y A)|(refine U _ _ ?_;clear U K)|refine dr ?_|refine⟨rfl,?_⟩|refine⟨nb,?_⟩|refine Q2 ?_|refine iq fun x hx=>?_|(refine fc (fun x hx hlt hc=>?_) (fun hk hc=>?_)<;>(try rw[hc])<;>clear hc)|clear U K)<;>conv=>whnf)
     all_goals first|(exfalso;omega)|exact AM (by rw[hn,Ax hk];rfl)
def Gv (f:Fact):Fact:= .mk 5 0 [] 0 0 [f]
def Pj (f g:Fact):Fact:= .mk 6 0 [] 0 0 [f,g]
theorem aP (f:Fact):Pure Tryz.prog 113 [.a (xF f)] (.a (xF (Gv f))):=by
 refine xQ nb ?_;have hs:=Sn
 conv=>whnf
 repeat'((first|refine st ?_|(refine sq ?_;intro K U)|(refine si ?_;intro A B Y Z)|(refine Y _ _ ?_;clear Z B Y A)|(refine U _ _ ?_;clear U K)|refine⟨nb,?_⟩|refine ld ?_|refine sn fun σ hs=>?_|(intro nn hnn;generalize hg:BI _ nn _=σ;refine al hg fun hs=>?_;clear hg)|fail)<;>conv=>whnf)
 refine CD (.a (.cons (.refl _) (.cons (.refl _) (.cons Hw (.cons (.refl _) (.cons (.refl _) (.cons ?_ .nil)))))));refine .l (fun h=>by cases h) ?_;simp only[Gv,Fact.kids,List.map,Bp];exact Ek _
theorem xg (f g:Fact):Pure Tryz.prog 112 [.a (xF f),.a (xF g)] (.a (xF (Pj f g))):=by
 refine xR nb ?_;have hs:=Sn
 conv=>whnf
 repeat'((first|refine st ?_|(refine sq ?_;intro K U)|(refine si ?_;intro A B Y Z)|(refine Y _ _ ?_;clear Z B Y A)|(refine U _ _ ?_;clear U K)|refine⟨nb,?_⟩|refine ld ?_|refine sn fun σ hs=>?_|(intro nn hnn;generalize hg:BI _ nn _=σ;refine al hg fun hs=>?_;clear hg)|fail)<;>conv=>whnf)
 refine CD (.a (.cons (.refl _) (.cons (.refl _) (.cons Hw (.cons (.refl _) (.cons (.refl _) (.cons ?_ .nil)))))));refine .l (fun h=>by cases h) ?_;simp only[Pj,Fact.kids,List.map,Bp];exact Ek _
def F8 (l:Fact):Prop:=l.op=5→l.kids≠[]
def BV (l:Fact):Fact×Bool:=if l.op=5 then(l.kids.headD default,true)else(l,false)
theorem HO (l:Fact) (h:F8 l):Pure Tryz.prog 262 [.a (xF l)] (.t [.a (xF (BV l).1),.b (BV l).2]):=by
 refine Pure.fit (by kernel_rfl) fun hf=>?_
 have⟨h2,h3,h4⟩:=Jp hf.1;refine u7 nb ?_;have hs:=Sn;by_cases h5:l.op=5
 ·have hk:0<l.kids.length:=List.length_pos_iff.2 (h h5)
  conv=>whnf
  repeat'((first|refine st ?_|(refine sq ?_;intro K U)|(refine si ?_;intro A B Y Z)|(refine Y _ _ ?_;clear Z B Y A)|(refine U _ _ ?_;clear U K)|refine⟨rfl,?_⟩|refine⟨nb,?_⟩|refine iqF fun x hx=>?_|refine ld ?_|refine sn fun σ hs=>?_|(constructor<;>intro hc<;>(try rw[hc])<;>(replace hc:=bp hc)<;>try(exfalso;omega))|(intro nn hnn;generalize hg:BI _ nn _=σ;refine al hg fun hs=>?_;clear hg)|clear U K)<;>conv=>whnf)
  all_goals try(exfalso;omega)
  refine AM ?_
  have:l.kids.headD default=x:=by
   cases hl:l.kids with
   | nil=>rw[hl]at hk;simp at hk
   | cons y r=>rw[hl]at hx;simpa using hx
  simp only[BV,if_pos h5,this];rfl
 ·conv=>whnf
  repeat'((first|refine st ?_|(refine sq ?_;intro K U)|(refine si ?_;intro A B Y Z)|(refine Y _ _ ?_;clear Z B Y A)|(refine U _ _ ?_;clear U K)|refine⟨rfl,?_⟩|refine⟨nb,?_⟩|refine ld ?_|refine sn fun σ hs=>?_|(constructor<;>intro hc<;>(try rw[hc])<;>(replace hc:=bp hc)<;>try(exfalso;omega))|(intro nn hnn;generalize hg:BI _ nn _=σ;refine al hg fun hs=>?_;clear hg)|fail)<;>conv=>whnf)
  all_goals try(exfalso;omega)
  refine AM ?_;simp only[BV,if_neg h5];rfl
def CI (path pre:List Int):Bool:=decide (pre.length≤path.length)&&path.take pre.length==pre
theorem Qq (xs ys:List Int) (f g:Bool):Pure Tryz.prog 281 [.l (iL xs) f,.l (iL ys) g] (.b (CI xs ys)):=by
 refine Pure.fit (by kernel_rfl) fun hf=>?_
 have hx:=Ks hf.1;have hy:=Ks hf.2.1;have hM:=Mx;refine uh nb ?_;have hs:=Sn
 conv=>whnf
 repeat'((first|refine st ?_|(refine sq ?_;intro K U)|(refine si ?_;intro A B Y Z)|(refine Y _ _ ?_;clear Z B Y A)|(refine U _ _ ?_;clear U K)|refine⟨rfl,?_⟩|refine slq ?_|refine Pure.use (KM _ _ _ _) ?_|(constructor<;>intro hc<;>(try rw[hc])<;>(replace hc:=bp hc)<;>(try simp(disch:=omega) only[B2,wrap64,AU]at hc))|fail)<;>conv=>whnf)
 ·refine AM ?_
  have:ys.length≤xs.length:=by omega
  simp[CI,this]
 ·refine AM ?_
  have: ¬ys.length≤xs.length:=by omega
  simp[CI,this]
def Gd (w:AP) (ls:List Fact) (a:Int) (p:List Int) (c:Bool):List V:=[.l (El w.parents) false,.l (iL w.owner) false,.l (facts ls) false,eI a,.l (iL p) false,.b c]
theorem JE (w:AP) (ls:List Fact) (a:Int) (p:List Int) (c:Bool) (s:Int) (hp:p.length<100):Pure Tryz.prog 265 [.a (Gd w ls a p c),eI s] (.a (Gd w ls a (p++[s]) c)):=by
 have hM:=Mx;refine uz nb ?_;have hs:=Sn
 conv=>whnf
 repeat'((first|refine st ?_|(refine sq ?_;intro K U)|(refine si ?_;intro A B Y Z)|(refine Y _ _ ?_;clear Z B Y A)|(refine U _ _ ?_;clear U K)|refine dr ?_|refine⟨nb,?_⟩|(intro nn hnn;generalize hg:BI _ nn _=σ;refine al hg fun hs=>?_;clear hg)|fail)<;>conv=>whnf)
 replace hs:=Hl hs 1;refine Kq hs 1 (xs:=[]) (ys:=p) rfl (by simp;omega) DC fun v σ hs=>?_
 conv=>whnf
 repeat'((first|refine st ?_|refine dr ?_|refine rk ?_ ?_|exact fun s e=>by cases e;rfl|refine⟨nb,?_⟩|refine aq fun v σ hs hsl=>?_|fail)<;>conv=>whnf)
 obtain⟨n,l,cc,rfl⟩:=lM hsl
 conv=>whnf
 repeat'((first|refine st ?_|(refine Y _ _ ?_;clear Z B Y A)|(refine U _ _ ?_;clear U K)|refine dr ?_|refine⟨nb,?_⟩|refine ld ?_|refine sn fun σ hs=>?_|fail)<;>conv=>whnf)
 exact CD (.a (.cons (.refl _) (.cons (.refl _) (.cons (.refl _) (.cons (.refl _) (.cons (hs.I9 1 rfl) (.cons (.refl _) .nil)))))))
def Ia (a:Int) (p:List Int) (l:Fact):Bool:=(BV l).1.arg==a&&(BV l).1.path==p
theorem GI {w:AP} {ls:List Fact} {a:Int} {p:List Int} {c:Bool} (h:E3 (.a (Gd w ls a p c))):ls.length≤Ak∧p.length≤Ak∧w.owner.length≤Ak∧w.parents.length≤Ak:=by
 simp only[Gd,G0,Dm,Gz,B2]at h;exact⟨h.2.2.1.1,h.2.2.2.2.1.1,h.2.1.1,h.1.1⟩
theorem Zv (w:AP) (ls:List Fact) (a:Int) (p:List Int) (c:Bool) (hok: ∀l∈ls,F8 l) (hln:ls.length≤1000000):Pure Tryz.prog 261 [.a (Gd w ls a p c)] (.l (facts (ls.filter (Ia a p))) false):=by
 refine Pure.fit (by kernel_rfl) fun hf=>?_
 have⟨h1,h2,h3,h4⟩:=GI hf.1;have hM:=Mx;refine u9 nb ?_;have hs:=Sn
 conv=>whnf
 repeat'((first|refine st ?_|(refine sq ?_;intro K U)|(refine si ?_;intro A B Y Z)|(refine Y _ _ ?_;clear Z B Y A)|(refine U _ _ ?_;clear U K)|fail)<;>conv=>whnf)
 refine C5 ls.length (fun k v=>[(3,v),(11,eI (Bw k))]) (fun k v=>[.own v 6 (facts ((ls.take k).filter (Ia a p)))]) (fun _ _=>True) (.l [] true) rfl trivial (Hl hs 6) ?_;clear hs;rintro k v σ hk - hs;have hfl:=List.length_filter_le (Ia a p) (ls.take k)
 conv=>whnf
 repeat'((first|refine st ?_|(refine sq ?_;intro K U)|(refine si ?_;intro A B Y Z)|(refine Y _ _ ?_;clear Z B Y A)|(refine U _ _ ?_;clear U K)|refine⟨rfl,?_⟩|refine⟨nb,?_⟩|refine Q2 ?_|refine ld ?_|refine sn fun σ hs=>?_|refine apF fun v σ hs hsl=>?_|(refine fc (fun x hx hlt hc=>?_) (fun hk hc=>?_)<;>(try rw[hc])<;>clear hc)|refine Pure.use (HO _ (hok _ (DL (by assumption)))) ?_|refine Pure.use (KM _ _ _ _) ?_|(constructor<;>intro hc<;>(try rw[hc])<;>(replace hc:=bp hc))|(intro nn hnn;generalize hg:BI _ nn _=σ;refine al hg fun hs=>?_;clear hg)|clear U K)<;>conv=>whnf)
 ·exact⟨hlt,_,rfl,trivial,by rw[AR hx,List.filter_append];simpa[Ia, *]using hs.take 1⟩
 ·exact⟨hlt,_,rfl,trivial,by rw[AR hx,List.filter_append];simpa[Ia, *]using hs.take 1⟩
 ·exact⟨hlt,_,rfl,trivial,by rw[AR hx,List.filter_append];simpa[Ia, *]using hs.take 1⟩
 ·exact ER hs 0 rfl (by rw[A5 hk])
def Gf (ls:List Fact) (a:Int) (p:List Int):Bool:=ls.all fun l=>(BV l).2|| !((BV l).1.arg==a&&CI (BV l).1.path p)
theorem Xh (w:AP) (ls:List Fact) (a:Int) (p:List Int) (c:Bool) (hok: ∀l∈ls,F8 l):Pure Tryz.prog 266 [.a (Gd w ls a p c)] (.b (Gf ls a p)):=by
 refine Pure.fit (by kernel_rfl) fun hf=>?_
 have⟨h1,h2,h3,h4⟩:=GI hf.1;have hM:=Mx;refine uy nb ?_;have hs:=Sn
 conv=>whnf
 repeat'((first|refine st ?_|(refine sq ?_;intro K U)|(refine si ?_;intro A B Y Z)|(refine Y _ _ ?_;clear Z B Y A)|(refine U _ _ ?_;clear U K)|fail)<;>conv=>whnf)
 refine C5 ls.length (fun k (_:Unit)=>[(10,eI (Bw k))]) (fun k _=>[]) (fun k _=>Gf ls a p=(ls.drop k).all fun l=>(BV l).2|| !((BV l).1.arg==a&&CI (BV l).1.path p)) () rfl rfl hs ?_;clear hs;rintro k - σ hk hn hs
 conv=>whnf
 repeat'((first|refine st ?_|(refine sq ?_;intro K U)|(refine si ?_;intro A B Y Z)|(refine Y _ _ ?_;clear Z B Y A)|(refine U _ _ ?_;clear U K)|refine⟨rfl,?_⟩|refine⟨nb,?_⟩|refine Q2 ?_|refine ld ?_|refine sn fun σ hs=>?_|(refine fc (fun x hx hlt hc=>?_) (fun hk hc=>?_)<;>(try rw[hc])<;>clear hc)|refine Pure.use (HO _ (hok _ (DL (by assumption)))) ?_|refine Pure.use (Qq _ _ _ _) ?_|(constructor<;>intro hc<;>(try rw[hc])<;>(replace hc:=bp hc))|(intro nn hnn;generalize hg:BI _ nn _=σ;refine al hg fun hs=>?_;clear hg)|clear U K)<;>conv=>whnf)
 ·exact AM (by rw[hn,drop_cons hx,List.all_cons];simp[*])
 ·exact⟨hlt,(),rfl,by rw[hn,drop_cons hx,List.all_cons];simp[*],hs.take 0⟩
 ·exact⟨hlt,(),rfl,by rw[hn,drop_cons hx,List.all_cons];simp[*],hs.take 0⟩
 ·exact⟨hlt,(),rfl,by rw[hn,drop_cons hx,List.all_cons];simp[*],hs.take 0⟩
 ·exact AM (by rw[hn,Ax hk];rfl)
def C9 (n:Nat):List Int:=(List.range n).map Int.ofNat
theorem M0 (n:Nat):C9 (n+1)=C9 n++[(n:Int)]:=by simp[C9,List.range_succ]
theorem H4 (n:Nat):(C9 n).length=n:=by simp[C9]
def ZT (a:Int) (p:List Int) (s:Int) (l:Fact):Bool:=(BV l).1.arg==a&&CI (BV l).1.path (p++[s])
def Ci (n:Nat) (ls:List Fact) (a:Int) (p:List Int):List Int:=(C9 n).filter fun s=>ls.any (ZT a p s)
theorem Te (w:AP) (ls:List Fact) (a:Int) (p:List Int) (c:Bool) (hok: ∀l∈ls,F8 l) (hp:p.length<100) :
 Pure Tryz.prog 264 [.a (Gd w ls a p c)] (.l (iL (Ci w.owner.length ls a p)) false):=by
 refine Pure.fit (by kernel_rfl) fun hf=>?_
 have⟨h1,h2,h3,h4⟩:=GI hf.1;have hM:=Mx;refine u0 nb ?_;have hs:=Sn
 conv=>whnf
 repeat'((first|refine st ?_|(refine sq ?_;intro K U)|(refine si ?_;intro A B Y Z)|(refine Y _ _ ?_;clear Z B Y A)|(refine U _ _ ?_;clear U K)|fail)<;>conv=>whnf)
 refine C5 w.owner.length (fun k v=>[(3,v),(14,eI (Bw k))]) (fun k v=>[.own v 1 (iL (Ci k ls a p))]) (fun _ _=>True) (.l [] true) rfl trivial (Hl hs 1) ?_;clear hs;rintro k v σ hk - hs;have hck:Bw k=k:=AU (by omega);have hfl:=List.length_filter_le (fun s=>ls.any (ZT a p s)) (C9 k);rw[H4]at hfl;have hfl2:(Ci k ls a p).length≤k:=hfl
 conv=>whnf
 repeat'((first|refine st ?_|(refine sq ?_;intro K U)|(refine si ?_;intro A B Y Z)|(refine Y _ _ ?_;clear Z B Y A)|(refine U _ _ ?_;clear U K)|refine⟨rfl,?_⟩|(refine fc (fun x hx hlt hc=>?_) (fun hk hc=>?_)<;>(try rw[hc])<;>clear hc)|clear U K)<;>conv=>whnf)
 ·refine C5 ls.length (fun j b=>[(5,.b b),(20,eI (Bw j))]) (fun j _=>[.own v 1 (iL (Ci k ls a p))]) (fun j b=>b=(ls.take j).any (ZT a p (Bw k))) false rfl (by simp) hs ?_
  clear hs;rintro j b σ hj hb hs;subst hb
  conv=>whnf
  repeat'((first|refine st ?_|(refine sq ?_;intro K U)|(refine si ?_;intro A B Y Z)|(refine Y _ _ ?_;clear Z B Y A)|(refine U _ _ ?_;clear U K)|refine dr ?_|refine rk ?_ ?_|exact fun s e=>by cases e;rfl|refine⟨rfl,?_⟩|refine⟨nb,?_⟩|refine Q2 ?_|refine ld ?_|refine sn fun σ hs=>?_|refine aq fun v σ hs hsl=>?_|(refine fc (fun x hx hlt hc=>?_) (fun hk hc=>?_)<;>(try rw[hc])<;>clear hc)|refine Pure.use (HO _ (hok _ (DL (by assumption)))) ?_|refine Pure.use (Qq _ _ _ _) ?_|refine Pure.use (JE _ _ _ _ _ _ (by omega)) ?_|(constructor<;>intro hc<;>(try rw[hc])<;>(replace hc:=bp hc)<;>(try simp(disch:=omega) only[B2,wrap64,AU]at hc))|(intro nn hnn;generalize hg:BI _ nn _=σ;refine al hg fun hs=>?_;clear hg)|clear U K)<;>conv=>whnf)
  ·exact⟨hlt,_,rfl,by rw[AR hx,List.any_append];simp[ZT, *],hs.take 1⟩
  ·exact⟨hlt,_,rfl,by rw[AR hx,List.any_append];simp[ZT, *],hs.take 1⟩
  ·exact⟨hlt,true,rfl,by rw[AR hx,List.any_append];simp[*],hs.take 1⟩
  ·refine⟨by assumption,_,rfl,trivial,?_⟩
   rw[A5 hk]at hc;rw[Ci,M0,List.filter_append];simp only[Ci]at hs;simpa[hc,hck]using hs
  ·refine⟨by assumption,_,rfl,trivial,?_⟩
   rw[A5 hk]at hc;rw[Ci,M0,List.filter_append];simp only[Ci]at hs;simpa[hc,hck]using hs
 ·exact ER hs 0 rfl (by rw[hk])
def Gc (n:Nat) (ls:List Fact) (a:Int) (p:List Int):Bool:=(Ci n ls a p).all fun s=>Gf ls a (p++[s])
theorem XW (w:AP) (ls:List Fact) (a:Int) (p:List Int) (c:Bool) (hok: ∀l∈ls,F8 l) (hp:p.length<50):Pure Tryz.prog 263 [.a (Gd w ls a p c)] (.b (Gc w.owner.length ls a p)):=by
 refine Pure.fit (by kernel_rfl) fun hf=>?_
 have⟨h1,h2,h3,h4⟩:=GI hf.1;have hM:=Mx;refine u6 nb ?_;have hs:=Sn;have hfl:=List.length_filter_le (fun s=>ls.any (ZT a p s)) (C9 w.owner.length);rw[H4]at hfl;have hfl2:(Ci w.owner.length ls a p).length≤w.owner.length:=hfl
 conv=>whnf
 repeat'((first|refine st ?_|(refine sq ?_;intro K U)|(refine si ?_;intro A B Y Z)|(refine Y _ _ ?_;clear Z B Y A)|(refine U _ _ ?_;clear U K)|refine⟨nb,?_⟩|refine Pure.use (Te _ _ _ _ _ hok (by omega)) ?_|fail)<;>conv=>whnf)
 refine C5 (Ci w.owner.length ls a p).length (fun k (_:Unit)=>[(8,eI (Bw k))]) (fun k _=>[]) (fun k _=>Gc w.owner.length ls a p=((Ci w.owner.length ls a p).drop k).all fun s=>Gf ls a (p++[s])) () rfl rfl hs ?_;clear hs;rintro k - σ hk hn hs
 conv=>whnf
 repeat'((first|refine st ?_|(refine sq ?_;intro K U)|(refine si ?_;intro A B Y Z)|(refine Y _ _ ?_;clear Z B Y A)|(refine U _ _ ?_;clear U K)|refine⟨rfl,?_⟩|refine⟨nb,?_⟩|refine ix ?_|(refine fc (fun x hx hlt hc=>?_) (fun hk hc=>?_)<;>(try rw[hc])<;>clear hc)|refine Pure.use (JE _ _ _ _ _ _ (by omega)) ?_|refine Pure.use (Xh _ _ _ _ _ hok) ?_|(constructor<;>intro hc<;>(try rw[hc])<;>(replace hc:=bp hc))|clear U K)<;>conv=>whnf)
 ·exact AM (by rw[hn,drop_cons hx,List.all_cons];simp[*])
 ·exact⟨hlt,(),rfl,by rw[hn,drop_cons hx,List.all_cons];simp[*],hs⟩
 ·exact AM (by rw[hn,Ax hk];rfl)
def J5 (ls:List Fact):Prop:= ∀l∈ls,-1000000000≤(BV l).1.n∧(BV l).1.n≤1000000000
def Ip (x:Fact×Bool) (t:Int×Int×List Int):Option (Int×Int×List Int):=
 if x.1.op=2 then if decide (x.1.cls > 1) != x.2 then none else some t
 else if x.1.op=3 then(if x.2 then some (if x.1.n > t.1 then x.1.n else t.1,t.2.1,t.2.2)else some (t.1,if x.1.n - 1<t.2.1 then x.1.n - 1 else t.2.1,t.2.2))
 else if x.2 then some (t.1,t.2.1,t.2.2++[x.1.n])else some (if x.1.n > t.1 then x.1.n else t.1,if x.1.n<t.2.1 then x.1.n else t.2.1,t.2.2)
def foldI:List Fact→Int×Int×List Int→Option (Int×Int×List Int)
 | [],t=>some t
 | x::r,t=>(Ip (BV x) t).bind (foldI r)
theorem MZ: ∀(xs ys:List Fact) (t:Int×Int×List Int),foldI (xs++ys) t=(foldI xs t).bind (foldI ys)
 | [],_,_=>rfl
 | x::r,ys,t=>by
   simp only[List.cons_append,foldI];cases Ip (BV x) t with
   | none=>rfl
   | some u=>exact MZ r ys u
theorem GO {os:List Fact} {k:Nat} {x:Fact} (hx:os[k]? =some x) (t:Int×Int×List Int):foldI (os.take (k+1)) t=(foldI (os.take k) t).bind (Ip (BV x)):=by
 rw[AR hx,MZ];congr 1;funext u;simp only[foldI];cases Ip (BV x) u<;>rfl
theorem V8 {os:List Fact} (k:Nat) {t:Int×Int×List Int} (h:foldI (os.take k) t=none):foldI os t=none:=by
 rw[←List.take_append_drop k os,MZ,h];rfl
def Q9 (no:List Int):Nat→Int→Option Int
 | 0,_=>none
 | k+1,n=>if no.all (· != n)then some n else Q9 no k (n+1)
def TB (t:Int×Int×List Int):Option Int:=Q9 t.2.2 (t.2.1+1 - t.1).toNat t.1
def t0:Int×Int×List Int:=(-1000000000,1000000000,[])
def Kj (ls:List Fact) (a:Int) (p:List Int):Option Int:=(foldI (ls.filter (Ia a p)) t0).bind TB
def X2 (n:Nat) (ls:List Fact) (a:Int) (p:List Int):V:=match Kj ls a p with
 | some x=> .t [eI x,.b (Gc n ls a p)]
 | none=> .t [eI 0,.b false]
set_option maxHeartbeats 4000000 in
theorem PJ (w : AP) (ls:List Fact) (a:Int) (p:List Int) (c:Bool) (hokL: ∀l∈ls,F8 l) (hln:ls.length≤1000000) (hp:p.length<50) (hsm:J5 ls):Pure Tryz.prog 233 [.a (Gd w ls a p c)] (X2 w.owner.length ls a p):=by
 refine Pure.fit (by kernel_rfl) fun hf=>?_
 have⟨h1,h2,h3,h4⟩:=GI hf.1;have hM:=Mx;refine vP nb ?_;have hs:=Sn;have hfl:=List.length_filter_le (Ia a p) ls;have hok2: ∀l∈ls.filter (Ia a p),F8 l:=fun l hl=>hokL l ((Qz.1 hl).1)
 have hsm2:J5 (ls.filter (Ia a p)):=fun l hl=>hsm l ((Qz.1 hl).1)
 conv=>whnf
 repeat'((first|refine st ?_|(refine sq ?_;intro K U)|(refine si ?_;intro A B Y Z)|(refine Y _ _ ?_;clear Z B Y A)|(refine U _ _ ?_;clear U K)|refine⟨nb,?_⟩|refine Pure.use (Zv _ _ _ _ _ hokL hln) ?_|fail)<;>conv=>whnf)
 generalize hos:ls.filter (Ia a p)=os at *;have hV:Kj ls a p=(foldI os t0).bind TB:=by rw[Kj,hos]
 refine C5 os.length (fun k (x:Int×Int×List Int×V)=>[(4,eI x.1),(5,eI x.2.1),(6,x.2.2.2),(18,eI (Bw k))]) (fun k x=>[.own x.2.2.2 1 (iL x.2.2.1)]) (fun k x=>foldI (os.take k) t0=some (x.1,x.2.1,x.2.2.1)∧ -1000000000≤x.1∧x.1≤1000000000∧ -1000000001≤x.2.1∧x.2.1≤1000000000∧x.2.2.1.length≤k) (-1000000000,1000000000,[],.l [] true) rfl ⟨rfl,by simp⟩ (Hl hs 1) ?_;clear hs;rintro k ⟨low,high,no,v⟩ σ hk ⟨hno,hb1,hb2,hb3,hb4,hb5⟩ hs;simp only at hb1 hb2 hb3 hb4 hb5 hno;have hok:=hok2
 conv=>whnf
 repeat'((first|refine st ?_|(refine sq ?_;intro K U)|(refine si ?_;intro A B Y Z)|(refine Y _ _ ?_;clear Z B Y A)|(refine U _ _ ?_;clear U K)|refine dr ?_|refine⟨rfl,?_⟩|refine⟨nb,?_⟩|refine Q2 ?_|refine ld ?_|refine sn fun σ hs=>?_|refine aq fun v σ hs hsl=>?_|(refine fc (fun x hx hlt hc=>?_) (fun hk hc=>?_)<;>(try rw[hc])<;>clear hc)|refine Pure.use (HO _ (hok _ (DL (by assumption)))) ?_|(constructor<;>intro hc<;>(try rw[hc])<;>(replace hc:=bp hc)<;>try(exfalso;omega))|(intro nn hnn;generalize hg:BI _ nn _=σ;refine al hg fun hs=>?_;clear hg)|clear U K)<;>conv=>whnf)
 all_goals first
  | (have hb:=hsm2 _ (DL hx)
     first
      | (refine⟨hlt,(_,_,_,_),rfl,⟨?_,?_⟩,hs.take 1⟩
         ·rw[GO hx,hno]
          have hw:IntKind.i64.wrap ((BV ‹Fact›).1.n - 1)=(BV ‹Fact›).1.n - 1:=wrap64 (by omega) (by omega);simp[Ip, *]
          done
         ·have hw:IntKind.i64.wrap ((BV ‹Fact›).1.n - 1)=(BV ‹Fact›).1.n - 1:=wrap64 (by omega) (by omega)
          simp only[Sl,List.length_singleton,hw]
          refine⟨?_,?_,?_,?_,?_⟩<;>(try split)<;>omega)
      | (refine AM ?_
         have:foldI os t0=none:=V8 (k+1) (by rw[GO hx,hno];simp[Ip, *]);rw[this]at hV;simp only[X2,hV]
         rfl))
  | skip
 ·have hb:=hsm2 _ (DL hx)
  refine⟨hlt,(if(BV x).1.n > low then(BV x).1.n else low,high,no,v),rfl,⟨?_,?_⟩,hs.take 1⟩
  ·rw[GO hx,hno]
   simp[Ip, *]
  ·dsimp only
   refine⟨?_,?_,?_,?_,?_⟩<;>(try split)<;>omega
 ·have hb:=hsm2 _ (DL hx)
  have hw:IntKind.i64.wrap ((BV x).1.n - 1)=(BV x).1.n - 1:=wrap64 (by omega) (by omega);rw[hw];refine⟨hlt,(low,if(BV x).1.n - 1<high then(BV x).1.n - 1 else high,no,v),rfl,⟨?_,?_⟩,hs.take 1⟩
  ·rw[GO hx,hno]
   simp[Ip, *]
  ·dsimp only
   refine⟨?_,?_,?_,?_,?_⟩<;>(try split)<;>omega
 ·have hb:=hsm2 _ (DL hx)
  refine⟨hlt,(if(BV x).1.n > low then(BV x).1.n else low,if(BV x).1.n<high then(BV x).1.n else high,no,v),rfl,⟨?_,?_⟩,hs.take 1⟩
  ·rw[GO hx,hno]
   simp[Ip, *]
  ·dsimp only
   refine⟨?_,?_,?_,?_,?_⟩<;>(try split)<;>omega
 rw[A5 (by assumption)]at hno;have hV2:Kj ls a p=TB (low,high,no):=by rw[hV,hno];rfl
 dsimp only;refine J2 (fun n:Int=>(high+1 - n).toNat) (fun n=>[(11,eI n)]) (fun _=>[.own v 1 (iL no)]) (fun n=>low≤n∧n≤1000000001∧Kj ls a p=Q9 no (high+1 - n).toNat n) low rfl ⟨by omega,by omega,hV2⟩ hs ?_;clear hs;rintro n σ ⟨hn1,hn2,hn⟩ hs;have hnl:no.length≤Ak:=by omega
 conv=>whnf
 repeat'((first|refine st ?_|(refine sq ?_;intro K U)|(refine si ?_;intro A B Y Z)|(refine Y _ _ ?_;clear Z B Y A)|(refine U _ _ ?_;clear U K)|refine⟨rfl,?_⟩|refine lo ?_|(constructor<;>intro hc<;>(try rw[hc])<;>(replace hc:=bp hc))|clear U K)<;>conv=>whnf)
 ·refine C5 no.length (fun j b=>[(12,.b b),(80,eI (Bw j))]) (fun j _=>[.own v 1 (iL no)]) (fun j b=>b=(no.take j).all (· != n)) true rfl (by simp) hs ?_
  clear hs;rintro j b σ hj hb hs;subst hb
  conv=>whnf
  repeat'((first|refine st ?_|(refine sq ?_;intro K U)|(refine si ?_;intro A B Y Z)|(refine Y _ _ ?_;clear Z B Y A)|(refine U _ _ ?_;clear U K)|refine⟨rfl,?_⟩|refine⟨nb,?_⟩|refine oc ?_|refine Uw ?_|(refine fc (fun x hx hlt hc=>?_) (fun hk hc=>?_)<;>(try rw[hc])<;>clear hc)|refine Pure.use (XW _ _ _ _ _ hokL (by omega)) ?_|(constructor<;>intro hc<;>(try rw[hc])<;>(replace hc:=bp hc))|clear U K)<;>conv=>whnf)
  ·exact⟨hlt,_,rfl,by rw[AR hx,List.all_append,hc];simp,hs⟩
  ·exact⟨hlt,false,rfl,by rw[AR hx,List.all_append,hc];simp,hs⟩
  ·refine AM ?_
   rw[A5 hk]at hc;rw[show(high+1 - n).toNat=(high - n).toNat+1 by omega,Q9,if_pos hc]at hn;simp only[X2,hn]
  ·rw[A5 hk]at hc
   rw[show(high+1 - n).toNat=(high+1 - (n+1)).toNat+1 by omega,Q9,if_neg (by simp[hc])]at hn;rw[wrap64 (by omega) (by omega)];exact⟨n+1,by omega,rfl,⟨by omega,by omega,hn⟩,hs⟩
 ·refine AM ?_
  have:(high+1 - n).toNat=0:=by omega
  rw[this,Q9]at hn;simp only[X2,hn]
def Jh (x:Fact×Bool):Bool:=((x.1.op==2&&(x.1.cls==0||x.1.cls==2))==x.2)
def Jk (n:Nat) (ls:List Fact) (a:Int) (p:List Int):Bool:=(ls.filter (Ia a p)).all (fun l=> !Jh (BV l))&&Gc n ls a p
set_option maxHeartbeats 4000000 in
theorem XE (w:AP) (ls:List Fact) (a:Int) (p:List Int) (c:Bool) (hokL: ∀l∈ls,F8 l) (hln:ls.length≤1000000) (hp:p.length<50):Pure Tryz.prog 234 [.a (Gd w ls a p c)] (.b (Jk w.owner.length ls a p)):=by
 refine Pure.fit (by kernel_rfl) fun hf=>?_
 have⟨h1,h2,h3,h4⟩:=GI hf.1;have hM:=Mx;refine vO nb ?_;have hs:=Sn;have hfl:=List.length_filter_le (Ia a p) ls;have hok: ∀l∈ls.filter (Ia a p),F8 l:=fun l hl=>hokL l (Qz.1 hl).1
 conv=>whnf
 repeat'((first|refine st ?_|(refine sq ?_;intro K U)|(refine si ?_;intro A B Y Z)|(refine Y _ _ ?_;clear Z B Y A)|(refine U _ _ ?_;clear U K)|refine⟨nb,?_⟩|refine Pure.use (Zv _ _ _ _ _ hokL hln) ?_|fail)<;>conv=>whnf)
 generalize hos:ls.filter (Ia a p)=os at *;have hV:Jk w.owner.length ls a p=(os.all (fun l=> !Jh (BV l))&&Gc w.owner.length ls a p):=by rw[Jk,hos]
 refine C5 os.length (fun k (_:Unit)=>[(11,eI (Bw k))]) (fun k _=>[]) (fun k _=>Jk w.owner.length ls a p=((os.drop k).all (fun l=> !Jh (BV l))&&Gc w.owner.length ls a p)) () rfl hV hs ?_;clear hs;rintro k - σ hk hn hs
 conv=>whnf
 repeat'((first|refine st ?_|(refine sq ?_;intro K U)|(refine si ?_;intro A B Y Z)|(refine Y _ _ ?_;clear Z B Y A)|(refine U _ _ ?_;clear U K)|refine⟨rfl,?_⟩|refine⟨nb,?_⟩|refine Q2 ?_|refine ld ?_|refine sn fun σ hs=>?_|(refine fc (fun x hx hlt hc=>?_) (fun hk hc=>?_)<;>(try rw[hc])<;>clear hc)|refine Pure.use (HO _ (hok _ (DL (by assumption)))) ?_|refine Pure.use (XW _ _ _ _ _ hokL (by omega)) ?_|(constructor<;>intro hc<;>(try rw[hc])<;>(replace hc:=bp hc))|(intro nn hnn;generalize hg:BI _ nn _=σ;refine al hg fun hs=>?_;clear hg)|clear U K)<;>conv=>whnf)
 all_goals first
  | (have hst:Jh (BV x)=true:=by clear hV hn;cases hz:(BV x).2<;>cases hy:((BV x).1.cls==2)<;>simp_all [Jh]
     exact AM (by rw[hn,drop_cons hx,List.all_cons,hst];simp))
  | (have hst:Jh (BV x)=false:=by clear hV hn;cases hz:(BV x).2<;>cases hy:((BV x).1.cls==2)<;>simp_all [Jh]
     exact⟨hlt,(),rfl,by rw[hn,drop_cons hx,List.all_cons,hst];simp,hs.take 0⟩)
  | exact AM (by rw[hn,Ax (by assumption)];simp)
end Go.Gl
