import Derived.Shelf.Sort.Plain
import Derived.Test.YtijbpgdmpejgoaaGreatProg
import Derived.Test.YtijbpgdmpejgoaaGreatQ12
set_option linter.all false
set_option linter.unusedVariables false
set_option linter.unusedSimpArgs false
namespace Go.Gl
open Go.Proofs Go.Shelf
abbrev Mw (x y:Int):Bool:=decide (x≤y)
theorem bQ {P:Program} {f:FuncId} (hok:okF P f=true)
 (hc: ∀(blk cap:Nat) (zs:List Int) (w:World),Sort.Holds (Value.int .i64) w blk 0 zs.toArray→blk<w.heap.size→zs.length<4611686018427387904→
  Calls P f #[.slice (some ⟨blk,0,none⟩) zs.length cap] w fun e w'=>e= .returned (.tuple #[])∧ ∃n os,w'=Sort.grow (Sort.putRow (Value.int .i64) (Sort.ahead w n) blk 0 (zs.mergeSort fun x y=>decide (x≤y)).toArray) os)
 (xs:List Int) (n len cap:Nat):Bx P f [.sl n len cap] [.own (.sl n len cap) 1 (iL xs)] fun r post=>r= .ret (.t [])∧post= [.own (.sl n len cap) 1 (iL (xs.mergeSort Mw))]:=by
 intro σ hs;refine⟨hok,fun Λ w cs G hv=>?_⟩;rcases hs.get (i:=0) rfl with⟨h,_⟩|⟨n',cap',h,hn⟩
 ·cases h
 cases h;rw[Ce]at hv;obtain⟨c,e,hb,h1,h2,h3,h4⟩:=EL G hn;rw[Ce]at h2 h3;have hM:Ax=17592186044416:=rfl;rw[A7]at h4
 have hcell: ∀j x,xs[j]? =some x→c[j]? =some (Value.int .i64 x)∧IntKind.i64.min≤x∧x≤IntKind.i64.max:=fun j x hx=>by
  have:=(h4 j [.i .i64 x] (by rw[Rv,hx];rfl)).2;simp only[BV,Nat.mul_one,Nat.zero_add]at this;obtain⟨⟨d,hd,hr⟩,_⟩:=this;simp only[AZ]at hr;obtain⟨rfl,hr⟩:=hr;exact⟨hd,hr⟩
 have hcs:cs= #[.slice (some ⟨n,0,none⟩) xs.length cap]:=by
  obtain⟨hsz,hv⟩:=hv;simp only[BV,AZ]at hv;obtain⟨⟨d,hd,rfl,_⟩,_⟩:=hv;simp at hsz;apply Array.ext_getElem?;intro i;rcases i with _|i
  ·simpa using hd
  ·rw[Array.getElem?_eq_none (by omega),Array.getElem?_eq_none (by simp)]
 subst hcs
 have hH:Sort.Holds (Value.int .i64) w n 0 xs.toArray:=fun j hj=>by
  have hj':j<xs.length:=by simpa using hj
  obtain⟨h5,_⟩:=hcell j xs[j] (Fs hj');refine⟨?_,?_⟩
  ·rw[Nat.zero_add,DJ hb,h5]
   simp[getElem!_pos,hj']
  ·rw[Nat.zero_add];exact OM hb
 refine(hc n cap xs w hH (G.lt hn) (by omega)).mono fun e' w' ⟨he,k,os,hw⟩=>?_
 subst he;have hlen:(xs.mergeSort Mw).length=xs.length:=List.length_mergeSort _
 have hheap: ∀m,m<w.heap.size→w'.heap[m]? =if m=n then some (.cells (Sort.putCells (Value.int .i64) 0 (xs.mergeSort Mw).toArray c) e (0,0))else w.heap[m]? :=fun m hm=>by
  rw[hw];simp only[Sort.grow,Sort.putRow,Sort.mapBlock,Sort.ahead];rw[Array.getElem?_append_left (by simpa using hm),Array.getElem?_modify];by_cases e1:n=m
  ·subst e1
   rw[if_pos rfl,if_pos rfl,hb];rfl
  ·rw[if_neg e1,if_neg (Ne.symm e1)]
 have hadv:B5 Λ σ w (BI σ n (.arr 1 (iL (xs.mergeSort Mw)) cap)) w':=by
  refine⟨fun m hm h0=>?_,?_,by rw[hw];rfl,by rw[hw];rfl,by rw[hw];rfl,fun m h0 _=>?_⟩
  ·rw[hheap m hm,if_neg]
   intro e1;subst e1;rw[hn]at h0;cases h0
  ·rw[hw];simp[Sort.grow]
  ·rw[Cf _ _ (fun e1=>by subst e1;rw[hn]at h0;cases h0)];exact h0
 refine⟨.ret (.t []),BI σ n (.arr 1 (iL (xs.mergeSort Mw)) cap),⟨_,⟨rfl,rfl⟩,?_⟩,?_,?_,hadv⟩
 ·refine⟨fun a ha=>?_,List.pairwise_singleton _ _⟩
  rw[List.mem_singleton.1 ha];exact .inr ⟨n,cap,by simp[hlen],DE _ _ _⟩
 ·exact⟨_,rfl,by simp[AZ,BV]⟩
 ·refine G.step hadv fun m o ho=>?_
  by_cases e1:m=n
  ·subst e1
   rw[DE]at ho;cases ho;refine .inr ⟨(G.own _ _ hn).1,_,(hheap m (G.lt hn)).trans (if_pos rfl),_,_,rfl,by simpa[Sort.putCells]using h1,by simpa[hlen]using h2,by simpa[hlen]using h3,?_⟩;rw[A7];intro i r hi;rw[Rv]at hi;cases hx:(xs.mergeSort Mw)[i]? with
   | none=>rw[hx]at hi;cases hi
   | some x=>
     rw[hx]at hi;cases hi;have hil:i<xs.length:=by have:=(List.getElem?_eq_some_iff.1 hx).1;omega
     have hxm:x∈xs:=(List.mergeSort_perm xs Mw).mem_iff.1 (Fo hx);obtain⟨j,hj⟩:=List.getElem?_of_mem hxm;have hbd:=(hcell j x hj).2;obtain⟨hci,_⟩:=hcell i xs[i] (Fs hil);have hcl:i<c.size:=(qt.1 hci).1;refine⟨rfl,?_⟩;simp only[BV,Nat.mul_one,Nat.zero_add,AZ,and_true];refine⟨_,?_,rfl,hbd⟩;simp only[Sort.putCells,Array.getElem?_mapIdx];rw[hci];have hxe:=(List.getElem?_eq_some_iff.1 hx).2;simp[hlen,hil,getElem!_pos,hxe]
  ·rw[Cf _ _ e1]at ho
   exact .inl ⟨ho,(hheap m (G.lt ho)).trans (if_neg e1)⟩
theorem di (xs:List Int) (n len cap:Nat):Bx Tryz.prog 135 [.sl n len cap] [.own (.sl n len cap) 1 (iL xs)] fun r post=>r= .ret (.t [])∧post= [.own (.sl n len cap) 1 (iL (xs.mergeSort Mw))]:=
 bQ (by kernel_rfl) (fun blk cap zs w h1 h2 h3=>Any.slices_Sort_int Tryz.eo blk 0 cap zs w h1 h2 h3) xs n len cap
end Go.Gl
namespace Go.Gl
open Go.Proofs
attribute [local irreducible] BQ BJ A5 Ab AQ A4 Ac Af AR Az AW Aa BT Bf Sat An BZ A6 W
theorem sb:Pure Tryz.prog 206 [.i .u64 0] (eI 0):=by
 refine uv nb ?_;have hs:=Sn
 conv=>whnf
 repeat'((first|refine st ?_|(refine sq ?_;intro K U)|(refine si ?_;intro A B Y Z)|(refine Y _ _ ?_;clear Z B Y A)|(refine U _ _ ?_;clear U K)|refine⟨rfl,?_⟩|(constructor<;>intro hc<;>(try rw[hc])<;>(replace hc:=bp hc)<;>try(exfalso;omega))|fail)<;>conv=>whnf)
 refine⟨by decide,?_⟩
 conv=>whnf
 repeat'((first|refine st ?_|(refine Y _ _ ?_;clear Z B Y A)|(refine U _ _ ?_;clear U K)|refine⟨rfl,?_⟩|fail)<;>conv=>whnf)
 all_goals exact AY rfl
theorem sc:Pure Tryz.prog 160 [.i .u64 0] (eI 0):=by
 refine vO nb ?_;have hs:=Sn
 conv=>whnf
 repeat'((first|refine st ?_|(refine sq ?_;intro K U)|(refine si ?_;intro A B Y Z)|(refine Y _ _ ?_;clear Z B Y A)|(refine U _ _ ?_;clear U K)|refine Pure.use sb ?_|fail)<;>conv=>whnf)
 all_goals exact AY rfl
theorem sh:Pure Tryz.prog 196 [.l [] true,eI 0,eI 0] (.t []):=by
 refine uw nb ?_;have hs:=Sn
 conv=>whnf
 repeat'((first|refine st ?_|(refine sq ?_;intro K U)|(refine si ?_;intro A B Y Z)|(refine Y _ _ ?_;clear Z B Y A)|(refine U _ _ ?_;clear U K)|refine⟨rfl,?_⟩|fail)<;>conv=>whnf)
 refine NQ (fun(_:Unit)=>0) (fun _=>[(6,eI 1)]) (fun _=>[]) (fun _=>True) () rfl trivial hs ?_;clear hs;rintro - σ - hs
 conv=>whnf
 repeat'((first|refine st ?_|(refine sq ?_;intro K U)|(refine si ?_;intro A B Y Z)|(refine Y _ _ ?_;clear Z B Y A)|(refine U _ _ ?_;clear U K)|refine⟨rfl,?_⟩|(constructor<;>intro hc<;>(try rw[hc])<;>(replace hc:=bp hc)<;>try(exfalso;omega))|clear U K)<;>conv=>whnf)
 all_goals exact AY rfl
theorem rz:Pure Tryz.prog 159 [.l [] true,eI 0,eI 0,eI 0] (.t []):=by
 refine vP nb ?_;have hs:=Sn
 conv=>whnf
 repeat'((first|refine st ?_|(refine sq ?_;intro K U)|(refine si ?_;intro A B Y Z)|(refine Y _ _ ?_;clear Z B Y A)|(refine U _ _ ?_;clear U K)|fail)<;>conv=>whnf)
 refine NQ (fun(_:Unit)=>0) (fun _=>[]) (fun _=>[]) (fun _=>True) () rfl trivial hs ?_;clear hs;rintro - σ - hs
 conv=>whnf
 repeat'((first|refine st ?_|(refine sq ?_;intro K U)|(refine si ?_;intro A B Y Z)|(refine Y _ _ ?_;clear Z B Y A)|(refine U _ _ ?_;clear U K)|refine⟨rfl,?_⟩|refine Pure.use sh ?_|(constructor<;>intro hc<;>(try rw[hc])<;>(replace hc:=bp hc)<;>(try simp(disch:=omega) only[Ce,wrap64,Ad]at hc)<;>try(exfalso;omega))|clear U K)<;>conv=>whnf)
 all_goals exact AY rfl
theorem bR:Pure Tryz.prog 135 [.l [] true] (.t []):=by
 refine vZ nb ?_;have hs:=Sn
 conv=>whnf
 repeat'((first|refine st ?_|(refine sq ?_;intro K U)|(refine si ?_;intro A B Y Z)|(refine Y _ _ ?_;clear Z B Y A)|(refine U _ _ ?_;clear U K)|refine Pure.use sc ?_|refine Pure.use rz ?_|fail)<;>conv=>whnf)
 all_goals exact AY rfl
theorem kS {xs:List Int} {v:V} (hv:(Fb v).isSome=true∨(v= .l [] true∧xs= [])):Bx Tryz.prog 135 [v] [.own v 1 (iL xs)] fun r post=>r= .ret (.t [])∧post= [.own v 1 (iL (xs.mergeSort Mw))]:=by
 rcases hv with hv|⟨rfl,rfl⟩
 ·obtain⟨n,l,c,rfl⟩:=yB hv
  exact di xs n l c
 ·intro σ hs
  have:=bR.use (σ:=σ) (k:=fun v σ'=>v= .t []∧σ'=σ) (kp:=fun _ _=>False) ⟨rfl,rfl⟩;refine BQ.mono this ?_;rintro(u|u) σ' hq
  ·obtain⟨rfl,rfl⟩:=hq
   exact⟨_,⟨rfl,rfl⟩,by simpa using hs⟩
  ·exact hq.elim
theorem Ty {b:Nat} {σ:AG} {sz:Nat} {v:V} {ys:List (List V)} {f:Bool} {K:V→AG→Prop} (h:AQ b σ sz v (.l ys f) fun v' σ'=>((Fb v').isSome=true∨(v'=v∧ys= []))→K v' σ'):AQ b σ sz v (.l ys f) K:=by
 unfold AQ at *;obtain⟨h1,h2,h3⟩:=h;refine⟨h1,h2,?_⟩;cases v with
 | l es full=>exact⟨h3.1,h3.2.1,fun e=>h3.2.2.1 e (.inr ⟨rfl,e⟩),fun e=>⟨(h3.2.2.2 e).1,fun n cap hn hc=>(h3.2.2.2 e).2 n cap hn hc (.inl rfl)⟩⟩
 | sl n len cap=>
   simp only at h3 ⊢;split at h3
   ·exact⟨h3.1,h3.2.1,h3.2.2.1,h3.2.2.2.1,fun n' cap' hn hc=>h3.2.2.2.2 n' cap' hn hc (.inl rfl)⟩
   ·exact h3.elim
 | _=>exact h3.elim
def UF (M:List Int):List (V×V):=M.map fun k=>(eI k,.b true)
def QJ (M:List Int) (k:Int):List Int:=if M.contains k then M else M++[k]
theorem Sz (M:List Int) (k b:Int):(QJ M k).contains b=(M.contains b||b==k):=by
 unfold QJ;split
 ·rename_i h
  by_cases hb:b=k
  ·subst hb;simpa using h
  ·have:(b==k)=false:=by simpa using hb
   rw[this,Bool.or_false]
 ·simp[List.contains_append]
  rfl
theorem er (M:List Int) (k:Int):DW (eI k) (.b true) (UF M)=UF (QJ M k):=by
 induction M with
 | nil=>rfl
 | cons x r ih=>
   simp only[UF,List.map_cons,DW]at *;have he:DX (eI k) (eI x)=(k==x):=rfl;rw[he];cases hx:k==x
   ·rw[cond_false,ih]
    unfold QJ;have:(x::r).contains k=r.contains k:=by rw[List.contains_cons,hx,Bool.false_or]
    rw[this];split<;>simp
   ·rw[cond_true]
    have hk:k=x:=by simpa using hx
    subst hk;unfold QJ;simp
theorem bq (M:List Int) (k:Int):found (.b false) false (CR (eI k) (UF M))= .b (M.contains k):=by
 induction M with
 | nil=>rfl
 | cons x r ih=>
   simp only[UF,List.map_cons,CR]at *;have he:DX (eI k) (eI x)=(k==x):=rfl;rw[he,List.contains_cons];cases k==x
   ·simpa using ih
   ·rfl
theorem S8 (M:List Int): ∀kv∈UF M,BM (.i .i64) kv.1=true:=by
 intro kv h;obtain⟨e,_,rfl⟩:=Oe.1 h;rfl
theorem lkK {σ:AG} {l:List At} {i mm:Nat} {M:List Int} {k:Int} {K:V→Prop} (hk:K (.b (M.contains k))) (h:Sat σ l:=by assumption)
 (hi:l[i]? =some (.map mm (UF M)):=by first|exact UM|exact UL|exact UK|exact UJ|exact UI|exact UH):AW σ (.i .i64) (.b false) false (.m mm) (eI k) K:=
 RH h i hi rfl (S8 M) (by rw[bq];exact hk)
theorem msK {σ:AG} {l:List At} {i mm:Nat} {M:List Int} {k:Int} {K:AG→Prop} (hk: ∀σ',Sat σ' (l.set i (.map mm (UF (QJ M k))))→K σ') (h:Sat σ l:=by assumption)
 (hi:l[i]? =some (.map mm (UF M)):=by first|exact UM|exact UL|exact UK|exact UJ|exact UI|exact UH):Aa σ (.i .i64) (.m mm) (eI k) (.b true) K:=
 J2 h i hi rfl (S8 M) (fun σ' hs=>hk σ' (by rw[er]at hs;exact hs))
def Ho (p:Prog) (c:Nat):Of:=p.AU.getD (c - 3) default
def Dk (p:Prog) (c:Nat):Nat→List Int
 | 0=>[]
 | k+1=>if Ih (BE p) c (c - k)then Dk p c k++(Ho p (c - k)).AL else Dk p c k
theorem r5 {ps:List (List Int)} (ho:ordered ps) {n c:Nat} (hc:c<n) (k:Nat): ∀p∈par ps (c - k),0≤p∧p.toNat<(Jh ps n c k).length∧p.toNat<c - k:=fun p hp=>by
 have:=ho _ _ hp;rw[Qy];omega
theorem Si {ps:List (List Int)} (ho:ordered ps) {n c:Nat} (hc:c<n) (k b:Nat):(Jh ps n c (k+1)).getD b false=((Jh ps n c k).getD b false||((Jh ps n c k).getD (c - k) false&&(par ps (c - k)).contains (b:Int))):=by
 rw[Jh,Ld _ _ (r5 ho hc k)]
theorem Sj {ps:List (List Int)} (ho:ordered ps) {n c:Nat} (hc:c<n) (k:Nat): ∀(m:Nat) (b:Nat),c - k≤b→(Jh ps n c (k+m)).getD b false=(Jh ps n c k).getD b false
 | 0,_,_=>rfl
 | m + 1,b,h=>by
   rw[←Nat.add_assoc,Si ho hc,Sj ho hc k m b h]
   have:(par ps (c - (k+m))).contains (b:Int)=false:=by
    cases hb:(par ps (c - (k+m))).contains (b:Int)
    ·rfl
    ·have:=ho _ _ (List.contains_iff_mem.1 hb)
     omega
   rw[this,Bool.and_false,Bool.or_false]
theorem Zv {ps:List (List Int)} (ho:ordered ps) {n c:Nat} (hc:c<n) {k:Nat} (hk:k≤c - 2):(Jh ps n c k).getD (c - k) false=Ih ps c (c - k):=by
 rw[←dd ho hc (c - k),←Sj ho hc k (c - 2 - k) (c - k) (Nat.le_refl _)];congr 2;omega
theorem ON (b:Int): ∀(l M:List Int),(l.foldl QJ M).contains b=(M.contains b||l.contains b)
 | [],M=>by simp
 | x::r,M=>by
   rw[List.foldl_cons,ON b r,Sz,List.contains_cons,Bool.or_assoc]
theorem rI {σ:AG} {l:List At} {i mm:Nat} {M:List Int} {k:Int} {b:Bool} {K:V→Prop} (e:M.contains k=b) (hk:K (.b b)) (h:Sat σ l:=by assumption)
 (hi:l[i]? =some (.map mm (UF M)):=by first|exact UM|exact UL|exact UK|exact UJ|exact UI|exact UH):AW σ (.i .i64) (.b false) false (.m mm) (eI k) K:=lkK (e ▸ hk) h hi
theorem sm (p : Prog) (c:Nat) (h10:p.AU.length≤10) (hsl:E7 0 p.AU=true) (hg:Es (BE p)=true) (hc3:3≤c) (hc:c<3+p.AU.length) :
 Pure Tryz.prog 210 [.a (Bz p),eI c] (.l (iL ((Dk p c (c - 2)).mergeSort Mw)) false):=by
 refine Pure.fit (by kernel_rfl) fun hf=>?_
 have F:=WN hf.1;have hM:=Mx;have hG:=D1 hg;have ho:=IX hG;have hgl:(BE p).length=p.AU.length:=by simp[BE]
 refine uq nb ?_;have hs:=Sn
 conv=>whnf
 repeat'((first|(refine sq ?_;intro K U)|(refine si ?_;intro A B Y Z)|(refine Y _ _ ?_;clear Z B Y A)|(refine U _ _ ?_;clear U K)|(intro nn hnn;generalize hg:BI _ nn _=σ;refine D8 hg fun hs=>?_;clear hg)|fail)<;>conv=>whnf)
 replace hs:Sat σ [.map nn (UF [])]:=hs
 conv=>whnf
 repeat'((first|refine st ?_|(refine sq ?_;intro K U)|(refine si ?_;intro A B Y Z)|(refine Y _ _ ?_;clear Z B Y A)|(refine U _ _ ?_;clear U K)|refine msK (fun σ hs=>?_)|fail)<;>conv=>whnf)
 generalize nn=mm at *;replace hs:Sat σ [.map mm (UF [(c:Int)])]:=hs
 refine FR (c - 2) (fun k (x:List Int×V)=>[(6,x.2),(7,eI ((c:Int) - k))]) (fun k x=>[.own x.2 1 (iL (Dk p c k)),.map mm (UF x.1)])
  (fun k x=>(∀b:Nat,b<3+(BE p).length→x.1.contains (b:Int)=(Jh (BE p) (3+(BE p).length) c k).getD b false)∧((Fb x.2).isSome=true∨(x.2= .l [] true∧Dk p c k= []))∧(Dk p c k).length≤4*k) ([(c:Int)],.l [] true) ?_ ⟨?_,.inr ⟨rfl,rfl⟩,by simp[Dk]⟩ (FF hs 1) ?_
 ·simp[Ol,get]
  exact⟨rfl,rfl,rfl⟩
 ·intro b hb
  simp only[Jh];rw[EN (by simp;omega)];by_cases hbc:b=c
  ·subst hbc;simp
  ·rw[if_neg hbc]
   have:((c:Int)==(b:Int))=false:=by simp;omega
   simp[FA,List.getElem?_replicate];split<;>simp<;>omega
 clear hs;rintro k ⟨M,v⟩ σ hk ⟨hMb,hv,hml⟩ hs;dsimp only at hMb hv hs;rcases Nat.lt_or_ge k (c - 2)with hlt|hge
 ·have hkc:M.contains ((c:Int) - k)=Ih (BE p) c (c - k):=by
   have:=hMb (c - k) (by omega);rw[Zv ho (by omega) (by omega)]at this;rw[←this];congr 1;omega
  have hcl:p.AU[(IntKind.i64.wrap ((c:Int) - k - 3)).toNat]? =some (Ho p (c - k)):=by
   rw[wrap64 (by omega) (by omega),show((c:Int) - k - 3).toNat=c - k - 3 by omega,Ho,FA,Fs (by omega)];rfl
  have hwi:0≤IntKind.i64.wrap ((c:Int) - k - 3):=by rw[wrap64 (by omega) (by omega)];omega
  have hw1:IntKind.i64.wrap ((c:Int) - k - 1)=(c:Int) - (k+1:Nat):=by rw[wrap64 (by omega) (by omega)];omega
  have hmt:Dk p c (k+1)=if Ih (BE p) c (c - k)then Dk p c k++(Ho p (c - k)).AL else Dk p c k:=rfl
  have hpar:(Ho p (c - k)).parents=par (BE p) (c - k):=by
   unfold par Ho BE;rw[if_neg (by omega),FA,FA,Rv,Fs (by omega)];rfl
  have hcm:=F.2 _ (Fo hcl);have hs4:=((Gs _ _ hsl).2 _ (Fo hcl)).2;have hst:=fun b=>Si ho (show c<3+(BE p).length by omega) k b
  rw[Zv ho (by omega) (by omega),←hpar]at hst;generalize Ho p (c - k)=cl at *;cases hb:Ih (BE p) c (c - k)
  ·rw[hb]at hkc hmt hst
   rw[if_neg (by decide)]at hmt
   conv=>whnf
   repeat'((first|refine st ?_|(refine sq ?_;intro K U)|(refine si ?_;intro A B Y Z)|(refine Y _ _ ?_;clear Z B Y A)|(refine U _ _ ?_;clear U K)|refine⟨rfl,?_⟩|refine rI hkc ?_|(constructor<;>intro hc<;>(try rw[hc])<;>(replace hc:=bp hc)<;>try(exfalso;omega))|clear U K)<;>conv=>whnf)
   all_goals try(exfalso;omega)
   rw[hw1];exact⟨hlt,(M,v),rfl,⟨fun b hb=>by rw[hMb b hb,hst b];simp,by rw[hmt];exact hv,by rw[hmt];omega⟩,by rw[hmt];exact hs⟩
  ·rw [hb] at hkc hmt hst
   rw[if_pos rfl]at hmt
   conv=>whnf
   repeat'((first|refine st ?_|(refine sq ?_;intro K U)|(refine si ?_;intro A B Y Z)|(refine Y _ _ ?_;clear Z B Y A)|(refine U _ _ ?_;clear U K)|refine⟨rfl,?_⟩|refine Y7 ?_|refine rI hkc ?_|(constructor<;>intro hc<;>(try rw[hc])<;>(replace hc:=bp hc)<;>try(exfalso;omega))|fail)<;>conv=>whnf)
   all_goals try(exfalso;omega)
   refine Ty (PD hs 0 rfl (by omega) FK fun v' σ hs hv'=>?_);rw[←hmt]at hs
   conv=>whnf
   repeat'((first|refine st ?_|(refine sq ?_;intro K U)|(refine si ?_;intro A B Y Z)|(refine Y _ _ ?_;clear Z B Y A)|(refine U _ _ ?_;clear U K)|refine⟨rfl,?_⟩|refine Y7 ?_|fail)<;>conv=>whnf)
   refine FR cl.parents.length (fun j (_:List Int)=>[(38,eI (Bo j))]) (fun _ M=>[.own v' 1 (iL (Dk p c (k+1))),.map mm (UF M)]) (fun j M'=>M'=(cl.parents.take j).foldl QJ M) M rfl rfl hs ?_;clear hs;rintro j M' σ hj hM' hs;rcases Bq cl.parents hj with⟨q,hq,hjlt⟩|hje
   ·conv=>whnf
    repeat'((first|refine st ?_|(refine sq ?_;intro K U)|(refine si ?_;intro A B Y Z)|(refine Y _ _ ?_;clear Z B Y A)|(refine U _ _ ?_;clear U K)|refine⟨rfl,?_⟩|refine ix ?_|(refine FB (fun hc=>?_)<;>(try rw[hc])<;>clear hc)|refine msK (fun σ hs=>?_)|clear U K)<;>conv=>whnf)
    exact⟨hjlt,_,rfl,by rw[BF hq,List.foldl_append,←hM'];rfl,hs⟩
   ·rw [Cz hje]at hM'
    conv=>whnf
    repeat'((first|refine st ?_|(refine sq ?_;intro K U)|(refine si ?_;intro A B Y Z)|(refine Y _ _ ?_;clear Z B Y A)|(refine U _ _ ?_;clear U K)|refine⟨rfl,?_⟩|(refine F5 (fun hc=>?_)<;>(try rw[hc])<;>clear hc)|clear U K)<;>conv=>whnf)
    rw[hw1];refine⟨hlt,(M',v'),rfl,⟨fun b hb=>?_,?_,?_⟩,hs⟩
    ·rw[hM',ON,hMb b hb,hst b,Bool.true_and]
    ·rcases hv' with hv'|⟨rfl,he⟩
     ·exact .inl hv'
     ·rcases hv with hv|⟨hv,hm0⟩
      ·exact .inl hv
      ·refine .inr ⟨hv,?_⟩
       rw[hmt,hm0,List.map_eq_nil_iff.1 he];rfl
    ·rw[hmt,UE];omega
 ·have hkk:k=c - 2:=by omega
  rw[hkk]at hs hv hml;clear hMb
  conv=>whnf
  repeat'((first|refine st ?_|(refine sq ?_;intro K U)|(refine si ?_;intro A B Y Z)|(refine Y _ _ ?_;clear Z B Y A)|(refine U _ _ ?_;clear U K)|refine⟨rfl,?_⟩|(constructor<;>intro hc<;>(try rw[hc])<;>(replace hc:=bp hc)<;>try(exfalso;omega))|clear U K)<;>conv=>whnf)
  all_goals try(exfalso;omega)
  refine(kS hv).use (rest:=[_]) hs ?_;clear hs;rintro r post σ ⟨rfl,rfl⟩ hs
  conv=>whnf
  repeat'((first|(refine sq ?_;intro K U)|(refine si ?_;intro A B Y Z)|(refine Y _ _ ?_;clear Z B Y A)|(refine U _ _ ?_;clear U K)|fail)<;>conv=>whnf)
  refine(vq _ v (by rw[List.length_mergeSort];omega)).use (rest:=[_]) hs ?_;clear hs;rintro r post σ ⟨rfl,rfl⟩ hs
  conv=>whnf
  repeat'((first|refine st ?_|(refine Y _ _ ?_;clear Z B Y A)|(refine U _ _ ?_;clear U K)|fail)<;>conv=>whnf)
  exact Dj Zk
theorem OH {p:Prog} {c:Nat} (s:Int): ∀k,s∈Dk p c k↔ ∃j,j<k∧Ih (BE p) c (c - j)=true∧s∈(Ho p (c - j)).AL
 | 0=>by simp[Dk]
 | k + 1 =>by
   rw[Dk];have ih:=OH (p:=p) (c:=c) s k;constructor
   ·intro h
    split at h
    ·rename_i hu
     rcases FQ.1 h with h|h
     ·obtain⟨j,h1,h2⟩:=ih.1 h
      exact⟨j,by omega,h2⟩
     ·exact⟨k,by omega,hu,h⟩
    ·obtain⟨j,h1,h2⟩:=ih.1 h
     exact⟨j,by omega,h2⟩
   ·rintro⟨j,h1,h2,h3⟩
    by_cases hj:j=k
    ·subst hj
     rw[if_pos h2];exact FQ.2 (.inr h3)
    ·have:=ih.2 ⟨j,by omega,h2,h3⟩
     split
     ·exact FQ.2 (.inl this)
     ·exact this
theorem Sr: ∀(l:List Int) (n s:Int),QH n l=true→(s∈l↔n≤s∧s<n+l.length)
 | [],n,s,_=>by simp<;>omega
 | x::r,n,s,h=>by
   simp only[QH,BO,Dp]at h;obtain⟨rfl,h⟩:=h;have:=Sr r (x+1) s h;rw[G3,this,Mu];omega
theorem Pa: ∀(cs:List Of) (i:Nat) (n s:Int),E7 n cs=true→0≤n→ ∀(j:Nat) (c:Of),cs[j]? =some c→(s∈c.AL↔n≤s∧s<n+(CX cs:Int)∧(BX i cs).getD (s - n).toNat 0=((i+j:Nat):Int)+3)
 | [],_,_,_,_,_,_,_,h=>by cases h
 | d ::r,i,n,s,h,h0,j,c,hj=>by
   simp only[E7,BO,DU]at h;obtain⟨-,-,hq,hr⟩:=h;have hm:=Sr d.AL n s hq;have hml:(CX (d::r):Int)=d.AL.length+CX r:=by simp[CX]
   have hgd:n≤s→(BX i (d::r)).getD (s - n).toNat 0=if s<n+d.AL.length then(i:Int)+3 else(BX (i+1) r).getD (s - (n+d.AL.length)).toNat 0:=fun hns=>by
    simp only[BX,FA];split
    ·rw[qv (by simp;omega),List.getElem?_replicate,if_pos (by omega)]
     rfl
    ·rw[List.getElem?_append_right (by simp;omega)]
     congr 2;simp;omega
   have hout: ∀q,q∈BX (i+1) r→(3:Int)+((i+1:Nat):Int)≤q:=fun q hq=>(FN hq).1
   cases j with
   | zero=>
     simp at hj;subst hj;rw[hm,hml];constructor
     ·rintro⟨h1,h2⟩
      refine⟨h1,by omega,?_⟩;rw[hgd h1,if_pos h2];simp
     ·rintro⟨h1,h2,h3⟩
      refine⟨h1,?_⟩;rw[hgd h1]at h3;by_cases hlt:s<n+d.AL.length
      ·exact hlt
      ·rw[if_neg hlt,FA]at h3
       have hlen:(s - (n+d.AL.length)).toNat<(BX (i+1) r).length:=by rw[DK];omega
       rw[Fs hlen]at h3;have:=hout _ (List.getElem_mem hlen);simp at h3;omega
   | succ j=>
     simp at hj;have ih:=Pa r (i+1) (n+d.AL.length) s hr (by omega) j c hj;rw[ih,hml];constructor
     ·rintro⟨h1,h2,h3⟩
      refine⟨by omega,by omega,?_⟩;rw[hgd (by omega),if_neg (by omega),h3];omega
     ·rintro⟨h1,h2,h3⟩
      rw[hgd h1]at h3;by_cases hlt:s<n+d.AL.length
      ·rw[if_pos hlt]at h3;omega
      ·rw[if_neg hlt]at h3
       exact⟨by omega,by omega,by rw[h3];omega⟩
theorem bg {p:Prog} {c:Nat} (hsl:E7 0 p.AU=true) (ho:ordered (BE p)) (hc3:3≤c) (hc:c<3+p.AU.length) (s:Int) :
 ((Dk p c (c - 2)).mergeSort Mw).contains s=(decide (0≤s)&&(decide (s<(CX p.AU:Int))&&hasB (Ar p) (c:Int) s)):=by
 rw[Bool.eq_iff_iff,List.contains_iff_mem,(List.mergeSort_perm _ Mw).mem_iff,OH];simp only[BO,DU,hasB]
 have hown: ∀j,j<c - 2→(s∈(Ho p (c - j)).AL↔0≤s∧s<(CX p.AU:Int)∧C0 (Ar p) s=((c - j:Nat):Int)):=fun j hj=>by
  have hcl:p.AU[c - j - 3]? =some (Ho p (c - j)):=by
   rw[Ho,FA,Fs (by omega)];rfl
  have:=Pa p.AU 0 0 s hsl (by omega) (c - j - 3) _ hcl;rw[this];simp only[Int.sub_zero,Int.zero_add,C0,Ar];constructor
  ·rintro⟨h1,h2,h3⟩;exact⟨h1,h2,by rw[h3];omega⟩
  ·rintro⟨h1,h2,h3⟩;exact⟨h1,h2,by rw[h3];omega⟩
 constructor
 ·rintro⟨j,h1,h2,h3⟩
  obtain⟨h4,h5,h6⟩:=(hown j h1).1 h3;refine⟨h4,h5,by omega,?_⟩;rw[h6];simp only[rQ,Bool.or_eq_true,BO,DU];exact .inr (.inr ⟨by omega,by simpa[Ar]using h2⟩)
 ·rintro⟨h1,h2,h3,h4⟩
  have hmem:C0 (Ar p) s∈BX 0 p.AU:=by
   have hlen:s.toNat<(BX 0 p.AU).length:=by rw[DK];omega
   have:C0 (Ar p) s=(BX 0 p.AU)[s.toNat]:=by
    simp only[C0,Ar,FA,Fs hlen];rfl
   rw[this];exact List.getElem_mem hlen
  have hb:=FN hmem
  have hup:Ih (BE p) c (C0 (Ar p) s).toNat=true:=by
   simp only[rQ,Bool.or_eq_true,BO,DU,Dp]at h4;rcases h4 with h4|h4|⟨_,h4⟩
   ·rw[←h4,Int.toNat_natCast];exact Gf ho c
   ·omega
   ·simpa[Ar]using h4
  have hle:=Zw ho _ _ hup;refine⟨c - (C0 (Ar p) s).toNat,by omega,?_,?_⟩
  ·rw[show c - (c - (C0 (Ar p) s).toNat)=(C0 (Ar p) s).toNat by omega]
   exact hup
  ·refine(hown _ (by omega)).2 ⟨h1,h2,by omega⟩
theorem bf {σ:AG}:BQ Tryz.prog 164 [.b false] σ fun r σ'=>r= .Bi DZ∧σ'=σ:=by
 refine aV nb ?_
 conv=>whnf
 repeat'((first|refine st ?_|(refine sq ?_;intro K U)|(refine si ?_;intro A B Y Z)|(refine Y _ _ ?_;clear Z B Y A)|(refine Z _ _ _ ?_;clear Z B Y A)|(refine U _ _ ?_;clear U K)|refine MM ?_|fail)<;>conv=>whnf)
 exact C7 ⟨rfl,rfl⟩
theorem Cc {x:Bool} {σ:AG} {k kp:V→AG→Prop} (h1:x=true→k (.t []) σ) (h2:x=false→kp DZ σ):BQ Tryz.prog 164 [.b x] σ (qk k kp):=by
 cases x
 ·refine BQ.mono bf ?_
  rintro r σ' ⟨rfl,rfl⟩;exact h2 rfl
 ·exact bc.use (h1 rfl)
def E6:Int→List Of→Bool
 | _,[]=>true
 | n,c::r=>decide (c.AL.length≤4)&&(QH n c.AL&&E6 (n+c.AL.length) r)
theorem Nf: ∀(cs:List Of) (n:Int),E7 n cs=(E6 n cs&&cs.all fun c=>decide (c.parents.length≤3))
 | [],_=>rfl
 | c::r,n=>by
   simp only[E7,E6,List.all_cons];rw[Nf r];cases decide (c.AL.length≤4)<;>cases decide (c.parents.length≤3)<;>cases QH n c.AL<;>simp
theorem PT: ∀(cs:List Of) (n:Int),E6 n cs=true→CX cs≤4*cs.length
 | [],_,_=>Nat.le_refl _
 | c::r,n,h=>by
   simp only[E6,BO,DU]at h;have:=PT r _ h.2.2;simp only[CX,List.map_cons,List.sum_cons,Mu]at *;omega
theorem TE {p:Prog} (h:Es (BE p)=true):(p.AU.all fun c=>decide (c.parents.length≤3))=true:=by
 rw[GL];intro c hc;obtain⟨i,hi⟩:=List.getElem?_of_mem hc;have:=(D1 h).2 i c.parents (by rw[BE,Rv,hi];rfl);exact decide_eq_true this.1
theorem OV (p:Prog):CA p=(decide (p.AU.length≤10)&&(E6 0 p.AU&&((CX p.AU:Int)==p.AL&&(Es (BE p)&&NN (Ar p) (CX p.AU) 0 p.AU)))):=by
 rw[CA,Nf];cases hg:Es (BE p)
 ·simp
 ·rw[TE hg,Bool.and_true]
abbrev xm (p:Prog):R→AG→Prop:=fun r σ'=> ∃post:List At,(r=(if CA p then R.ret (.t [])else R.Bi DZ)∧post= [])∧Sat σ' post
theorem Uj {p:Prog} {σ:AG} (h:CA p=false):A5 σ DZ (xm p):=C7 ⟨_,⟨by rw[h];rfl,rfl⟩,Sat.nil⟩
theorem clsT {p:Prog} {σ:AG} {l:List At} (hs:Sat σ l) (h:CA p=true):BJ σ (.t []) (xm p):=BU hs (List.nil_sublist _) (.refl _) fun σ' hs'=>⟨_,⟨by rw[h];rfl,rfl⟩,hs'⟩
set_option maxHeartbeats 4000000 in
theorem Vy (p : Prog):Bx Tryz.prog 163 [.a (Bz p)] [] fun r post=>r=(if CA p then R.ret (.t [])else R.Bi DZ)∧post= []:=by
 intro σ hs;refine BQ.fit (by kernel_rfl) fun hf=>?_
 have F:=WN hf.1;have hcl:=F.1;have hM:=Mx;refine vL nb ?_;have hcb:=OV p;by_cases h10:p.AU.length≤10
 rotate_left
 ·conv=>whnf
  repeat'((first|refine st ?_|(refine sq ?_;intro K U)|(refine si ?_;intro A B Y Z)|(refine Y _ _ ?_;clear Z B Y A)|(refine Z _ _ _ ?_;clear Z B Y A)|(refine U _ _ ?_;clear U K)|refine⟨rfl,?_⟩|(refine Cc (fun hc=>?_) (fun hc=>?_)<;>(replace hc:=bp hc)<;>(try simp(disch:=omega) only[Ce,wrap64,Ad]at hc)<;>(try(exfalso;omega)))|clear U K)<;>conv=>whnf)
  all_goals try(exfalso;omega)
  exact Uj (by rw[hcb];simp[h10])
 rw[decide_eq_true h10,Bool.true_and]at hcb
 conv=>whnf
 repeat'((first|refine st ?_|(refine sq ?_;intro K U)|(refine si ?_;intro A B Y Z)|(refine Y _ _ ?_;clear Z B Y A)|(refine U _ _ ?_;clear U K)|refine⟨rfl,?_⟩|(refine Cc (fun hc=>?_) (fun hc=>?_)<;>(replace hc:=bp hc)<;>(try simp(disch:=omega) only[Ce,wrap64,Ad]at hc)<;>(try(exfalso;omega)))|fail)<;>conv=>whnf)
 all_goals try(exfalso;omega)
 refine FR p.AU.length (fun k (n:Int)=>[(2,eI n),(24,eI (Bo k))]) (fun _ _=>[]) (fun k n=>E6 0 p.AU=E6 n (p.AU.drop k)∧0≤n∧n+CX (p.AU.drop k)=CX p.AU∧n≤4*k) 0 rfl (by simp) hs ?_;clear hs;rintro k n σ hk ⟨hn,hn0,hn1,hn2⟩ hs;rcases Bq p.AU hk with⟨c,hc,hlt⟩|hke
 ·have hcm:=(F.2 c (Fo hc)).2.1
  have hms:n+(c.AL.length:Int)+CX (p.AU.drop (k+1))=CX p.AU:=by
   rw[drop_cons hc]at hn1;simp only[CX,List.map_cons,List.sum_cons]at hn1 ⊢;omega
  rw[drop_cons hc,E6]at hn;by_cases h4:c.AL.length≤4
  ·rw [decide_eq_true h4,Bool.true_and]at hn
   conv=>whnf
   repeat'((first|refine st ?_|(refine sq ?_;intro K U)|(refine si ?_;intro A B Y Z)|(refine Y _ _ ?_;clear Z B Y A)|(refine U _ _ ?_;clear U K)|refine⟨rfl,?_⟩|refine⟨nb,?_⟩|refine ix ?_|refine ld ?_|refine GM fun σ hs=>?_|(refine FB (fun hc=>?_)<;>(try rw[hc])<;>clear hc)|(refine Cc (fun hc=>?_) (fun hc=>?_)<;>(replace hc:=bp hc)<;>(try simp(disch:=omega) only[Ce,wrap64,Ad]at hc)<;>(try(exfalso;omega)))|(intro nn hnn;generalize hg:BI _ nn _=σ;refine D8 hg fun hs=>?_;clear hg)|fail)<;>conv=>whnf)
   all_goals try(exfalso;omega)
   refine FR c.AL.length (fun j (m:Int)=>[(2,eI m),(36,eI (Bo j))]) (fun _ _=>[]) (fun j m=>E6 0 p.AU=(QH m (c.AL.drop j)&&E6 (n+c.AL.length) (p.AU.drop (k+1)))∧m=n+j) n rfl ⟨hn,by simp⟩ (hs.take 0) ?_;clear hs hn;rintro j m σ hj ⟨hm,he⟩ hs;rcases Bq c.AL hj with⟨x,hx,hjlt⟩|hje
   ·rw[drop_cons hx,QH]at hm
    conv=>whnf
    repeat'((first|refine st ?_|(refine sq ?_;intro K U)|(refine si ?_;intro A B Y Z)|(refine Y _ _ ?_;clear Z B Y A)|(refine Z _ _ _ ?_;clear Z B Y A)|(refine U _ _ ?_;clear U K)|refine⟨rfl,?_⟩|refine ix ?_|(refine FB (fun hc=>?_)<;>(try rw[hc])<;>clear hc)|(refine Cc (fun hc=>?_) (fun hc=>?_)<;>(replace hc:=bp hc))|clear U K)<;>conv=>whnf)
    ·rw[wrap64 (by omega) (by omega)]
     rw[hc,beq_self_eq_true,Bool.true_and]at hm;exact⟨hjlt,_,rfl,⟨by rw[←hc];rw[←hc]at hm;exact hm,by omega⟩,hs⟩
    ·exact Uj (by rw[hcb,hm];simp[hc])
   ·rw[Bt hje,QH,Bool.true_and]at hm
    conv=>whnf
    repeat'((first|refine st ?_|(refine sq ?_;intro K U)|(refine si ?_;intro A B Y Z)|(refine Y _ _ ?_;clear Z B Y A)|(refine U _ _ ?_;clear U K)|refine⟨rfl,?_⟩|(refine F5 (fun hc=>?_)<;>(try rw[hc])<;>clear hc)|clear U K)<;>conv=>whnf)
    exact⟨hlt,m,rfl,⟨by rw[hm];congr 1;omega,by omega,by omega,by omega⟩,hs⟩
  ·conv=>whnf
   repeat'((first|refine st ?_|(refine sq ?_;intro K U)|(refine si ?_;intro A B Y Z)|(refine Y _ _ ?_;clear Z B Y A)|(refine Z _ _ _ ?_;clear Z B Y A)|(refine U _ _ ?_;clear U K)|refine⟨rfl,?_⟩|refine⟨nb,?_⟩|refine ix ?_|refine ld ?_|refine GM fun σ hs=>?_|(refine FB (fun hc=>?_)<;>(try rw[hc])<;>clear hc)|(refine Cc (fun hc=>?_) (fun hc=>?_)<;>(replace hc:=bp hc)<;>(try simp(disch:=omega) only[Ce,wrap64,Ad]at hc)<;>(try(exfalso;omega)))|(intro nn hnn;generalize hg:BI _ nn _=σ;refine D8 hg fun hs=>?_;clear hg)|clear U K)<;>conv=>whnf)
   all_goals try(exfalso;omega)
   exact Uj (by rw[hcb,hn];simp[h4])
 ·have hne:n=CX p.AU:=by rw[Bt hke]at hn1;simpa[CX]using hn1
  rw[Bt hke]at hn;have hsp:E6 0 p.AU=true:=hn;have hml:=PT _ _ hsp;rw[hsp,Bool.true_and,←hne]at hcb;cases hgd:Es (BE p)
  ·rw[hgd]at hcb
   have hck:=TU (BE p) false;rw[hgd,if_neg (by decide)]at hck;have hcF:CA p=false:=by rw[hcb];simp
   conv=>whnf
   repeat'((first|refine st ?_|(refine sq ?_;intro K U)|(refine si ?_;intro A B Y Z)|(refine Y _ _ ?_;clear Z B Y A)|(refine Z _ _ _ ?_;clear Z B Y A)|(refine U _ _ ?_;clear U K)|refine⟨rfl,?_⟩|refine⟨nb,?_⟩|(refine F5 (fun hc=>?_)<;>(try rw[hc])<;>clear hc)|(refine Cc (fun hc=>?_) (fun hc=>?_)<;>(replace hc:=bp hc)<;>(try simp(disch:=omega) only[Ce,wrap64,Ad]at hc)<;>(try(exfalso;omega))<;>(try(cases hc;done)))|refine Pure.use (KV _ (by omega)) ?_|(constructor<;>intro hc<;>(try rw[hc])<;>(replace hc:=bp hc))|refine Pure.use (by assumption) ?_|clear U K)<;>conv=>whnf)
   all_goals exact Uj hcF
  ·have hck:=TU (BE p) false
   rw[hgd,if_pos rfl]at hck;rw[hgd,Bool.true_and]at hcb;by_cases hps:n=p.AL
   ·rw [hps,beq_self_eq_true,Bool.true_and,←hps]at hcb
    have hslB:E7 0 p.AU=true:=by rw[Nf,hsp,TE hgd];rfl
    have hG:=D1 hgd;have ho:=IX hG;have hgl:(BE p).length=p.AU.length:=by simp[BE]
    conv=>whnf
    repeat'((first|refine st ?_|(refine sq ?_;intro K U)|(refine si ?_;intro A B Y Z)|(refine Y _ _ ?_;clear Z B Y A)|(refine U _ _ ?_;clear U K)|refine⟨rfl,?_⟩|refine⟨nb,?_⟩|(refine F5 (fun hc=>?_)<;>(try rw[hc])<;>clear hc)|(refine Cc (fun hc=>?_) (fun hc=>?_)<;>(replace hc:=bp hc)<;>(try simp(disch:=omega) only[Ce,wrap64,Ad]at hc)<;>(try(exfalso;omega)))|refine Pure.use (KV _ (by omega)) ?_|(constructor<;>intro hc<;>(try rw[hc])<;>(replace hc:=bp hc)<;>try(exfalso;omega))|refine Pure.use (by assumption) ?_|clear U K)<;>conv=>whnf)
    refine FR p.AU.length (fun k (_:Unit)=>[(63,eI (Bo k))]) (fun _ _=>[]) (fun k _=>CA p=NN (Ar p) n k (p.AU.drop k)) () rfl hcb hs ?_;clear hs;rintro i - σ hi hn' hs;rcases Bq p.AU hi with⟨c,hc,hilt⟩|hie
    ·rw [drop_cons hc,NN]at hn'
     have hci:Bo i=i:=Ad (by omega);have hw3:IntKind.i64.wrap (Bo i+3)=(i:Int)+3:=by rw[hci,wrap64 (by omega) (by omega)]
     have hlin:=sZ (BE p) false ((i:Int)+3) hgd (by omega) (by omega);have hinl:=(F.2 c (Fo hc)).2.2;have hlb:wk (Ar p).parents ((i:Int)+3)= !((Da (BE p)).getD ((i:Int)+3).toNat []).isEmpty:=rfl;cases hem:((Da (BE p)).getD ((i:Int)+3).toNat []).isEmpty
     ·rw [hem]at hlb
      rw[hlb,Bool.not_false,Bool.true_and]at hn';rw[hem,if_neg (by decide),←hw3]at hlin;have hhas:=sm p (i+3) h10 hslB hgd (by omega) (by omega);have hmh:=bg hslB ho (show 3≤i+3 by omega) (show i+3<3+p.AU.length by omega);have ei3:((i+3:Nat):Int)=(i:Int)+3:=by omega
      rw[ei3,←hw3]at hhas;rw[ei3]at hmh;generalize (Dk p (i+3) (i+3 - 2)).mergeSort Mw=mine at *
      conv=>whnf
      repeat'((first|refine st ?_|(refine sq ?_;intro K U)|(refine si ?_;intro A B Y Z)|(refine Y _ _ ?_;clear Z B Y A)|(refine U _ _ ?_;clear U K)|refine⟨rfl,?_⟩|refine⟨nb,?_⟩|refine ix ?_|refine ld ?_|refine GM fun σ hs=>?_|(refine FB (fun hc=>?_)<;>(try rw[hc])<;>clear hc)|(refine Cc (fun hc=>?_) (fun hc=>?_)<;>(replace hc:=bp hc)<;>(try simp(disch:=omega) only[Ce,wrap64,Ad]at hc)<;>(try(exfalso;omega)))|(intro nn hnn;generalize hg:BI _ nn _=σ;refine D8 hg fun hs=>?_;clear hg)|refine Pure.use (by assumption) ?_|fail)<;>conv=>whnf)
      generalize nn=mm at *;replace hs:Sat σ [.map mm (UF [])]:=hs.take 1;refine FR c.inits.length (fun j (_:List Int)=>[(86,eI (Bo j))]) (fun _ M=>[.map mm (UF M)]) (fun j M=>CA p=(LB (Ar p) ((i:Int)+3) n (c.inits.take j) (c.inits.drop j)&&NN (Ar p) n (i+1) (p.AU.drop (i+1)))∧ ∀s,M.contains s=(c.inits.take j).any fun y=>y.1==s) [] rfl ⟨hn',fun s=>rfl⟩ hs ?_;clear hs;rintro j M σ hj ⟨hm,hMs⟩ hs;rcases Bq c.inits hj with⟨x,hx,hjlt⟩|hje
      ·have hpa:((c.inits.take j).all fun y=>y.1 != x.1)= !M.contains x.1:=by
        rw[hMs,List.all_eq_not_any_not];congr 2;funext y;simp[bne]
       have hst:CA p=((mine.contains x.1&&(!M.contains x.1&&Ul x.2))&&(LB (Ar p) ((i:Int)+3) n (c.inits.take (j+1)) (c.inits.drop (j+1))&&NN (Ar p) n (i+1) (p.AU.drop (i+1)))):=by
        rw[hm,drop_cons hx,LB,hpa,hmh,←hne,BF hx];cases decide (0≤x.1)<;>cases decide (x.1<n)<;>cases hasB (Ar p) ((i:Int)+3) x.1<;>cases Ul x.2<;>cases M.contains x.1<;>simp
       have hMs': ∀s,(QJ M x.1).contains s=(c.inits.take (j+1)).any fun y=>y.1==s:=fun s=>by
        rw[Sz,hMs,BF hx,List.any_append];simp only[List.any_cons,List.any_nil,Bool.or_false];congr 1;rw[Bool.eq_iff_iff];simp;exact eq_comm
       have hct:=Dc mine false x.1;have hbt:=OX x.2;clear hmh hpa hMs hm;cases eA:mine.contains x.1<;>cases eB:M.contains x.1<;>cases eD:Ul x.2<;>rw[eA]at hct<;>rw[eD]at hbt<;>rw[eA,eB,eD]at hst
       all_goals
        conv=>whnf
        repeat'((first|refine st ?_|(refine sq ?_;intro K U)|(refine si ?_;intro A B Y Z)|(refine Y _ _ ?_;clear Z B Y A)|(refine Z _ _ _ ?_;clear Z B Y A)|(refine U _ _ ?_;clear U K)|refine⟨rfl,?_⟩|refine⟨nb,?_⟩|refine ix ?_|refine ld ?_|refine GM fun σ hs=>?_|refine MM ?_|refine G5 ?_|(refine FB (fun hc=>?_)<;>(try rw[hc])<;>clear hc)|(refine Cc (fun hc=>?_) (fun hc=>?_)<;>(replace hc:=bp hc)<;>(try simp(disch:=omega) only[Ce,wrap64,Ad]at hc)<;>(try(cases hc;done)))|refine rI eB ?_|refine msK (fun σ hs=>?_)|(intro nn hnn;generalize hg:BI _ nn _=σ;refine D8 hg fun hs=>?_;clear hg)|refine Pure.use (by assumption) ?_|clear U K)<;>conv=>whnf)
       all_goals first
        | exact⟨hjlt,_,rfl,⟨hst,hMs'⟩,hs.less (List.sublist_cons_self _ _)⟩
        | exact Uj (by rw[hst];rfl)
      ·rw[Bt hje,LB,Bool.true_and]at hm
       conv=>whnf
       repeat'((first|refine st ?_|(refine sq ?_;intro K U)|(refine si ?_;intro A B Y Z)|(refine Y _ _ ?_;clear Z B Y A)|(refine U _ _ ?_;clear U K)|refine⟨rfl,?_⟩|(refine F5 (fun hc=>?_)<;>(try rw[hc])<;>clear hc)|clear U K)<;>conv=>whnf)
       exact⟨hilt,(),rfl,hm,hs.take 0⟩
     ·rw[hem]at hlb
      rw[hem,if_pos rfl,←hw3]at hlin;have hcF:CA p=false:=by rw[hn',hlb];rfl
      conv=>whnf
      repeat'((first|refine st ?_|(refine sq ?_;intro K U)|(refine si ?_;intro A B Y Z)|(refine Y _ _ ?_;clear Z B Y A)|(refine Z _ _ _ ?_;clear Z B Y A)|(refine U _ _ ?_;clear U K)|refine⟨rfl,?_⟩|refine⟨nb,?_⟩|refine ix ?_|refine GM fun σ hs=>?_|(refine FB (fun hc=>?_)<;>(try rw[hc])<;>clear hc)|(refine Cc (fun hc=>?_) (fun hc=>?_)<;>(replace hc:=bp hc)<;>(try(exfalso;omega)))|(intro nn hnn;generalize hg:BI _ nn _=σ;refine D8 hg fun hs=>?_;clear hg)|refine Pure.use (by assumption) ?_|clear U K)<;>conv=>whnf)
      all_goals exact Uj hcF
    ·conv=>whnf
     repeat'((first|refine st ?_|(refine sq ?_;intro K U)|(refine si ?_;intro A B Y Z)|(refine Y _ _ ?_;clear Z B Y A)|(refine U _ _ ?_;clear U K)|refine⟨rfl,?_⟩|(refine F5 (fun hc=>?_)<;>(try rw[hc])<;>clear hc)|clear U K)<;>conv=>whnf)
     exact clsT hs (by rw[hn',Bt hie];rfl)
   ·have hcF:CA p=false:=by rw[hcb];simp[hps]
    conv=>whnf
    repeat'((first|refine st ?_|(refine sq ?_;intro K U)|(refine si ?_;intro A B Y Z)|(refine Y _ _ ?_;clear Z B Y A)|(refine Z _ _ _ ?_;clear Z B Y A)|(refine U _ _ ?_;clear U K)|refine⟨rfl,?_⟩|refine⟨nb,?_⟩|(refine F5 (fun hc=>?_)<;>(try rw[hc])<;>clear hc)|(refine Cc (fun hc=>?_) (fun hc=>?_)<;>(replace hc:=bp hc)<;>(try simp(disch:=omega) only[Ce,wrap64,Ad]at hc)<;>(try(cases hc;done)))|refine Pure.use (KV _ (by omega)) ?_|(constructor<;>intro hc<;>(try rw[hc])<;>(replace hc:=bp hc)<;>try(exfalso;omega))|clear U K)<;>conv=>whnf)
    all_goals exact Uj hcF
theorem Xu (f:Fact):Sb f=true→Pure Tryz.prog 171 [.a (xF f)] (eI (JB f)):=by
 induction f using Fact.ind with
 | h f ih=>
   intro ha;refine Pure.fit (by kernel_rfl) fun hf=>?_
   have⟨h2,h3,h4⟩:=oa hf.1;have hM:=Mx;rw[TX]at ha;simp only[BO,DU,List.all_map,GL]at ha;refine vE nb ?_;have hs:=Sn;by_cases hlf:Cu f=true
   ·have hlo:=FJ hlf
    have hw:IntKind.i64.wrap (f.arg+1)=f.arg+1:=wrap64 (by omega) (by omega)
    conv=>whnf
    repeat'((first|refine st ?_|(refine sq ?_;intro K U)|(refine si ?_;intro A B Y Z)|(refine Y _ _ ?_;clear Z B Y A)|(refine U _ _ ?_;clear U K)|refine⟨rfl,?_⟩|(constructor<;>intro hc<;>(try rw[hc])<;>(replace hc:=bp hc)<;>try(exfalso;omega))|fail)<;>conv=>whnf)
    all_goals try(exfalso;omega)
    all_goals
     refine FR f.kids.length (fun k (_:Unit)=>[(3,eI (((f.kids.take k).map JB).foldl R0 (if Cu f then f.arg+1 else 0))),(25,eI (Bo k))]) (fun _ _=>[]) (fun _ _=>True) () (by rw[hw,if_pos hlf];rfl) trivial hs ?_;clear hs;rintro k - σ hk - hs;rcases Bq f.kids hk with⟨x,hx,hlt⟩|hke
     ·have hxs:=ih x (Fo hx) (ha.2 x (Fo hx))
      conv=>whnf
      repeat'((first|refine st ?_|(refine sq ?_;intro K U)|(refine si ?_;intro A B Y Z)|(refine Y _ _ ?_;clear Z B Y A)|(refine U _ _ ?_;clear U K)|refine⟨rfl,?_⟩|refine⟨nb,?_⟩|refine ixF ?_|refine ld ?_|refine GM fun σ hs=>?_|(refine FB (fun hc=>?_)<;>(try rw[hc])<;>clear hc)|(intro nn hnn;generalize hg:BI _ nn _=σ;refine D8 hg fun hs=>?_;clear hg)|refine Pure.use (by assumption) ?_|clear U K)<;>conv=>whnf)
      exact⟨hlt,(),by rw[N4 _ _ _ hx];rfl,trivial,hs.take 0⟩
     ·conv=>whnf
      repeat'((first|refine st ?_|(refine sq ?_;intro K U)|(refine si ?_;intro A B Y Z)|(refine Y _ _ ?_;clear Z B Y A)|(refine U _ _ ?_;clear U K)|refine⟨rfl,?_⟩|(refine F5 (fun hc=>?_)<;>(try rw[hc])<;>clear hc)|clear U K)<;>conv=>whnf)
      exact AY (by rw[Cz hke,←PQ])
   ·have hlo:f.op≠2∧f.op≠3∧f.op≠4:=by
     simp only[Cu,Bool.or_eq_true,Dp]at hlf;omega
    conv=>whnf
    repeat'((first|refine st ?_|(refine sq ?_;intro K U)|(refine si ?_;intro A B Y Z)|(refine Y _ _ ?_;clear Z B Y A)|(refine U _ _ ?_;clear U K)|refine⟨rfl,?_⟩|(constructor<;>intro hc<;>(try rw[hc])<;>(replace hc:=bp hc)<;>try(exfalso;omega))|fail)<;>conv=>whnf)
    all_goals try(exfalso;omega)
    all_goals
     refine FR f.kids.length (fun k (_:Unit)=>[(3,eI (((f.kids.take k).map JB).foldl R0 (if Cu f then f.arg+1 else 0))),(25,eI (Bo k))]) (fun _ _=>[]) (fun _ _=>True) () (by rw[if_neg hlf];rfl) trivial hs ?_;clear hs;rintro k - σ hk - hs;rcases Bq f.kids hk with⟨x,hx,hlt⟩|hke
     ·have hxs:=ih x (Fo hx) (ha.2 x (Fo hx))
      conv=>whnf
      repeat'((first|refine st ?_|(refine sq ?_;intro K U)|(refine si ?_;intro A B Y Z)|(refine Y _ _ ?_;clear Z B Y A)|(refine U _ _ ?_;clear U K)|refine⟨rfl,?_⟩|refine⟨nb,?_⟩|refine ixF ?_|refine ld ?_|refine GM fun σ hs=>?_|(refine FB (fun hc=>?_)<;>(try rw[hc])<;>clear hc)|(intro nn hnn;generalize hg:BI _ nn _=σ;refine D8 hg fun hs=>?_;clear hg)|refine Pure.use (by assumption) ?_|clear U K)<;>conv=>whnf)
      exact⟨hlt,(),by rw[N4 _ _ _ hx];rfl,trivial,hs.take 0⟩
     ·conv=>whnf
      repeat'((first|refine st ?_|(refine sq ?_;intro K U)|(refine si ?_;intro A B Y Z)|(refine Y _ _ ?_;clear Z B Y A)|(refine U _ _ ?_;clear U K)|refine⟨rfl,?_⟩|(refine F5 (fun hc=>?_)<;>(try rw[hc])<;>clear hc)|clear U K)<;>conv=>whnf)
      exact AY (by rw[Cz hke,←PQ])
theorem X9 (p:Prog) (x:Node) (size:Int):Pure Tryz.prog 168 [.a (Bz p),.a (Ly x),eI size] (.b (QL p x size)):=by
 refine Pure.fit (by kernel_rfl) fun hf=>?_
 have⟨p1,p2,p3,p4⟩:=PE hf.1;have hM:=Mx;have hw:IntKind.i64.wrap (3+((p.AU.map SB).length:Nat))=3+(p.AU.length:Int):=by rw[Ce,wrap64 (by omega) (by omega)]
 refine vH nb ?_;have hs:=Sn
 conv=>whnf
 repeat'((first|refine st ?_|(refine sq ?_;intro K U)|(refine si ?_;intro A B Y Z)|(refine Y _ _ ?_;clear Z B Y A)|(refine U _ _ ?_;clear U K)|refine⟨rfl,?_⟩|refine Pure.use (OX _) ?_|(constructor<;>intro hc<;>(try rw[hc])<;>(replace hc:=bp hc))|clear U K)<;>conv=>whnf)
 all_goals first
  | (refine AY ?_;simp[QL, *];done)
  | (refine AY ?_;simp[QL, *];omega)
  | (refine AY ?_;rw[hw];simp[QL, *];done)
  | (refine AY ?_;congr 1;rw[Bool.eq_iff_iff];simp[QL, *];omega)
theorem sN (n:Nat) (hn:n≤120):Pure Tryz.prog 252 [.i .u64 1,eU n] (.t [.i .u64 0,eU n]):=by
 refine uS nb ?_;have hs:=Sn
 conv=>whnf
 repeat'((first|refine st ?_|(refine sq ?_;intro K U)|(refine si ?_;intro A B Y Z)|(refine Y _ _ ?_;clear Z B Y A)|(refine U _ _ ?_;clear U K)|refine⟨rfl,?_⟩|refine⟨(by decide:(0:Int)≤_),?_⟩|fail)<;>conv=>whnf)
 have ea: ∀m:Nat,m≤120→bits .and .u64 (m:Int) 4294967295=(m:Int):=fun m hm=>by
  have:=KZ (a:=m) (b:=4294967295) (by omega) (by decide)
  have e:m&&&4294967295=m:=by
   have:=Nat.and_two_pow_sub_one_eq_mod m 32;rw[show 2 ^ 32 - 1=4294967295 from rfl]at this;rw[this];omega
  rw[e]at this;exact this
 have e0:=ea 0 (by omega);have e1:=ea 1 (by omega);have en:=ea n hn
 have ef: ∀m:Nat,m≤120→(m:Int).fdiv (2 ^ min (Int.toNat 32) IntKind.u64.bits)=0:=fun m hm=>by
  have:=WW (a:=m) (c:=32) (by decide);rw[show(Int.toNat 32)=32 from rfl,this,Nat.shiftRight_eq_div_pow];have:m / 2 ^ 32=0:=Nat.div_eq_of_lt (by omega);rw[this];rfl
 have f0:=ef 0 (by omega);have f1:=ef 1 (by omega);have fn:=ef n hn;have w0:IntKind.u64.wrap 0=0:=rfl;have wn:IntKind.u64.wrap (n:Int)=n:=Gg (by omega);simp only[Int.natCast_zero,Int.natCast_one,Int.cast_ofNat_Int]at e0 e1 f0 f1;simp only[e0,e1,en,f0,f1,fn,w0,wn,Int.zero_mul,Int.mul_zero,Int.zero_add,Int.add_zero,Int.one_mul];exact AY rfl
theorem sO (n:Nat) (hn:n≤120):Pure Tryz.prog 212 [.i .u64 1,eU n] (.t [.i .u64 0,eU n]):=by
 refine um nb ?_;have hs:=Sn
 conv=>whnf
 repeat'((first|refine st ?_|(refine sq ?_;intro K U)|(refine si ?_;intro A B Y Z)|(refine Y _ _ ?_;clear Z B Y A)|(refine U _ _ ?_;clear U K)|refine Pure.use (sN n hn) ?_|fail)<;>conv=>whnf)
 all_goals exact AY rfl
end Go.Gl
namespace Go.Gl
variable {P:Program} {σ:AG}
theorem slLo {n sz len cap:Nat} {ki:IntKind} {j:Int} {K:V→AG→Prop} (h:K (.sv n sz j.toNat ((len:Int) - j).toNat) σ) (h0:0≤j:=by omega) (h1:j≤(len:Int):=by omega):Ac σ sz (.sl n len cap) (some (.i ki j)) none none K:=by
 unfold Ac;simp only[Oh];exact⟨h0,h1,Int.le_refl _,h⟩
theorem slHi {n sz len cap:Nat} {ki:IntKind} {j:Int} {K:V→AG→Prop} (h:K (.sv n sz 0 j.toNat) σ) (h0:0≤j:=by omega) (h1:j≤(len:Int):=by omega):Ac σ sz (.sl n len cap) none (some (.i ki j)) none K:=by
 unfold Ac;simp only[Oh];refine⟨Int.le_refl _,h0,h1,?_⟩;simpa using h
theorem yT {l:List At} (h:Sat σ l) (i:Nat) {n len cap sz:Nat} {es ys:List (List V)} {f:Bool} {K:V→AG→Prop} (hi:l[i]? =some (.own (.sl n len cap) sz es)) (hle:ys.length≤es.length) (hys: ∀e∈ys,e.length=sz) (ho: ∀e∈ys,∀v∈e,B7 v=true)
 (hk: ∀σ',Sat σ' (l.set i (.own (.sl n len cap) sz (ys++es.drop ys.length)))→K (.i .i64 (ys.length:Nat)) σ'):Az σ sz (.sl n len cap) (.l ys f) K:=by
 rcases h.get hi with⟨h1,_⟩|⟨n',cap',h1,hn⟩
 ·cases h1
 cases h1;unfold Az;refine⟨hys,ho,?_⟩;simp only[M4,hn];have hm:min ys.length es.length=ys.length:=Nat.min_eq_left hle;refine⟨trivial,by omega,?_⟩;rw[hm];refine hk _ ?_;simp only[List.take_zero,List.nil_append,List.take_length,Nat.zero_add];refine h.change hi (fun b hb ha=>FD hb fun m hm=>?_) (fun b hb ha m hm=>ha m hm) (.inr ⟨n,cap,by simp;omega,by simp[BI]⟩);rw[Cf];intro e;subst e;exact ha m rfl hm
theorem yS {l:List At} (h:Sat σ l) (i:Nat) {n len cap sz a b c:Nat} {es:List (List V)} {K:V→AG→Prop} (hi:l[i]? =some (.own (.sl n len cap) sz es)) (hbc:a+b≤es.length) (hc:c≤es.length) (hys: ∀e∈es,e.length=sz) (ho: ∀e∈es,∀v∈e,B7 v=true)
 (hk: ∀σ',Sat σ' (l.set i (.own (.sl n len cap) sz (es.take a++((es.take c).take (min c b)++es.drop (a+min c b)))))→K (.i .i64 (min c b:Nat)) σ'):Az σ sz (.sv n sz a b) (.sv n sz 0 c) K:=by
 rcases h.get hi with⟨h1,_⟩|⟨n',cap',h1,hn⟩
 ·cases h1
 cases h1;unfold Az;simp only[rowsOf,hn];have hl:((es.drop 0).take c).length=c:=by simp;omega
 refine⟨trivial,trivial,by omega,fun e he v hv=>ho e (List.mem_of_mem_take (by simpa using he)) v hv,trivial,?_⟩;simp only[M4,hn,List.drop_zero];refine⟨trivial,by omega,?_⟩;have hl2:(es.take c).length=c:=by simp;omega
 rw[hl2];refine hk _ ?_;refine h.change hi (fun b hb ha=>FD hb fun m hm=>?_) (fun b hb ha m hm=>ha m hm) (.inr ⟨n,cap,by simp;omega,by simp[BI]⟩);rw[Cf];intro e;subst e;exact ha m rfl hm
end Go.Gl
namespace Go.Gl
open Go.Proofs
attribute [local irreducible] BQ BJ A5 Ab AQ A4 Ac Af AR Az AW Aa BT Bf Sat An BZ A6 W
theorem Xz (n:Nat) (h1:1≤n) (hn:n≤120):Bx Tryz.prog 165 [.l [[eI (-1)]] true,eI n] [] fun r post=> ∃v,r= .ret v∧post= [.own v 1 (iL (List.replicate n (-1)))]∧(Fb v).isSome=true:=by
 intro σ hs;have hM:=Mx;have hw1:IntKind.u64.wrap 1=1:=rfl;have hwn:IntKind.u64.wrap (n:Int)=n:=Gg (by omega);have hwi:IntKind.i64.wrap (n:Int)=n:=wrap64 (by omega) (by omega);refine vK nb ?_
 conv=>whnf
 repeat'((first|refine st ?_|(refine sq ?_;intro K U)|(refine si ?_;intro A B Y Z)|(refine Y _ _ ?_;clear Z B Y A)|(refine U _ _ ?_;clear U K)|refine⟨rfl,?_⟩|(constructor<;>intro hc<;>(try rw[hc])<;>(replace hc:=bp hc)<;>try(exfalso;omega))|fail)<;>conv=>whnf)
 rw[show IntKind.u64.wrap (([[eI (-1)]]:List (List V)).length:Nat)=1 from rfl,hwn];refine(sO n hn).use ?_
 conv=>whnf
 repeat'((first|refine st ?_|(refine sq ?_;intro K U)|(refine si ?_;intro A B Y Z)|(refine Y _ _ ?_;clear Z B Y A)|(refine U _ _ ?_;clear U K)|refine⟨rfl,?_⟩|(constructor<;>intro hc<;>(try rw[hc])<;>(replace hc:=bp hc)<;>try(exfalso;omega))|fail)<;>conv=>whnf)
 all_goals try(exfalso;omega)
 rw[hwi];refine wq hs (Nat.le_refl n) (by omega) fun v σ hs hv=>?_
 obtain⟨id,rfl⟩:=hv
 conv=>whnf
 repeat'((first|(refine sq ?_;intro K U)|(refine si ?_;intro A B Y Z)|(refine Y _ _ ?_;clear Z B Y A)|(refine U _ _ ?_;clear U K)|fail)<;>conv=>whnf)
 refine yT hs 0 (ys:=[[eI (-1)]]) rfl (by simp;omega) (fun e he=>by simp at he;subst he;rfl) (fun e he v hv=>by simp at he;subst he;simp at hv;subst hv;rfl) fun σ hs=>?_
 have hst:([[eI (-1)]]:List (List V))++(List.replicate n [V.i .i64 0]).drop ([[eI (-1)]]:List (List V)).length=List.replicate 1 [eI (-1)]++List.replicate (n - 1) [eI 0]:=by simp[List.drop_replicate]
 rw[hst]at hs
 conv=>whnf
 repeat'((first|refine st ?_|(refine sq ?_;intro K U)|(refine Y _ _ ?_;clear Z B Y A)|(refine U _ _ ?_;clear U K)|fail)<;>conv=>whnf)
 refine NQ (fun m:Nat=>n - m) (fun m=>[(8,eI m)]) (fun m=>[.own (.sl id n n) 1 (List.replicate m [eI (-1)]++List.replicate (n - m) [eI 0])]) (fun m=>1≤m∧m≤n) 1 rfl ⟨by omega,h1⟩ hs ?_;clear hs hst;rintro m σ ⟨hm1,hmn⟩ hs
 have hgl: ∀e∈(List.replicate m [eI (-1)]++List.replicate (n - m) [eI 0]:List (List V)),e.length=1∧ ∀v∈e,B7 v=true:=fun e he=>by
  rcases FQ.1 he with he|he
  ·rw[(List.mem_replicate.1 he).2];exact⟨rfl,fun v hv=>by simp at hv;subst hv;rfl⟩
  ·rw[(List.mem_replicate.1 he).2];exact⟨rfl,fun v hv=>by simp at hv;subst hv;rfl⟩
 have hlen:(List.replicate m [eI (-1)]++List.replicate (n - m) [eI 0]:List (List V)).length=n:=by simp;omega
 rcases Nat.lt_or_ge m n with hlt|hge
 ·have hcpy:(List.replicate m [eI (-1)]++List.replicate (n - m) [eI 0]:List (List V)).take m++(((List.replicate m [eI (-1)]++List.replicate (n - m) [eI 0]:List (List V)).take m).take (min m (n - m))++(List.replicate m [eI (-1)]++List.replicate (n - m) [eI 0]:List (List V)).drop (m+min m (n - m)))=List.replicate (m+min m (n - m)) [eI (-1)]++List.replicate (n - (m+min m (n - m))) [eI 0]:=by
   have e1:(List.replicate m [eI (-1)]++List.replicate (n - m) [eI 0]:List (List V)).take m=List.replicate m [eI (-1)]:=by
    rw[List.take_append_of_le_length (by simp)];simp
   rw[e1,List.take_replicate,List.drop_append,List.drop_replicate,List.drop_replicate,List.length_replicate,←UR,List.replicate_append_replicate];have e2:m - (m+min m (n - m))=0:=by omega
   have e3:n - m - (m+min m (n - m) - m)=n - (m+min m (n - m)):=by omega
   rw[e2,e3,List.replicate_zero,List.nil_append];congr 2;omega
  conv=>whnf
  repeat'((first|refine st ?_|(refine sq ?_;intro K U)|(refine si ?_;intro A B Y Z)|(refine Y _ _ ?_;clear Z B Y A)|(refine U _ _ ?_;clear U K)|refine dr ?_|refine⟨rfl,?_⟩|refine lo ?_|(constructor<;>intro hc<;>(try rw[hc])<;>(replace hc:=bp hc)<;>try(exfalso;omega))|fail)<;>conv=>whnf)
  all_goals try(exfalso;omega)
  refine slLo ?_
  conv=>whnf
  repeat'((first|refine dr ?_|fail)<;>conv=>whnf)
  refine slHi ?_
  conv=>whnf
  repeat'((first|refine dr ?_|fail)<;>conv=>whnf)
  rw[Int.toNat_natCast,show((n:Int) - m).toNat=n - m by omega];refine yS hs 0 rfl (by rw[hlen];omega) (by rw[hlen];omega) (fun e he=>(hgl e he).1) (fun e he=>(hgl e he).2) fun σ hs=>?_
  rw[hcpy]at hs
  conv=>whnf
  repeat'((first|(refine Y _ _ ?_;clear Z B Y A)|refine dr ?_|refine⟨rfl,?_⟩|clear U K)<;>conv=>whnf)
  refine⟨m+min m (n - m),by omega,?_,⟨by omega,by omega⟩,hs⟩;rw[wrap64 (by omega) (by omega)];rfl
 ·have hme:m=n:=by omega
  subst hme
  conv=>whnf
  repeat'((first|refine st ?_|(refine sq ?_;intro K U)|(refine si ?_;intro A B Y Z)|(refine Y _ _ ?_;clear Z B Y A)|(refine U _ _ ?_;clear U K)|refine⟨rfl,?_⟩|refine lo ?_|(constructor<;>intro hc<;>(try rw[hc])<;>(replace hc:=bp hc)<;>try(exfalso;omega))|clear U K)<;>conv=>whnf)
  all_goals try(exfalso;omega)
  refine BU hs (List.Sublist.refl _) (.refl _) fun σ' hs'=>⟨_,⟨_,rfl,?_,rfl⟩,hs'⟩
  simp[iL]
def PC (op:Int):V:=
 if op=5 then .ET 207 (.a [])else
 if op=1∨op=2∨op=3∨op=6∨op=18 then .ET 205 (eI 0)else
 if op=4∨op=8∨op=17 then .ET 205 (eI 1)else
 if op=7∨op=9∨op=11∨op=12∨op=13∨op=14∨op=15∨op=16 then .ET 205 (eI 2)else
 if op=10 then .ET 205 (eI 3)else .DN
theorem YH (op:Int):Pure Tryz.prog 169 [eI op] (PC op):=by
 refine vG nb ?_;have hs:=Sn
 conv=>whnf
 repeat'((first|refine st ?_|(refine sq ?_;intro K U)|(refine si ?_;intro A B Y Z)|(refine Y _ _ ?_;clear Z B Y A)|(refine U _ _ ?_;clear U K)|refine⟨rfl,?_⟩|(constructor<;>intro hc<;>(try rw[hc])<;>(replace hc:=bp hc))|clear U K)<;>conv=>whnf)
 all_goals exact AY (by simp[PC, *])
theorem yA (n:Int) (p:Prog) (x:Node):Pure Tryz.prog 306 [eI n,.a (Bz p),.a (Ly x)] (eI n):=by
 refine tp nb ?_;have hs:=Sn
 conv=>whnf
 repeat'((first|refine st ?_|(refine sq ?_;intro K U)|(refine si ?_;intro A B Y Z)|(refine Y _ _ ?_;clear Z B Y A)|(refine U _ _ ?_;clear U K)|fail)<;>conv=>whnf)
 all_goals exact AY rfl
theorem j9 (p:Prog) (x:Node) (h0:0≤x.n) (h1:x.n<p.EH.length):Pure Tryz.prog 307 [.a [],.a (Bz p),.a (Ly x)] (eI (p.EH.getD x.n.toNat 0)):=by
 refine Pure.fit (by kernel_rfl) fun hf=>?_
 have⟨p1,p2,p3,p4⟩:=PE hf.2.1
 have hx:p.EH[x.n.toNat]? =some (p.EH.getD x.n.toNat 0):=by
  rw[FA,Fs (by omega)];rfl
 refine tn nb ?_;have hs:=Sn
 conv=>whnf
 repeat'((first|refine st ?_|(refine sq ?_;intro K U)|(refine si ?_;intro A B Y Z)|(refine Y _ _ ?_;clear Z B Y A)|(refine U _ _ ?_;clear U K)|refine Y7 ?_|fail)<;>conv=>whnf)
 all_goals exact AY rfl
end Go.Gl
namespace Go.Gl
variable {P:Program} {σ:AG}
theorem Sat.up {σ':AG} {l:List At} (h:Sat σ l) (hs:Sub σ σ'):Sat σ' l:=by
 refine⟨fun a ha=>?_,h.2⟩;have:=h.1 a ha;cases a with
 | obj n o=>exact hs n o this
 | own v sz es=>
   rcases this with h|⟨n,cap,e,hn⟩
   ·exact .inl h
   ·exact .inr ⟨n,cap,e,hs n _ hn⟩
theorem Sat.del {l:List At} {n:Nat} {o:O} (h:Sat σ (.obj n o::l)):Sat (del σ n) l:=by
 refine⟨fun b hb=>FD (h.1 b (.tail _ hb)) fun m hm=>?_,(List.pairwise_cons.1 h.2).2⟩;rw[GF];intro e;subst e;exact(List.pairwise_cons.1 h.2).1 b hb m rfl hm
theorem Sat.K3 {l:List At} {n:Nat} {o:O} (h:Sat σ l) (hn:σ n=none):Sat (BI σ n o) (.obj n o::l):=(rN h hn).wR
theorem Sat.new {l:List At} {n:Nat} {o o':O} (h:Sat σ (.obj n o::l)):Sat (BI σ n o') (.obj n o'::l):=rM (i:=0) h rfl o'
theorem AO {v:V} {Q:R→AG→Prop} (h:Q (.ret v) σ):BJ σ v Q:=⟨v,σ,fun _ _ h=>h,.refl v,h⟩
inductive Rd (S:Type) where
 | go (s:S)
 | stop (st:wO) (s:S)
 | Bi (v:V)
def dD {S:Type} (L:Nat) (E:Env) (ok:FuncId→Array Tmp→Code→Code→Nat→Prop) (H:S→List At) (J:S→Prop) (rest:List At) (yes no:V):Rd S→R→AG→Prop
 | .go s,r,σ=>r= .ret yes∧Sat σ (.obj L (.loop .ready E ok)::(H s++rest))
 | .stop st s,r,σ=>r= .ret no∧Sat σ (.obj L (.loop st E ok)::(H s++rest))
 | .Bi v,r,σ=>r= .Bi v∧ ∃s,J s∧Sat (del σ L) (H s++rest)
def LP {α S:Type} (P:Program) (L:Nat) (E:Env) (ok:FuncId→Array Tmp→Code→Code→Nat→Prop) (ea:α→List V) (H:S→List At) (J:S→Prop) (stp:α→S→Rd S) (D:α→S→Prop):Prop:=
 ∀y s,D y s→ ∀(rest:List At) (σ:AG),Sat σ (.obj L (.loop .ready E ok)::(H s++rest))→MV P L (ea y) σ (dD L E ok H J rest (.b true) (.b false) (stp y s))
theorem LP.use {α S:Type} {L:Nat} {E:Env} {ok:FuncId→Array Tmp→Code→Code→Nat→Prop} {ea:α→List V} {H:S→List At} {J:S→Prop} {stp:α→S→Rd S} {D:α→S→Prop} (h:LP P L E ok ea H J stp D) {y:α} {s:S} (hd:D y s) {rest:List At} (hs:Sat σ (.obj L (.loop .ready E ok)::(H s++rest)))
 {Q:R→AG→Prop} (hk: ∀r σ',dD L E ok H J rest (.b true) (.b false) (stp y s) r σ'→Q r σ'):BT P (.f (.yield L) [] []) (ea y) σ Q:=(h y s hd rest σ hs).mono hk
theorem OS {L:Nat} {env:Env} {ps:List Nat} {a b:AJ} (hσ:σ L=some (.loop .ready env (By P ps a b))) {args:List V} (hl:args.length=ps.length) {Q:R→AG→Prop}
 (h:W P a (Cm (W P b fun ex env' σ'=>σ' L=none→Qt L env (By P ps a b) Q ex env' σ')) (EI ps args env) (del σ L)):MV P L args σ Q:=
 OT hσ hl (VB h (Iz fun _ _ h=>kL h))
theorem L6 {α S:Type} {L:Nat} {E:Env} {ps:List Nat} {a b:AJ} {ea:α→List V} {H:S→List At} {J:S→Prop} {stp:α→S→Rd S} {D:α→S→Prop} (hl: ∀y,(ea y).length=ps.length)
 (h: ∀y s,D y s→ ∀(rest:List At) (σ:AG),Sat σ (H s++rest)→W P a (Cm (W P b fun ex env' σ'=>σ' L=none→Qt L E (By P ps a b) (dD L E (By P ps a b) H J rest (.b true) (.b false) (stp y s)) ex env' σ')) (EI ps (ea y) E) σ):LP P L E (By P ps a b) ea H J stp D:=
 fun y s hd rest σ hs=>OS (hs.get (i:=0) rfl) (hl y) (h y s hd rest _ hs.del)
theorem Sw {S:Type} {L:Nat} {E:Env} {ok:FuncId→Array Tmp→Code→Code→Nat→Prop} {H:S→List At} {J:S→Prop} {rest:List At} {o:Rd S} {s:S} (h:o= .go s) (hs:Sat σ (H s++rest)) (hn:σ L=none) :
 dD L E ok H J rest (.b true) (.b false) o (.ret (.b true)) (BI σ L (.loop .ready E ok)):=by
 subst h;exact⟨rfl,hs.K3 hn⟩
theorem VK {S:Type} {L:Nat} {E:Env} {ok:FuncId→Array Tmp→Code→Code→Nat→Prop} {H:S→List At} {J:S→Prop} {rest:List At} {o:Rd S} {s:S} {st:wO} (h:o= .stop st s) (hs:Sat σ (H s++rest)) (hn:σ L=none) :
 dD L E ok H J rest (.b true) (.b false) o (.ret (.b false)) (BI σ L (.loop st E ok)):=by
 subst h;exact⟨rfl,hs.K3 hn⟩
theorem PW {S:Type} {L:Nat} {E:Env} {ok:FuncId→Array Tmp→Code→Code→Nat→Prop} {H:S→List At} {J:S→Prop} {rest:List At} {o:Rd S} {s:S} {v:V} (h:o= .Bi v) (hj:J s) (hs:Sat σ (H s++rest)) (hn:σ L=none) :
 dD L E ok H J rest (.b true) (.b false) o (.Bi v) σ:=by
 subst h;refine⟨rfl,s,hj,fun a ha=>FD (hs.1 a ha) fun n hd=>?_,hs.2⟩;obtain⟨o,ho⟩:=DH (hs.1 a ha) hd;rw[GF];intro e;subst e;rw[hn]at ho;cases ho
theorem Gh {L:Nat} {E env:Env} {ok:FuncId→Array Tmp→Code→Code→Nat→Prop} {Q:Ae→Env→AG→Prop} {l:List At} {v:V} (hs:Sat σ (.obj L (.loop .ready E ok)::l)) (hk: ∀σ',Sat σ' l→Q .normal env σ'):JN L Q env (.ret v) σ:=
 ⟨_,_,_,hs.get (i:=0) rfl,hk _ hs.del⟩
theorem VO {L id:Nat} {E env:Env} {ok:FuncId→Array Tmp→Code→Code→Nat→Prop} {Q:Ae→Env→AG→Prop} {l:List At} {v:V} (hs:Sat σ (.obj L (.loop (.exit id) E ok)::l)) (hk: ∀σ',Sat σ' l→Q (.exit id) env σ'):JN L Q env (.ret v) σ:=
 ⟨_,_,_,hs.get (i:=0) rfl,hk _ hs.del⟩
end Go.Gl
