import Derived.Test.YtijbpgdmpejgoaaGreatS8
set_option linter.all false
noncomputable section
namespace Go.Gl
open Go.Proofs
attribute [local irreducible] Be BQ BH Ae AR BC Af Ag AT A7 AZ Ad Bk Bx Sat Au Bs BI W
theorem iG (xs:List Int) (f:Bool) (x:Int):Pure Tryz.prog 154 [.l (iL xs) f,eI x] (.b (xs.contains x)):=Pure.fit (by kernel_rfl) fun hf=>cD xs f x (LU hf.1)
def E6 (w:AM) (f:Fact):Bool:=decide (Ci f 24≤24)&&(decide (EX f≤12)&&CW w f)
theorem dw (w:AM) (f:Fact):Pure Tryz.prog 94 [.a (BR w),.a (xF f)] (.b (E6 w f)):=by
 refine AA6 nb ?_
 conv=>whnf
 repeat'((first|apply st|(apply sq;intro K U)|(apply si;intro A B Y Z)|(apply Y;clear Z B Y A)|(apply U;clear U K)|refine⟨rfl,?_⟩|refine⟨nb,?_⟩|refine Pure.use (dZ _) ?_|(constructor<;>intro hc<;>(try rw[hc])<;>(replace hc:=bp hc))|fail)<;>conv=>whnf)
 ·have:=K4 f 24 (by omega) hc
  refine(eK f (by simp only[Ai];omega)).use ?_
  conv=>whnf
  repeat'((first|apply st|(apply Y;clear Z B Y A)|(apply U;clear U K)|refine⟨rfl,?_⟩|refine⟨nb,?_⟩|refine Pure.use (gn _ _) ?_|(constructor<;>intro hc<;>(try rw[hc])<;>(replace hc:=bp hc))|fail)<;>conv=>whnf)
  ·exact AJ (by simp[E6,hc,‹Ci f 24≤24›])
  ·exact AJ (by simp[E6, *];intros;omega)
 ·exact AJ (by simp[E6];intros;omega)
def tI (i:Nat) (pre:List Int) (c:Int):Bool:=decide (3≤c)&&(decide (c<3+i)&& !pre.contains c)
def MW (i:Nat):List Int→List Int→Bool
 | _,[]=>true
 | pre,c::r=>tI i pre c&&MW i (pre++[c]) r
def Iq:Nat→List (List Int)→Bool
 | _,[]=>true
 | i,l::r=>decide (l.length≤3)&&(MW i [] l&&Iq (i+1) r)
def EA (g:List (List Int)):Bool:=decide (g.length≤16)&&Iq 0 g
theorem SU {ls:List (List Int)} {g:Bool} (h:FG (.l (Ev ls) g)):ls.length≤Ai∧ ∀l∈ls,l.length≤Ai:=by
 simp only[HN,Bz,JX,Dr]at h;exact⟨h.1,fun l hl=>(h.2 l hl).1.1⟩
theorem iK (g:List (List Int)) (f:Bool):Pure Tryz.prog 123 [.l (Ev g) f] (.b (EA g)):=by
 refine Pure.fit (by kernel_rfl) fun hf=>?_
 have⟨g1,g2⟩:=SU hf.1;have hM:=Mx;refine yZ nb ?_
 conv=>whnf
 repeat'((first|apply st|(apply sq;intro K U)|(apply si;intro A B Y Z)|(apply Y;clear Z B Y A)|(apply U;clear U K)|refine⟨rfl,?_⟩|(constructor<;>intro hc<;>(try rw[hc])<;>(replace hc:=bp hc)<;>(try simp(disch:=omega) only[Bz,wrap64,AP]at hc))|clear U K)<;>conv=>whnf)
 ·exact AJ (by simp[EA];intros;omega)
 ·refine Cn g.length (fun k (_:Unit)=>[(3,eI (BJ k))]) (fun _ _=>[]) (fun k _=>EA g=Iq k (g.drop k)) () rfl (by simp[EA];omega) Sat.nil ?_
  rintro k - σ hk hn hs
  conv=>whnf
  repeat'((first|apply st|(apply sq;intro K U)|(apply si;intro A B Y Z)|(apply Y;clear Z B Y A)|(apply U;clear U K)|refine⟨rfl,?_⟩|refine ix ?_|(refine fc (fun x hx hlt hc=>?_) (fun hk hc=>?_)<;>(try rw[hc])<;>clear hc)|(constructor<;>intro hc<;>(try rw[hc])<;>(replace hc:=bp hc)<;>(try simp(disch:=omega) only[Bz,wrap64,AP]at hc))|clear U K)<;>conv=>whnf)
  ·exact AJ (by rw[hn,drop_cons hx,Iq];simp;intros;omega)
  ·revert x
   rintro l hl hl3;have hll:=g2 l (DM hl);have hn':EA g=(MW k [] l&&Iq (k+1) (g.drop (k+1))):=by rw[hn,drop_cons hl,Iq];simp;intros;omega
   refine Cn l.length (fun j (_:Unit)=>[(4,eI (BJ j))]) (fun _ _=>[]) (fun j _=>EA g=(MW k (l.take j) (l.drop j)&&Iq (k+1) (g.drop (k+1)))) () rfl (by rw[hn'];rfl) Sat.nil ?_;rintro j - σ hj hm hs
   conv=>whnf
   repeat'((first|apply st|(apply sq;intro K U)|(apply si;intro A B Y Z)|(apply Y;clear Z B Y A)|(apply U;clear U K)|apply dr|refine⟨rfl,?_⟩|refine ix ?_|refine sk1 ?_|(refine fc (fun x hx hlt hc=>?_) (fun hk hc=>?_)<;>(try rw[hc])<;>clear hc)|refine Pure.use (iG _ _ _) ?_|(constructor<;>intro hc<;>(try rw[hc])<;>(replace hc:=bp hc)<;>(try simp(disch:=omega) only[Bz,wrap64,AP]at hc))|clear U K)<;>conv=>whnf)
   ·exact AJ (by rw[hm,drop_cons hx,MW,tI,hc];simp)
   ·refine⟨hlt,(),rfl,?_,Sat.nil⟩
    rw[hm,drop_cons hx,MW,tI,hc,AO hx];simp[*]
   ·exact AJ (by rw[hm,drop_cons hx,MW,tI];simp;intros;omega)
   ·exact AJ (by rw[hm,drop_cons hx,MW,tI];simp;intros;omega)
   ·refine⟨by assumption,(),rfl,?_,Sat.nil⟩
    rw[hm,As hk,MW,I7]
  ·exact AJ (by rw[hn,As hk];rfl)
def LJ:Int→List Int→Bool
 | _,[]=>true
 | n,s::r=>s==n&&LJ (n+1) r
def C0:Int→List QM→Bool
 | _,[]=>true
 | n,c::r=>decide (c.AK.length≤4)&&(decide (c.parents.length≤3)&&(LJ n c.AK&&C0 (n+c.AK.length) r))
def EW (w:AM) (c n:Int):List (Int×Int)→List (Int×Int)→Bool
 | _,[]=>true
 | pre,x::r=>decide (0≤x.1)&&(decide (x.1<n)&&(hasB w c x.1&&(SC x.2&&(pre.all (fun y=>y.1 != x.1)&&EW w c n (pre++[x]) r))))
def fS (g:List (List Int)) (c:Int):Bool:= !((CJ g).getD c.toNat []).isEmpty
def GX (w:AM) (n:Int):Nat→List QM→Bool
 | _,[]=>true
 | i,c::r=>fS w.parents ((i:Int)+3)&&(EW w ((i:Int)+3) n [] c.inits&&GX w n (i+1) r)
def A9 (p:Prog):Bool:=decide (p.AL.length≤10)&&(C0 0 p.AL&&((B2 p.AL:Int)==p.AK&&(EA (A1 p)&&GX (Ab p) (B2 p.AL) 0 p.AL)))
theorem AA1 {c:QM} (h:II (Tn c)):c.parents.length≤Ai∧c.AK.length≤Ai∧c.inits.length≤Ai:=by
 simp only[Tn,Dr,HN,Bz]at h;exact⟨h.1.1,h.2.1.1,h.2.2.1.1⟩
theorem NS {p:Prog} (h:FG (.a (Bd p))):tZ p:=by
 refine⟨(GD h).1,fun c hc=>?_⟩;simp only[Bd,HO,Dr,HN,JX]at h;exact AA1 (h.1.2 c hc)
theorem du (p:Prog) (hk0:p.AL.length≤1000):Pure Tryz.prog 91 [.a (Bd p)] (.l (Ev (A1 p)) false):=Pure.fit (by kernel_rfl) fun hf=>X9 p (NS hf.1) hk0
theorem FR: ∀(cs:List QM) (n:Int),C0 n cs=true→B2 cs≤4*cs.length∧ ∀c∈cs,c.parents.length≤3∧c.AK.length≤4
 | [],_,_=>⟨J1 _,fun _ h=>by cases h⟩
 | c::r,n,h=>by
   simp only[C0,Bj,D4]at h;have⟨h1,h2⟩:=FR r _ h.2.2.2;refine⟨by simp only[B2,Fa,List.sum_cons,OB]at *;omega,fun d hd=>?_⟩;rcases IC.1 hd with rfl|hd
   ·exact⟨h.2.1,h.1⟩
   ·exact h2 d hd
theorem Rc {i:Nat}: ∀(r pre:List Int),MW i pre r=true→pre.Nodup→(pre++r).Nodup∧ ∀c∈r,(3:Int)≤c∧c<3+(i:Int)
 | [],pre,_,h=>⟨by simpa using h,fun _ h=>by cases h⟩
 | c::r,pre,h,hn=>by
   simp only[MW,tI,Bj,D4,Bool.not_eq_true']at h;have hc:c∉pre:=by simpa using h.1.2.2
   obtain⟨h1,h2⟩:=Rc r (pre++[c]) h.2 (List.nodup_append.2 ⟨hn,by simp,fun a ha b hb=>by simp at hb;subst hb;exact fun e=>hc (e ▸ ha)⟩);refine⟨by simpa using h1,fun d hd=>?_⟩;rcases IC.1 hd with rfl|hd
   ·exact⟨h.1.1,h.1.2.1⟩
   ·exact h2 d hd
theorem Pl: ∀(g:List (List Int)) (k:Nat),Iq k g=true→ ∀(i:Nat) (l:List Int),g[i]? =some l→l.length≤3∧l.Nodup∧ ∀c∈l,(3:Int)≤c∧c<3+((k+i:Nat):Int)
 | [],_,_,_,_,h=>by cases h
 | l ::r,k,h,i,l',hi=>by
   simp only[Iq,Bj,D4]at h;cases i with
   | zero=>
     simp at hi;subst hi;obtain⟨h1,h2⟩:=Rc l [] h.2.1 .nil;exact⟨h.1,by simpa using h1,by simpa using h2⟩
   | succ i=>
     simp at hi;have:=Pl r (k+1) h.2.2 i l' hi;rw[show k+(i+1)=k+1+i by omega];exact this
theorem EF {g:List (List Int)} (h:EA g=true):Is g:=by
 simp only[EA,Bj,D4]at h;refine⟨h.1,fun i l hi=>?_⟩;have:=Pl g 0 h.2 i l hi;simpa using this
theorem Jw {g:List (List Int)} (h:Is g):ordered g:=by
 intro c p hp;unfold par at hp;split at hp
 ·cases hp
 ·rename_i h3
  rw[FM]at hp;cases hq:g[c - 3]? with
  | none=>rw[hq]at hp;cases hp
  | some l=>
    rw[hq]at hp;have:=(h.2 _ _ hq).2.2 p hp;omega
theorem GL {i:Nat} {cs:List QM} {c:Int} (h:c∈BY i cs):(3:Int)+i≤c∧c<3+i+cs.length:=by
 induction cs generalizing i with
 | nil=>cases h
 | cons d r ih=>
   simp only[BY,F8,List.mem_replicate]at h;simp only[OB];rcases h with⟨_,rfl⟩|h
   ·omega
   ·have:=ih h;omega
theorem Pd {p:Prog} (h1:p.AL.length≤10) (h2:C0 0 p.AL=true) (h3:EA (A1 p)=true):mZ (Ab p):=by
 have hl:(Ab p).parents.length=p.AL.length:=by simp[Ab,A1]
 refine⟨by omega,Jw (EF h3),fun c hc=>?_,?_⟩
 ·have:=GL hc
  rw[hl];omega
 ·have:=(FR _ _ h2).1
  simp only[Ab,Cl];omega
theorem Z5 (p : Prog):Pure Tryz.prog 93 [.a (Bd p)] (.b (A9 p)):=by
 refine Pure.fit (by kernel_rfl) fun hf=>?_
 have F:=NS hf.1;have hcl:=F.1;have hM:=Mx;refine AA7 nb ?_
 conv=>whnf
 repeat'((first|apply st|(apply sq;intro K U)|(apply si;intro A B Y Z)|(apply Y;clear Z B Y A)|(apply U;clear U K)|refine⟨rfl,?_⟩|(constructor<;>intro hc<;>(try rw[hc])<;>(replace hc:=bp hc)<;>(try simp(disch:=omega) only[Bz,wrap64,AP]at hc))|clear U K)<;>conv=>whnf)
 ·exact AJ (by simp[A9];intros;omega)
 have h10:p.AL.length≤10:=by omega
 refine Cn p.AL.length (fun k (n:Int)=>[(3,eI n),(4,eI (BJ k))]) (fun _ _=>[]) (fun k n=>C0 0 p.AL=C0 n (p.AL.drop k)∧0≤n∧n+B2 (p.AL.drop k)=B2 p.AL∧n≤4*k) 0 rfl (by simp) Sat.nil ?_;rintro k n σ hk ⟨hn,hn0,hn1,hn2⟩ hs
 conv=>whnf
 repeat'((first|apply st|(apply sq;intro K U)|(apply si;intro A B Y Z)|(apply Y;clear Z B Y A)|(apply U;clear U K)|refine⟨rfl,?_⟩|refine⟨nb,?_⟩|refine ix ?_|(refine fc (fun x hx hlt hc=>?_) (fun hk hc=>?_)<;>(try rw[hc])<;>clear hc)|refine Pure.use (du _ (by omega)) ?_|refine Pure.use (iK _ _) ?_|(constructor<;>intro hc<;>(try rw[hc])<;>(replace hc:=bp hc)<;>(try simp(disch:=omega) only[Bz,wrap64,AP]at hc))|clear U K)<;>conv=>whnf)
 ·exact AJ (by simp only[A9];rw[hn,drop_cons hx,C0];simp;intros;omega)
 ·have hms:n+(x.AK.length:Int)+B2 (p.AL.drop (k+1))=B2 p.AL:=by
   rw[drop_cons hx]at hn1;simp only[B2,Fa,List.sum_cons]at hn1 ⊢;omega
  have hsl:=(F.2 x (DM hx)).2.1
  have hn':C0 0 p.AL=(LJ n x.AK&&C0 (n+x.AK.length) (p.AL.drop (k+1))):=by
   have a1:x.AK.length≤4:=by omega
   have a2:x.parents.length≤3:=by omega
   rw[hn,drop_cons hx,C0];simp only[a1,a2,decide_true,I7]
  revert x
  rintro c hx hcs h3 hms hsl hn';refine Cn c.AK.length (fun j (m:Int)=>[(3,eI m),(6,eI (BJ j))]) (fun _ _=>[]) (fun j m=>C0 0 p.AL=(LJ m (c.AK.drop j)&&C0 (n+c.AK.length) (p.AL.drop (k+1)))∧m=n+j) n rfl ⟨hn',by simp⟩ Sat.nil ?_;rintro j m σ hj ⟨hm,he⟩ hs
  conv=>whnf
  repeat'((first|apply st|(apply sq;intro K U)|(apply si;intro A B Y Z)|(apply Y;clear Z B Y A)|(apply U;clear U K)|refine⟨rfl,?_⟩|refine ix ?_|(refine fc (fun x hx hlt hc=>?_) (fun hk hc=>?_)<;>(try rw[hc])<;>clear hc)|(constructor<;>intro hc<;>(try rw[hc])<;>(replace hc:=bp hc))|clear U K)<;>conv=>whnf)
  ·exact AJ (by simp only[A9];rw[hm,drop_cons (by assumption),LJ];simp[hc])
  ·refine⟨hlt,_,rfl,⟨?_,?_⟩,hs⟩
   ·rw[hm,drop_cons (by assumption),LJ,wrap64 (by omega) (by omega)];simp[hc]
   ·rw[wrap64 (by omega) (by omega)];omega
  ·refine⟨by assumption,m,rfl,⟨?_,by omega,by omega,by omega⟩,hs⟩
   rw[hm,As (by assumption),LJ,I7,he];congr 1;omega
 ·exact AJ (by simp only[A9];rw[hn,drop_cons hx,C0];simp;intros;omega)
 ·have hne:n=B2 p.AL:=by rw[As hk]at hn1;simpa[B2]using hn1
  exact AJ (by simp only[A9];rw[hc];simp)
 ·have hne:n=B2 p.AL:=by rw[As hk]at hn1;simpa[B2]using hn1
  have hsb:C0 0 p.AL=true:=by rw[hn,As hk];rfl
  have hms:=(FR _ _ hsb).1;have hok:=Pd h10 hsb hc
  have hcb:A9 p=GX (Ab p) n 0 p.AL:=by
   simp only[A9,hsb,hc,←hne];simp[*]
  refine(Sg p F (by omega) (by omega)).use ?_
  conv=>whnf
  repeat'((first|apply st|(apply sq;intro K U)|(apply si;intro A B Y Z)|(apply Y;clear Z B Y A)|(apply U;clear U K)|refine sn fun σ hs=>?_|(intro nn hnn;generalize hg:BE _ nn _=σ;refine al hg fun hs=>?_;clear hg)|fail)<;>conv=>whnf)
  refine Cn p.AL.length (fun k (_:Unit)=>[(9,eI (BJ k))]) (fun _ _=>[.box nn (BR (Ab p))]) (fun k _=>A9 p=GX (Ab p) n k (p.AL.drop k)) () rfl (by rw[hcb];rfl) hs ?_;rintro k - σ hk hn hs
  conv=>whnf
  repeat'((first|apply st|(apply sq;intro K U)|(apply si;intro A B Y Z)|(apply Y;clear Z B Y A)|(apply U;clear U K)|refine⟨rfl,?_⟩|(refine fc (fun x hx hlt hc=>?_) (fun hk hc=>?_)<;>(try rw[hc])<;>clear hc)|clear U K)<;>conv=>whnf)
  ·have e3 : IntKind.i64.wrap (BJ k+3)=(k:Int)+3:=by rw[AP (by omega),wrap64 (by omega) (by omega)]
   rw[e3];have hgl:(A1 p).length=p.AL.length:=by simp[A1]
   refine(ud (A1 p) false ((k:Int)+3) (EF hc) (by omega) (by omega)).use ?_
   conv=>whnf
   repeat'((first|apply st|(apply sq;intro K U)|(apply si;intro A B Y Z)|(apply Y;clear Z B Y A)|(apply U;clear U K)|refine ix ?_|(constructor<;>intro hc<;>(try rw[hc])<;>(replace hc:=bp hc))|clear U K)<;>conv=>whnf)
   ·have hlb:fS (Ab p).parents ((k:Int)+3)=false:=by
     show(!((CJ (A1 p)).getD ((k:Int)+3).toNat []).isEmpty)=false;rw[hc];rfl
    exact AJ (by rw[hn,drop_cons hx,GX,hlb];rfl)
   ·have hil:=(F.2 x (DM hx)).2.2
    have hn':A9 p=(EW (Ab p) ((k:Int)+3) n [] x.inits&&GX (Ab p) n (k+1) (p.AL.drop (k+1))):=by
     have hlb:fS (Ab p).parents ((k:Int)+3)=true:=by
      show(!((CJ (A1 p)).getD ((k:Int)+3).toNat []).isEmpty)=true;rw[hc];rfl
     rw[hn,drop_cons hx,GX,hlb];rfl
    revert x
    rintro c hx hil hn';refine Cn c.inits.length (fun j (_:Unit)=>[(14,eI (BJ j))]) (fun _ _=>[.box nn (BR (Ab p))]) (fun j _=>A9 p=(EW (Ab p) ((k:Int)+3) n (c.inits.take j) (c.inits.drop j)&&GX (Ab p) n (k+1) (p.AL.drop (k+1)))) () rfl (by rw[hn'];rfl) hs ?_;rintro j - σ hj hm hs
    conv=>whnf
    repeat'((first|apply st|(apply sq;intro K U)|(apply si;intro A B Y Z)|(apply Y;clear Z B Y A)|(apply U;clear U K)|apply dr|refine⟨rfl,?_⟩|refine⟨nb,?_⟩|refine ix ?_|refine ld ?_|(refine fc (fun x hx hlt hc=>?_) (fun hk hc=>?_)<;>(try rw[hc])<;>clear hc)|(constructor<;>intro hc<;>(try rw[hc])<;>(replace hc:=bp hc))|clear U K)<;>conv=>whnf)
    ·refine(uu (Ab p) ((k:Int)+3) x.1 hok (by omega) (by rw[show(Ab p).parents=A1 p from rfl];omega) (by omega) (by rw[show(Ab p).owner=BY 0 p.AL from rfl,Cl];omega)).use ?_
     conv=>whnf
     repeat'((first|apply st|(apply sq;intro K U)|(apply si;intro A B Y Z)|(apply Y;clear Z B Y A)|(apply U;clear U K)|apply dr|refine ix ?_|refine Pure.use (nB _) ?_|(constructor<;>intro hc<;>(try rw[hc])<;>(replace hc:=bp hc))|clear U K)<;>conv=>whnf)
     ·exact AJ (by rw[hm,drop_cons hx,EW];simp[*])
     ·have hm':A9 p=((c.inits.take j).all (fun y=>y.1 != x.1)&&(EW (Ab p) ((k:Int)+3) n (c.inits.take (j+1)) (c.inits.drop (j+1))&&GX (Ab p) n (k+1) (p.AL.drop (k+1)))):=by
       have b1:decide (0≤x.1)=true:=decide_eq_true (by assumption);have b2:decide (x.1<n)=true:=decide_eq_true (by assumption);rw[hm,drop_cons hx,EW,AO hx,b1,b2,‹hasB _ _ _=true›,hc];simp only[I7,Bool.and_assoc]
      revert x
      rintro x hxj hx0 hx1 hhb hbt hm';refine Cn j (fun i (_:Unit)=>[(15,eI (BJ i))]) (fun _ _=>[.box nn (BR (Ab p))]) (fun i _=>A9 p=(((c.inits.take j).drop i).all (fun y=>y.1 != x.1)&&(EW (Ab p) ((k:Int)+3) n (c.inits.take (j+1)) (c.inits.drop (j+1))&&GX (Ab p) n (k+1) (p.AL.drop (k+1))))) () rfl (by rw[hm'];rfl) hs ?_;rintro i - σ hi hl hs;rcases Nat.lt_or_ge i j with hij|hij
      ·obtain⟨y,hy⟩: ∃y,c.inits[i]? =some y:=⟨_,FD (by omega)⟩
       have hy':(c.inits.take j)[i]? =some y:=by rw[List.getElem?_take,if_pos hij,hy]
       conv=>whnf
       repeat'((first|apply st|(apply sq;intro K U)|(apply si;intro A B Y Z)|(apply Y;clear Z B Y A)|(apply U;clear U K)|apply dr|refine⟨rfl,?_⟩|refine ix ?_|(constructor<;>intro hc<;>(try rw[hc])<;>(replace hc:=bp hc)<;>(try simp(disch:=omega) only[Bz,wrap64,AP]at hc)<;>try(exfalso;omega))|clear U K)<;>conv=>whnf)
       ·exact AJ (by rw[hl,drop_cons hy',OA,hc];simp)
       ·refine⟨hij,(),rfl,?_,hs⟩
        have hc':(y.1 != x.1)=true:=by simpa using hc
        rw[hl,drop_cons hy',OA,hc',I7]
      ·conv=>whnf
       repeat'((first|apply st|(apply sq;intro K U)|(apply si;intro A B Y Z)|(apply Y;clear Z B Y A)|(apply U;clear U K)|refine⟨rfl,?_⟩|(constructor<;>intro hc<;>(try rw[hc])<;>(replace hc:=bp hc)<;>(try simp(disch:=omega) only[Bz,wrap64,AP]at hc)<;>try(exfalso;omega))|clear U K)<;>conv=>whnf)
       refine⟨by assumption,(),rfl,?_,hs⟩;rw[hl,List.drop_of_length_le (by rw[QI];omega),List.all_nil,I7]
     ·exact AJ (by rw[hm,drop_cons hx,EW];simp[*])
    ·exact AJ (by rw[hm,drop_cons hx,EW];simp;intros;omega)
    ·exact AJ (by rw[hm,drop_cons hx,EW];simp;intros;omega)
    ·refine⟨by assumption,(),rfl,?_,hs⟩
     rw[hm,As hk,EW,I7]
  ·exact AJ (by rw[hn,As hk];rfl)
 ·have hne:n=B2 p.AL:=by rw[As hk]at hn1;simpa[B2]using hn1
  exact AJ (by simp only[A9];rw[←hne];simp[hc])
def Fq (f:Int→Int→List Int→Option (List Int)) (op size:Int):Nat→List Int→List Int→Option (List Int)
 | _,[],s=>some s
 | i,k::r,s=>match f k (if op=9∧i=1 then size+1 else size) s with
   | none=>none
   | some s'=>Fq f op size (i+1) r s'
def EU (p:Prog) (next:Bool) (size:Int) (x:Node):Bool:=((x.kids.length:Int)==JL p x)&&(MT p x size&&(x.op != 18||next))
def Cb (p:Prog) (next:Bool):Nat→Int→Int→List Int→Option (List Int)
 | 0,_,_,_=>none
 | d+1,n,size,s=>
   if n<0∨(p.nodes.length:Int)≤n∨0≤s.getD n.toNat 0 then none else
   match p.nodes[n.toNat]? with
   | none=>none
   | some x=>if EU p next size x then Fq (Cb p next d) x.op size 0 x.kids (s.set n.toNat size)else none
def UI (v:V) (s:List Int) (o:Option (List Int)) (r:R) (post:List At):Prop:=
 ∃s':List Int,s'.length=s.length∧post= [.own v 1 (iL s')]∧((o=some s'∧r= .ret (.b true))∨(o=none∧r= .ret (.b false)))
theorem O0 {v:V} {s s':List Int} {o:Option (List Int)} {σ:AH} {rest:List At} (hs:Sat σ (.own v 1 (iL s')::rest)) (hl:s'.length=s.length) (ho:o=none):BQ σ (.b false) fun r σ'=> ∃post,UI v s o r post∧Sat σ' post:=
 BD hs (.cons₂ _ (QN _)) (.refl _) fun σ' hs'=>⟨_,⟨s',hl,rfl,.inr ⟨ho,rfl⟩⟩,hs'⟩
theorem cF {p:Prog} (h:FG (.a (Bd p))) {x:Node} (hx:x∈p.nodes):x.kids.length≤Ai:=by
 simp only[Bd,HO,Dr,HN,JX]at h
 have h2:II (JN x):=by
  first|exact h.2.2.2.2.1.2 x hx|exact h.2.2.2.2.2.1.2 x hx|exact h.2.2.2.1.2 x hx|exact h.2.2.1.2 x hx|exact h.2.1.2 x hx
 simp only[JN,Dr,HN,Bz]at h2
 first|exact h2.2.2.1.1|exact h2.2.2.1|exact h2.1
theorem OG {p:Prog} {next:Bool} {d:Nat} {n size:Int} {s:List Int} {x:Node} {y:Int} (h0:0≤n) (h1:n<(p.nodes.length:Int)) (hs:s[n.toNat]? =some y) (hy:y<0) (hx:p.nodes[n.toNat]? =some x) :
 Cb p next (d+1) n size s=if EU p next size x then Fq (Cb p next d) x.op size 0 x.kids (s.set n.toNat size)else none:=by
 have e:s.getD n.toNat 0=y:=by rw[FM,hs];rfl
 simp only[Cb];rw[if_neg (by rw[e];omega),hx]
theorem Mq {p:Prog} {next:Bool} {d:Nat} {n size:Int} {s:List Int} (h:n<0∨(p.nodes.length:Int)≤n∨0≤s.getD n.toNat 0):Cb p next (d+1) n size s=none:=by
 simp only[Cb];rw[if_pos h]
set_option maxHeartbeats 4000000 in
theorem bQ (p : Prog) (next:Bool): ∀d:Nat,d≤12→ ∀(n size depth:Int) (s:List Int) (v:V),depth=13 - d→0≤size→size+d≤100→s.length=p.nodes.length→(Eg v).isSome=true→
 B9 Tryz.prog 96 [.a (Bd p),eI n,eI size,eI depth,.b next,v] [.own v 1 (iL s)] (UI v s (Cb p next d n size s)):=by
 intro d
 induction d with
 | zero=>
   intro _ n size depth s v hd h0 h1 hl hv σ hs;refine Be.fit (by kernel_rfl) fun hf=>?_
   have⟨p1,p2,p3,p4⟩:=GD hf.1;have hM:=Mx;refine qp nb ?_
   conv=>whnf
   repeat'((first|apply st|(apply sq;intro K U)|(apply si;intro A B Y Z)|(apply Y;clear Z B Y A)|(apply U;clear U K)|refine⟨rfl,?_⟩|refine oi ?_|refine ol fun x hx=>?_|(constructor<;>intro hc<;>(try rw[hc])<;>(replace hc:=bp hc)<;>(try simp(disch:=omega) only[Bz,wrap64,AP]at hc)<;>try(exfalso;omega))|clear U K)<;>conv=>whnf)
   all_goals exact BD hs (.refl _) (.refl _) fun σ' hs'=>⟨_,⟨s,rfl,rfl,.inr ⟨rfl,rfl⟩⟩,hs'⟩
 | succ d ih =>
   intro hd12 n size depth s v hd h0 h1 hl hv σ hs;refine Be.fit (by kernel_rfl) fun hf=>?_
   have⟨p1,p2,p3,p4⟩:=GD hf.1;have hM:=Mx;refine qp nb ?_
   conv=>whnf
   repeat'((first|apply st|(apply sq;intro K U)|(apply si;intro A B Y Z)|(apply Y;clear Z B Y A)|(apply U;clear U K)|apply dr|refine rk ?_ ?_|exact fun s e=>by cases e;rfl|refine⟨rfl,?_⟩|refine⟨nb,?_⟩|refine iq fun x hx=>?_|refine ld ?_|refine sn fun σ hs=>?_|refine oi ?_|refine ol fun x hx=>?_|refine oset fun σ hs=>?_|refine Pure.use (iD _ _) ?_|refine Pure.use (ZP _ _ _) ?_|(constructor<;>intro hc<;>(try rw[hc])<;>(replace hc:=bp hc)<;>(try simp(disch:=omega) only[Bz,wrap64,AP]at hc)<;>try(exfalso;omega))|(intro nn hnn;generalize hg:BE _ nn _=σ;refine al hg fun hs=>?_;clear hg)|clear U K)<;>conv=>whnf)
   ·exact O0 hs (by simp) (by rw[OG (by assumption) (by assumption) (by assumption) (by assumption) hx];simp[EU, *])
   rotate_left
   ·cases hc
   rotate_left
   ·exact O0 hs (by simp) (by rw[OG (by assumption) (by assumption) (by assumption) (by assumption) hx];simp[EU, *])
   ·exact O0 hs (by simp) (by rw[OG (by assumption) (by assumption) (by assumption) (by assumption) hx];simp[EU, *])
   ·exact O0 hs rfl (Mq (.inr (.inr (by rw[FM,hx];exact hc))))
   ·exact O0 hs rfl (Mq (.inr (.inl hc)))
   ·exact O0 hs rfl (Mq (.inl hc))
   all_goals
    have hW:Cb p next (d+1) n size s=Fq (Cb p next d) x.op size 0 x.kids (s.set n.toNat size):=by
     rw[OG (by assumption) (by assumption) (by assumption) (by assumption) hx];simp[EU, *]
    rw[hW]
    rename Node=>nd
    refine Cn nd.kids.length (fun k (_:List Int)=>[(14,eI (BJ k))]) (fun _ s'=>[.own v 1 (iL s'),.obj nn (.cs (JN nd))]) (fun k s'=>s'.length=s.length∧Fq (Cb p next d) nd.op size 0 nd.kids (s.set n.toNat size)=Fq (Cb p next d) nd.op size k (nd.kids.drop k) s') (s.set n.toNat size) rfl ⟨by simp,by simp⟩ hs ?_;clear hs;rintro k s' σ hk ⟨hl',hkids⟩ hs;have hkm:=cF hf.1 (DM hx);have hck:BJ k=k:=AP (by omega);by_cases hlt:k<nd.kids.length
    ·obtain⟨kid,hkid⟩: ∃kid,nd.kids[k]? =some kid:=⟨_,FD hlt⟩
     have hrec:=fun kid sz h0 h1=>ih (by omega) kid sz (depth+1) s' v (by omega) h0 h1 (by omega) hv
     conv=>whnf
     repeat'((first|apply st|(apply sq;intro K U)|(apply si;intro A B Y Z)|(apply Y;clear Z B Y A)|(apply U;clear U K)|apply dr|refine⟨rfl,?_⟩|refine⟨nb,?_⟩|refine ix ?_|refine ld ?_|(refine fc (fun x hx hlt hc=>?_) (fun hk hc=>?_)<;>(try rw[hc])<;>clear hc)|(constructor<;>intro hc<;>(try rw[hc])<;>(replace hc:=bp hc)<;>(try simp(disch:=omega) only[Bz,wrap64,AP]at hc)<;>try(exfalso;omega))|clear U K)<;>conv=>whnf)
     all_goals try(exfalso;omega)
     all_goals try refine JH (enc:=fun i:Int=>[V.i .i64 i]) hkid hkm rfl ?_
     conv=>whnf
     all_goals try(exfalso;omega)
     all_goals
      have hK2:=hkids;rw[drop_cons hx,Fq]at hK2
      first
       | rw[if_pos (by omega)]at hK2
         rw[wrap64 (by omega) (by omega),wrap64 (by omega) (by omega)];refine(hrec x (size+1) (by omega) (by omega)).use hs ?_
       | rw[if_neg (by omega)]at hK2
         rw[wrap64 (by omega) (by omega)];refine(hrec x size (by omega) (by omega)).use hs ?_
      rintro r post σ' ⟨s2,hl2,rfl,⟨ho,rfl⟩|⟨ho,rfl⟩⟩ hs
      ·rw[ho]at hK2
       conv=>whnf
       repeat'((first|apply st|(apply sq;intro K U)|(apply si;intro A B Y Z)|(apply Y;clear Z B Y A)|(apply U;clear U K)|apply dr|refine⟨rfl,?_⟩|(constructor<;>intro hc<;>(try rw[hc])<;>(replace hc:=bp hc)<;>(try simp(disch:=omega) only[Bz,wrap64,AP]at hc))|clear U K)<;>conv=>whnf)
       all_goals first|(exfalso;cases hc;done)|exact⟨hlt,s2,rfl,⟨by omega,hK2⟩,hs⟩
      ·rw[ho]at hK2
       conv=>whnf
       repeat'((first|apply st|(apply sq;intro K U)|(apply si;intro A B Y Z)|(apply Y;clear Z B Y A)|(apply U;clear U K)|apply dr|refine⟨rfl,?_⟩|(constructor<;>intro hc<;>(try rw[hc])<;>(replace hc:=bp hc)<;>(try simp(disch:=omega) only[Bz,wrap64,AP]at hc))|clear U K)<;>conv=>whnf)
       all_goals first|exact O0 hs (by omega) hK2|(exfalso;cases hc;done)
    ·have hke:k=nd.kids.length:=by omega
     conv=>whnf
     repeat'((first|apply st|(apply sq;intro K U)|(apply si;intro A B Y Z)|(apply Y;clear Z B Y A)|(apply U;clear U K)|refine⟨rfl,?_⟩|refine ld ?_|(refine fc (fun x hx hlt hc=>?_) (fun hk hc=>?_)<;>(try rw[hc])<;>clear hc)|(constructor<;>intro hc<;>(try rw[hc])<;>(replace hc:=bp hc)<;>try(exfalso;omega))|clear U K)<;>conv=>whnf)
     all_goals try(exfalso;omega)
     rw[hke,As rfl]at hkids;exact BD hs (.cons₂ _ (QN _)) (.refl _) fun σ' hs'=>⟨_,⟨s',hl',rfl,.inl ⟨(by first|rw[hW,hkids,Fq]|rw[hkids,Fq]),rfl⟩⟩,hs'⟩
end Go.Gl
namespace Go.Gl
variable {P:Program} {σ:AH} {env:Env}
theorem iqF {xs:List Fact} {f:Bool} {K:V→Prop} {ki:IntKind} {j:Int} (h: ∀x,xs[j.toNat]? =some x→K (.rp (xF x))) (h0:0≤j:=by omega) (h1:j<xs.length:=by omega):Ae 6 none (.l (xs.map Gz) f) (.i ki j) K:=by
 refine iq (fun x hx=>?_) h0 h1 (by intro x;rw[Bq];rfl);rw[Bq];exact h x hx
theorem lo {l:List At} {i:Nat} {v:V} {sz:Nat} {es:List (List V)} {K:V→Prop} (hk:K (.i .i64 es.length)) (h:Sat σ l:=by assumption)
 (hi:l[i]? =some (.own v sz es):=by first|exact R0|exact Rz|exact Ry|exact Rx|exact Rw|exact Rv) (hm:es.length≤Ai:=by first|omega|(simp only[Bz,List.length_replicate,List.length_set,Ai]at *;omega)):Bs v K:=zV h i hi hm hk
theorem slq {α:Type} {enc:α→List V} {xs:List α} {f:Bool} {sz:Nat} {ki:IntKind} {j:Int} {K:V→AH→Prop} (h:K (.l ((xs.take j.toNat).map enc) (f&&decide (j=((xs.map enc).length:Nat)))) σ) (h0:0≤j:=by omega) (h1:j≤xs.length:=by first|omega|(simp only[Bz]at *;omega)) (hs: ∀x,(enc x).length=sz:=by intro x;first|rfl|simp|(rw[Bq];rfl)) :
 Af σ sz (.l (xs.map enc) f) none (some (.i ki j)) none K:=by
 refine⟨fun e he=>?_,?_⟩
 ·obtain⟨x,_,rfl⟩:=Ob.1 he
  exact hs x
 ·simp only[QL,Bz]
  refine⟨by omega,by omega,by omega,?_⟩;simpa[List.map_take]using h
theorem Sat.take {l:List At} (h:Sat σ l) (n:Nat):Sat σ (l.take n):=h.less (List.take_sublist _ _)
theorem IU {b:Bool} {σ σ':AH}:HE σ σ' (.l [] b) (.l [] false):= .l (fun h=>by cases h) .nil
theorem bH {b:Bool} {σ σ':AH} {es:List (List V)}:HE σ σ' (.l es b) (.l es false):= .l (fun h=>by cases h) (GS.refl _ _ _)
mutual
theorem Rq {σ σ':AH}: ∀vs:List V,E2 σ σ' vs vs
 | []=> .nil
 | v::r=> .cons (.refl v) (Rq r)
end
theorem Eu {σ σ':AH}: ∀es:List (List V),GS σ σ' es es
 | []=> .nil
 | e::r=> .cons (Rq e) (Eu r)
theorem y4 {α:Type} {enc:α→List V} {xs:List α} {y:α} {l:List At} {i:Nat} {v x:V} {sz k:Nat} {vc:List V} {K:AH→Prop} (hk: ∀σ',Sat σ' (l.set i (.own v sz ((xs.set k y).map enc)))→K σ') (h:Sat σ l:=by assumption)
 (hi:l[i]? =some (.own v sz (xs.map enc)):=by first|exact R0|exact Rz|exact Ry|exact Rx|exact Rw|exact Rv) (hc:cellsOf x=some vc:=by rfl) (he:vc=enc y:=by rfl) (hg:GC enc sz:=by first|exact DC|exact Dk|exact S4|exact Mg|exact OS)
 (hv:(Eg v).isSome=true:=by rfl) (h1:k<xs.length:=by first|omega|(simp only[Bz]at *;omega)):Ag σ sz (GW v sz k) x K:=oset hk h hi hc he hg hv h1
theorem Bo {α:Type} (xs:List α) {k:Nat} (hk:k≤xs.length):(∃x,xs[k]? =some x∧k<xs.length)∨k=xs.length:=by
 rcases Nat.lt_or_ge k xs.length with h|h
 ·exact .inl ⟨_,FD h,h⟩
 ·exact .inr (by omega)
theorem D0 {α:Type} {enc:α→List V} {xs:List α} {k:Nat} {x:α} {A B:Prop} (h1:decide (BJ k<((xs.map enc).length:Nat))=true→A) (hx:xs[k]? =some x:=by assumption) (hm:xs.length≤Ai:=by first|assumption|omega|simp[Ai]<;>omega) :
 (decide (BJ k<((xs.map enc).length:Nat))=true→A)∧(decide (BJ k<((xs.map enc).length:Nat))=false→B):=by
 refine⟨h1,fun h=>?_⟩;have hlt:=(Nu.1 hx).1;rw[AP (by omega),Bz]at h;have:=of_decide_eq_false h;omega
theorem Fh {α:Type} {enc:α→List V} {xs:List α} {k:Nat} {A B:Prop} (h1:decide (BJ k<((xs.map enc).length:Nat))=false→B) (hx:k=xs.length:=by assumption) (hm:xs.length≤Ai:=by first|assumption|omega|simp[Ai]<;>omega) :
 (decide (BJ k<((xs.map enc).length:Nat))=true→A)∧(decide (BJ k<((xs.map enc).length:Nat))=false→B):=by
 refine⟨fun h=>?_,h1⟩;rw[AP (by omega),Bz]at h;have:=of_decide_eq_true h;omega
theorem Tb {α:Type} {enc:α→List V} {xs:List α} {f:Bool} {sz:Nat} {K:V→Prop} {ki:IntKind} {j:Int} {x:α} (h:K (.rp (enc x))) (hx:xs[j.toNat]? =some x:=by assumption) (h0:0≤j:=by omega) (hs:(enc x).length=sz:=by first|rfl|simp|(rw[Bq];rfl)) :
 Ae sz none (.l (xs.map enc) f) (.i ki j) K:=Tu j.toNat hx (by omega) hs h
theorem R8 {xs:List Fact} {f:Bool} {K:V→Prop} {ki:IntKind} {j:Int} {x:Fact} (h:K (.rp (xF x))) (hx:xs[j.toNat]? =some x:=by assumption) (h0:0≤j:=by omega):Ae 6 none (.l (xs.map Gz) f) (.i ki j) K:=by
 refine Tb ?_ hx h0;rw[Bq];exact h
class CB (b:Bool) (v:outParam Bool):Prop where
 h:b=v
instance :CB true true:=⟨rfl⟩
instance :CB false false:=⟨rfl⟩
instance {b:Bool} [i:CB b true]:CB (!b) false:=⟨by rw[i.h];rfl⟩
instance {b:Bool} [i:CB b false]:CB (!b) true:=⟨by rw[i.h];rfl⟩
instance {b x y v:Bool} [i:CB b true] [j:CB x v]:CB (bif b then x else y) v:=⟨by rw[i.h,j.h];rfl⟩
instance {b x y v:Bool} [i:CB b false] [j:CB y v]:CB (bif b then x else y) v:=⟨by rw[i.h,j.h];rfl⟩
instance {a b:Bool} [i:CB a true] [j:CB b true]:CB (a==b) true:=⟨by rw[i.h,j.h];rfl⟩
instance {a b:Bool} [i:CB a true] [j:CB b false]:CB (a==b) false:=⟨by rw[i.h,j.h];rfl⟩
instance {a b:Bool} [i:CB a false] [j:CB b true]:CB (a==b) false:=⟨by rw[i.h,j.h];rfl⟩
instance {a b:Bool} [i:CB a false] [j:CB b false]:CB (a==b) true:=⟨by rw[i.h,j.h];rfl⟩
instance {a b:Bool} [i:CB a true] [j:CB b true]:CB (a != b) false:=⟨by rw[i.h,j.h];rfl⟩
instance {a b:Bool} [i:CB a true] [j:CB b false]:CB (a != b) true:=⟨by rw[i.h,j.h];rfl⟩
instance {a b:Bool} [i:CB a false] [j:CB b true]:CB (a != b) true:=⟨by rw[i.h,j.h];rfl⟩
instance {a b:Bool} [i:CB a false] [j:CB b false]:CB (a != b) false:=⟨by rw[i.h,j.h];rfl⟩
theorem IE {A B:Prop} {b:Bool} [i:CB b true] (h:A):(b=true→A)∧(b=false→B):=⟨fun _=>h,fun e=>(by rw[i.h]at e;cases e)⟩
theorem GH {A B:Prop} {b:Bool} [i:CB b false] (h:B):(b=true→A)∧(b=false→B):=⟨fun e=>(by rw[i.h]at e;cases e),fun _=>h⟩
theorem a7 {A B:Prop} {b:Bool} [i:CB b true] (h:B):(b=false→A)∧(b=true→B):=⟨fun e=>(by rw[i.h]at e;cases e),fun _=>h⟩
theorem Ts {A B:Prop} {b:Bool} [i:CB b false] (h:A):(b=false→A)∧(b=true→B):=⟨fun _=>h,fun e=>(by rw[i.h]at e;cases e)⟩
theorem Vk {α:Type} {enc:α→List V} {xs:List α} {x:α} {l:List At} {i:Nat} {v:V} {sz k:Nat} {agg:Option Nat} {K:V→Prop} (hk:cut agg (enc x) 0 K) (h:Sat σ l:=by assumption)
 (hi:l[i]? =some (.own v sz (xs.map enc)):=by first|exact R0|exact Rz|exact Ry|exact Rx|exact Rw|exact Rv) (hx:xs[k]? =some x:=by assumption):Au σ agg (GW v sz k) K:=
 IT h i hi (by rw[Qf,hx];rfl) hk
theorem zK {xs:List Fact} {x:Fact} {l:List At} {i:Nat} {v:V} {k:Nat} {agg:Option Nat} {K:V→Prop} (hk:cut agg (xF x) 0 K) (h:Sat σ l:=by assumption)
 (hi:l[i]? =some (.own v 6 (facts xs)):=by first|exact R0|exact Rz|exact Ry|exact Rx|exact Rw|exact Rv) (hx:xs[k]? =some x:=by assumption):Au σ agg (GW v 6 k) K:=
 IT h i hi (by rw[Qf,hx];exact congrArg some (Bq x)) hk
theorem mq {v:V} (h:(Eg v).isSome=true): ∃n l c,v= .sl n l c:=by
 cases v<;>first|(cases h;done)|exact⟨_,_,_,rfl⟩
theorem apF {l:List At} {i:Nat} {xs:List Fact} {x:Fact} {v:V} {f:Bool} {e:List V} {K:V→AH→Prop} (hk: ∀v' σ',Sat σ' (l.set i (.own v' 6 (facts (xs++[x]))))→(Eg v').isSome=true→K v' σ') (h:Sat σ l:=by assumption)
 (hi:l[i]? =some (.own v 6 (facts xs)):=by first|exact R0|exact Rz|exact Ry|exact Rx|exact Rw|exact Rv)
 (he:e=xF x:=by rfl)
 {b:Nat} (hl:xs.length<Ai∧(xs.length+1)*b≤140737488355328:=by first|assumption|omega|(simp only[QJ,Bz,OB,List.length_nil,QI,zqZ,List.length_replicate,Ai]at *;omega)):AR b σ 6 v (.l [e] f) K:=
 Gh (GB h i hi hl Mg hk (by rw[he,Bq]))
end Go.Gl
namespace Go.Gl
open Go.Proofs
attribute [local irreducible] Be BQ BH Ae AR BC Af Ag AT A7 AZ Ad Bk Bx Sat Au Bs BI W
theorem Ps {w:AM} (f:Fact):CW w f=true→Qo f=true:=by
 induction f using Fact.ind with
 | h f ih=>
   intro h;rw[Di]at h;simp only[Dd,Bj,I0,D4]at h;rw[PY];simp only[Bj,D4,List.all_map,I0,Function.comp_apply,id];exact⟨⟨h.1.2.2.1,h.1.2.2.2.1⟩,fun k hk=>ih k hk (h.2 k hk)⟩
def QK (p:Prog) (m:Ot):Bool:=decide (1≤m.kind)&&(decide (m.kind≤4)&&(decide (0≤m.gen)&&(decide (m.gen<(p.D6.length:Int))&&(E6 (Ab p) m.fact&&decide (HK m.fact≤p.D6.getD m.gen.toNat 0)))))
def runM (p:Prog):List Ot→List Int→Option (List Int)
 | [],s=>some s
 | m::r,s=>if QK p m then match Cb p (KI m.kind) 12 m.node (p.D6.getD m.gen.toNat 0) s with
   | none=>none
   | some s'=>runM p r s' else none
def DP (p:Prog):Bool:=A9 p&&(decide (p.D6.length≤8)&&(decide (p.methods.length≤16)&&(decide (1≤p.nodes.length)&&(decide (p.nodes.length≤120)&&p.D6.all fun g=>decide (1≤g)&&decide (g≤3)))))
def Bh (p:Prog):Option (List Int):=if DP p then match runM p p.methods (List.replicate p.nodes.length (-1))with
 | none=>none
 | some s=>match Cb p false 12 p.main 0 s with
   | none=>none
   | some s=>if s.all fun n=>decide (0≤n)then some s else none else none
def KJ (p:Prog):Option (List Int)→Option (List Int)
 | none=>none
 | some s=>match Cb p false 12 p.main 0 s with
   | none=>none
   | some s=>if s.all fun n=>decide (0≤n)then some s else none
def NR (p:Prog):V:=match Bh p with
 | none=> .t [.l [] true,.b false]
 | some s=> .t [.l (iL s) false,.b true]
theorem m8 {p:Prog} (h:Bh p=none):NR p= .t [.l [] true,.b false]:=by simp only[NR,h]
theorem AAv {p:Prog} (h:DP p=false):NR p= .t [.l [] true,.b false]:=m8 (by unfold Bh;rw[h];rfl)
theorem LV {p:Prog} {σ:AH} (h:Bh p=none):BQ σ (.t [.l [] true,.b false]) fun r σ'=>r=R.ret (NR p)∧σ'=emp:=by
 rw[m8 h];exact AJ rfl
theorem Oz {p:Prog} {σ:AH} (h:DP p=false):BQ σ (.t [.l [] true,.b false]) fun r σ'=>r=R.ret (NR p)∧σ'=emp:=by
 rw[AAv h];exact AJ rfl
theorem X3 {p:Prog} (h:DP p=true):Bh p=KJ p (runM p p.methods (List.replicate p.nodes.length (-1))):=by
 unfold Bh;rw[if_pos h];rfl
theorem Dp {p:Prog} {k:Nat} {x:Ot} {s:List Int} (hx:p.methods[k]? =some x) (hn:Bh p=KJ p (runM p (p.methods.drop k) s)) (hok:QK p x=false):Bh p=none:=by
 rw[hn,drop_cons hx,runM,if_neg (by simp[hok])];rfl
theorem Q2 {p:Prog} {k:Nat} {x:Ot} {s:List Int} (hx:p.methods[k]? =some x) (hn:Bh p=KJ p (runM p (p.methods.drop k) s)) (hok:QK p x=true) (hw:Cb p (KI x.kind) 12 x.node (p.D6.getD x.gen.toNat 0) s=none):Bh p=none:=by
 rw[hn,drop_cons hx,runM,if_pos hok,hw];rfl
theorem Xj {p:Prog} {k:Nat} {x:Ot} {s s':List Int} (hx:p.methods[k]? =some x) (hn:Bh p=KJ p (runM p (p.methods.drop k) s)) (hok:QK p x=true) (hw:Cb p (KI x.kind) 12 x.node (p.D6.getD x.gen.toNat 0) s=some s'):Bh p=KJ p (runM p (p.methods.drop (k+1)) s'):=by
 rw[hn,drop_cons hx,runM,if_pos hok,hw]
theorem RN {p:Prog} (h:DP p=true) {k:Nat} {x:Int} (hx:p.D6[k]? =some x):1≤x∧x≤3:=by
 simp only[DP,Bj,I0,D4]at h;exact h.2.2.2.2.2 x (DM hx)
set_option maxHeartbeats 4000000 in
theorem ub (p:Prog):Pure Tryz.prog 65 [.a (Bd p)] (NR p):=by
 refine Pure.fit (by kernel_rfl) fun hf=>?_
 have⟨p1,p2,p3,p4⟩:=GD hf.1;have hM:=Mx;refine ABC nb ?_;have hs:=Sn
 conv=>whnf
 repeat'((first|apply st|(apply sq;intro K U)|(apply si;intro A B Y Z)|(apply Y;clear Z B Y A)|(apply U;clear U K)|refine⟨rfl,?_⟩|refine⟨nb,?_⟩|refine Pure.use (Z5 _) ?_|(constructor<;>intro hc<;>(try rw[hc])<;>(replace hc:=bp hc)<;>(try simp(disch:=omega) only[Bz,wrap64,AP]at hc))|clear U K)<;>conv=>whnf)
 ·exact Oz (by simp[DP];intros;omega)
 rotate_left
 ·exact Oz (by simp[DP];intros;omega)
 ·exact Oz (by simp[DP];intros;omega)
 ·exact Oz (by simp[DP];intros;omega)
 ·exact Oz (by simp[DP, *])
 have a1:p.D6.length≤8:=by omega
 have a2:p.methods.length≤16:=by omega
 have a3:1≤p.nodes.length:=by omega
 have a4:p.nodes.length≤120:=by omega
 have hg:DP p=p.D6.all fun g=>decide (1≤g)&&decide (g≤3):=by
  simp only[DP,a1,a2,a3,a4,decide_true,I7];simp[*]
 refine Cn p.D6.length (fun k (_:Unit)=>[(4,eI (BJ k))]) (fun _ _=>[]) (fun k _=>DP p=(p.D6.drop k).all fun g=>decide (1≤g)&&decide (g≤3)) () rfl (by simpa using hg) hs ?_;clear hs;rintro k - σ hk hn hs
 conv=>whnf
 repeat'((first|apply st|(apply sq;intro K U)|(apply si;intro A B Y Z)|(apply Y;clear Z B Y A)|(apply U;clear U K)|refine⟨rfl,?_⟩|refine ix ?_|(refine fc (fun x hx hlt hc=>?_) (fun hk hc=>?_)<;>(try rw[hc])<;>clear hc)|(constructor<;>intro hc<;>(try rw[hc])<;>(replace hc:=bp hc))|clear U K)<;>conv=>whnf)
 ·exact Oz (by rw[hn,drop_cons hx];simp;intros;omega)
 ·exact⟨hlt,(),rfl,by rw[hn,drop_cons hx];simp[*],hs⟩
 ·exact Oz (by rw[hn,drop_cons hx];simp;intros;omega)
 have hh:DP p=true:=by rw[hn,As hk];rfl
 have F:=NS hf.1;have hcB:A9 p=true:=by assumption
 have hsb:C0 0 p.AL=true:=by simp only[A9,Bj]at hcB;exact hcB.2.1
 have hc10:p.AL.length≤1000:=by simp only[A9,Bj,D4]at hcB;omega
 have hmS:B2 p.AL≤Ai:=by have:=(FR _ _ hsb).1;simp only[A9,Bj,D4]at hcB;omega
 have hL:=X3 hh;clear hn hg;refine Cn p.nodes.length (fun j v=>[(5,v),(6,eI (BJ j))]) (fun j v=>[.own v 1 (iL (List.replicate j (-1)))]) (fun j v=>1≤j→(Eg v).isSome=true) (.l [] true) rfl (fun h=>by omega) (HI hs 1) ?_;clear hs;rintro j v σ hj hv hs
 conv=>whnf
 repeat'((first|apply st|(apply sq;intro K U)|(apply si;intro A B Y Z)|(apply Y;clear Z B Y A)|(apply U;clear U K)|refine⟨rfl,?_⟩|refine⟨nb,?_⟩|refine sn fun σ hs=>?_|refine aq fun v σ hs hsl=>?_|(refine fc (fun x hx hlt hc=>?_) (fun hk hc=>?_)<;>(try rw[hc])<;>clear hc)|refine Pure.use (Sg _ (by assumption) (by omega) (by assumption)) ?_|(intro nn hnn;generalize hg:BE _ nn _=σ;refine al hg fun hs=>?_;clear hg)|clear U K)<;>conv=>whnf)
 ·exact⟨hlt,_,rfl,fun _=>hsl,by rw[List.replicate_succ'];exact hs⟩
 have hsv:=hv (by omega);subst hk;refine Cn p.methods.length (fun k (s:List Int)=>[(8,eI (BJ k))]) (fun _ s=>[.own v 1 (iL s),.box nn (BR (Ab p))]) (fun k s=>s.length=p.nodes.length∧Bh p=KJ p (runM p (p.methods.drop k) s)) (List.replicate p.nodes.length (-1)) rfl ⟨by simp,hL⟩ hs ?_;clear hs;rintro k s σ hk ⟨hl,hn⟩ hs
 conv=>whnf
 repeat'((first|apply st|(apply sq;intro K U)|(apply si;intro A B Y Z)|(apply Y;clear Z B Y A)|(apply U;clear U K)|apply dr|refine rk ?_ ?_|exact fun s e=>by cases e;rfl|refine⟨rfl,?_⟩|refine⟨nb,?_⟩|refine ix ?_|refine iq fun x hx=>?_|refine ld ?_|refine sn fun σ hs=>?_|(refine fc (fun x hx hlt hc=>?_) (fun hk hc=>?_)<;>(try rw[hc])<;>clear hc)|refine Pure.use (dw _ _) ?_|(constructor<;>intro hc<;>(try rw[hc])<;>(replace hc:=bp hc)<;>(try simp(disch:=omega) only[Bz,wrap64,AP]at hc))|(intro nn hnn;generalize hg:BE _ nn _=σ;refine al hg fun hs=>?_;clear hg)|clear U K)<;>conv=>whnf)
 rotate_left
 ·exact LV (Dp hx hn (by simp[QK, *]))
 ·exact LV (Dp hx hn (by simp[QK];intros;omega))
 ·exact LV (Dp hx hn (by simp[QK];intros;omega))
 ·exact LV (Dp hx hn (by simp[QK];intros;omega))
 ·exact LV (Dp hx hn (by simp[QK];intros;omega))
 ·refine(bQ p false 12 (J1 _) p.main 0 1 s v rfl (by omega) (by omega) hl hsv).use hs ?_
  clear hs;rintro r post σ ⟨s2,hl2,rfl,⟨ho,rfl⟩|⟨ho,rfl⟩⟩ hs
  ·conv=>whnf
   repeat'((first|apply st|(apply sq;intro K U)|(apply si;intro A B Y Z)|(apply Y;clear Z B Y A)|(apply U;clear U K)|(constructor<;>intro hc<;>(try rw[hc])<;>(replace hc:=bp hc)<;>(try simp(disch:=omega) only[Bz,wrap64,AP]at hc))|clear U K)<;>conv=>whnf)
   ·cases hc
   have hz:Bh p=if s2.all fun n=>decide (0≤n)then some s2 else none:=by rw[hn,As hk,runM,KJ,ho]
   refine Cn s2.length (fun j (_:Unit)=>[(10,eI (BJ j))]) (fun _ _=>[.own v 1 (iL s2),.box nn (BR (Ab p))]) (fun j _=>Bh p=if(s2.drop j).all fun n=>decide (0≤n)then some s2 else none) () rfl hz hs ?_;clear hs;rintro j - σ hj hz hs
   conv=>whnf
   repeat'((first|apply st|(apply sq;intro K U)|(apply si;intro A B Y Z)|(apply Y;clear Z B Y A)|(apply U;clear U K)|refine⟨rfl,?_⟩|refine oc ?_|refine ol fun x hx=>?_|(refine fc (fun x hx hlt hc=>?_) (fun hk hc=>?_)<;>(try rw[hc])<;>clear hc)|refine lo ?_|(constructor<;>intro hc<;>(try rw[hc])<;>(replace hc:=bp hc))|clear U K)<;>conv=>whnf)
   ·exact LV (by rw[hz,drop_cons hx,OA,if_neg];simp;intros;omega)
   ·exact⟨hlt,(),rfl,by rw[hz,drop_cons hx,OA];simp[*],hs⟩
   ·have hz2:Bh p=some s2:=by rw[hz,As (by assumption)];rfl
    simp only[NR,hz2];exact B0 (.t (.cons (hs.I6 0 rfl) (.cons (.refl _) .nil)))
  ·conv=>whnf
   repeat'((first|apply st|(apply sq;intro K U)|(apply si;intro A B Y Z)|(apply Y;clear Z B Y A)|(apply U;clear U K)|(constructor<;>intro hc<;>(try rw[hc])<;>(replace hc:=bp hc)<;>(try simp(disch:=omega) only[Bz,wrap64,AP]at hc))|clear U K)<;>conv=>whnf)
   ·exact LV (by rw[hn,As hk,runM,KJ,ho])
   ·cases hc
 rename Ot=>m
 rename p.methods[k]? =some m=>hm
 refine(dL m.fact (Ps _ (by(have:E6 (Ab p) m.fact=true:=by assumption);simp only[E6,Bj]at this;exact this.2.2))).use ?_
 conv=>whnf
 repeat'((first|apply st|(apply sq;intro K U)|(apply si;intro A B Y Z)|(apply Y;clear Z B Y A)|(apply U;clear U K)|apply dr|refine rk ?_ ?_|exact fun s e=>by cases e;rfl|refine⟨rfl,?_⟩|refine⟨nb,?_⟩|refine iq fun x hx=>?_|refine ld ?_|refine Pure.use (uO _) ?_|(constructor<;>intro hc<;>(try rw[hc])<;>(replace hc:=bp hc))|clear U K)<;>conv=>whnf)
 ·exact LV (Dp hm hn (by simp[QK,FM,hx];intros;omega))
 obtain⟨hx1,hx3⟩:=RN hh hx;have hgd:p.D6.getD m.gen.toNat 0=x:=by rw[FM,hx];rfl
 rename p.D6[m.gen.toNat]? =some _=>hx2
 have hxe:=Option.some.inj (hx.symm.trans hx2);subst hxe;have hok:QK p m=true:=by simp only[QK,hgd,Bj,D4];exact⟨by assumption,by omega,by assumption,by assumption,by assumption,by assumption⟩
 refine(bQ p (KI m.kind) 12 (J1 _) m.node x 1 s v rfl (by omega) (by omega) hl hsv).use (rest:=[_,_]) hs ?_;clear hs;rintro r post σ ⟨s2,hl2,rfl,⟨ho,rfl⟩|⟨ho,rfl⟩⟩ hs
 ·conv=>whnf
  repeat'((first|apply st|(apply sq;intro K U)|(apply si;intro A B Y Z)|(apply Y;clear Z B Y A)|(apply U;clear U K)|apply dr|refine⟨rfl,?_⟩|(constructor<;>intro hc<;>(try rw[hc])<;>(replace hc:=bp hc)<;>(try simp(disch:=omega) only[Bz,wrap64,AP]at hc))|clear U K)<;>conv=>whnf)
  ·cases hc
  ·exact⟨by assumption,s2,rfl,⟨by omega,Xj hm hn hok (by rw[hgd];exact ho)⟩,hs.less (.cons₂ _ (.cons₂ _ (QN _)))⟩
 ·conv=>whnf
  repeat'((first|apply st|(apply sq;intro K U)|(apply si;intro A B Y Z)|(apply Y;clear Z B Y A)|(apply U;clear U K)|apply dr|refine⟨rfl,?_⟩|(constructor<;>intro hc<;>(try rw[hc])<;>(replace hc:=bp hc)<;>(try simp(disch:=omega) only[Bz,wrap64,AP]at hc))|clear U K)<;>conv=>whnf)
  ·exact LV (Q2 hm hn hok (by rw[hgd];exact ho))
  ·cases hc
theorem bb (p:Prog):Pure Tryz.prog 27 [.a (Bd p)] (.b (Bh p).isSome):=by
 refine ABP nb ?_;have h:=ub p;unfold NR at h;cases hl:Bh p with
 | none=>
   rw[hl]at h
   conv=>whnf
   repeat'((first|apply st|(apply sq;intro K U)|(apply si;intro A B Y Z)|(apply Y;clear Z B Y A)|(apply U;clear U K)|refine⟨nb,?_⟩|refine Pure.use (by assumption) ?_|fail)<;>conv=>whnf)
   all_goals exact AJ (by first|rfl|simp)
 | some s=>
   rw[hl]at h
   conv=>whnf
   repeat'((first|apply st|(apply sq;intro K U)|(apply si;intro A B Y Z)|(apply Y;clear Z B Y A)|(apply U;clear U K)|refine⟨nb,?_⟩|refine Pure.use (by assumption) ?_|fail)<;>conv=>whnf)
   all_goals exact AJ (by first|rfl|simp)
theorem Kx (xs ys:List Int) (f g:Bool):Pure Tryz.prog 30 [.l (iL xs) f,.l (iL ys) g] (.b (xs==ys)):=by
 refine Pure.fit (by kernel_rfl) fun hf=>?_
 have hx:=LU hf.1;have hy:=LU hf.2.1;have hM:=Mx;refine ABO nb ?_;have hs:=Sn
 conv=>whnf
 repeat'((first|apply st|(apply sq;intro K U)|(apply si;intro A B Y Z)|(apply Y;clear Z B Y A)|(apply U;clear U K)|refine⟨rfl,?_⟩|(constructor<;>intro hc<;>(try rw[hc])<;>(replace hc:=bp hc)<;>(try simp(disch:=omega) only[Bz,wrap64,AP]at hc))|clear U K)<;>conv=>whnf)
 ·exact AJ (by(have:(xs==ys)=false:=by(simp;intro e;subst e;simp at hc));rw[this])
 have hl:xs.length=ys.length:=by omega
 refine Cn xs.length (fun k (_:Unit)=>[(13,eI (BJ k))]) (fun _ _=>[]) (fun k _=>(xs==ys)=(xs.drop k==ys.drop k)) () rfl rfl Sat.nil ?_;clear hs;rintro k - σ hk hn hs;by_cases hlt:k<xs.length
 ·obtain⟨y,hyk⟩: ∃y,ys[k]? =some y:=⟨_,FD (by omega)⟩
  conv=>whnf
  repeat'((first|apply st|(apply sq;intro K U)|(apply si;intro A B Y Z)|(apply Y;clear Z B Y A)|(apply U;clear U K)|apply dr|refine⟨rfl,?_⟩|refine ix ?_|(refine fc (fun x hx hlt hc=>?_) (fun hk hc=>?_)<;>(try rw[hc])<;>clear hc)|(constructor<;>intro hc<;>(try rw[hc])<;>(replace hc:=bp hc))|clear U K)<;>conv=>whnf)
  ·exact AJ (by rw[hn,drop_cons hx,drop_cons hyk];simp[hc])
  ·exact⟨hlt,(),rfl,by rw[hn,drop_cons hx,drop_cons hyk,hc];simp,hs⟩
  ·omega
 ·conv=>whnf
  repeat'((first|apply st|(apply sq;intro K U)|(apply si;intro A B Y Z)|(apply Y;clear Z B Y A)|(apply U;clear U K)|apply dr|refine⟨rfl,?_⟩|refine ix ?_|refine iq fun x hx=>?_|(refine fc (fun x hx hlt hc=>?_) (fun hk hc=>?_)<;>(try rw[hc])<;>clear hc)|(constructor<;>intro hc<;>(try rw[hc])<;>(replace hc:=bp hc)<;>try(exfalso;omega))|clear U K)<;>conv=>whnf)
  exact AJ (by rw[hn,As hk,As (by omega)];rfl)
def QU:List (Fact→Bool)→List Fact→Bool
 | h::r,k::s=>h k&&QU r s
 | _,_=>true
def mr (f:Fact) (l:List (Fact→Bool)) (g:Fact):Bool:=f.op==g.op&&(f.arg==g.arg&&(f.cls==g.cls&&(f.n==g.n&&(f.path==g.path&&(f.kids.length==g.kids.length&&QU l g.kids)))))
def Fk (f:Fact):Fact→Bool:=f.I5 mr
theorem Ls (f g:Fact):Fk f g=(f.op==g.op&&(f.arg==g.arg&&(f.cls==g.cls&&(f.n==g.n&&(f.path==g.path&&(f.kids.length==g.kids.length&&QU (f.kids.map Fk) g.kids)))))):=congrFun (Fact.Ee mr f) g
theorem U7 {xs ys:List Fact} (h: ∀x∈xs,∀y,Fk x y=true↔x=y) (hl:xs.length=ys.length):QU (xs.map Fk) ys=true↔xs=ys:=by
 induction xs generalizing ys with
 | nil=>cases ys with
   | nil=>simp[QU]
   | cons _ _=>simp at hl
 | cons x r ih=>cases ys with
   | nil=>simp at hl
   | cons y s=>
     simp only[Fa,QU,Bj,List.cons.injEq];rw[h x (.head _) y,ih (fun x hx=>h x (.tail _ hx)) (by simpa using hl)]
theorem Qz (f g:Fact):Fk f g=true↔f=g:=by
 induction f using Fact.ind generalizing g with
 | h f ih=>
   rw[Ls];cases f with
   | mk o a p c n k=>cases g with
     | mk o' a' p' c' n' k'=>
       simp only[Fact.op,Fact.arg,Fact.cls,Fact.n,Fact.path,Fact.kids,Bj,FL,Fact.mk.injEq]at *;constructor
       ·rintro⟨rfl,rfl,rfl,rfl,rfl,hl,h⟩
        exact⟨rfl,rfl,rfl,rfl,rfl,(U7 (fun x hx y=>ih x hx y) hl).1 h⟩
       ·rintro⟨rfl,rfl,rfl,rfl,rfl,rfl⟩
        exact⟨rfl,rfl,rfl,rfl,rfl,rfl,(U7 (fun x hx y=>ih x hx y) rfl).2 rfl⟩
set_option maxHeartbeats 1000000 in
theorem gJ (f g:Fact):Pure Tryz.prog 232 [.a (xF f),.a (xF g)] (.b (Fk f g)):=by
 induction f using Fact.ind generalizing g with
 | h f ih=>
   refine Pure.fit (by kernel_rfl) fun hf=>?_
   have⟨h2,h3,h4⟩:=KM hf.1;have⟨g2,g3,g4⟩:=KM hf.2.1;have hM:=Mx;refine xE nb ?_;have hs:=Sn
   conv=>whnf
   repeat'((first|apply st|(apply sq;intro K U)|(apply si;intro A B Y Z)|(apply Y;clear Z B Y A)|(apply U;clear U K)|refine⟨rfl,?_⟩|refine Pure.use (Kx _ _ _ _) ?_|(constructor<;>intro hc<;>(try rw[hc])<;>(replace hc:=bp hc)<;>(try simp(disch:=omega) only[Bz,wrap64,AP]at hc))|clear U K)<;>conv=>whnf)
   rotate_left
   all_goals try exact AJ (by rw[Ls];simp[*]<;>omega)
   rotate_left
   ·have hkl:f.kids.length=g.kids.length:=by omega
    refine Cn f.kids.length (fun k (_:Unit)=>[(52,eI (BJ k))]) (fun _ _=>[]) (fun k _=>Fk f g=QU ((f.kids.drop k).map Fk) (g.kids.drop k)) () rfl (by rw[Ls];simp[*]) Sat.nil ?_;clear hs;rintro k - σ hk hn hs;by_cases hlt:k<f.kids.length
    ·obtain⟨y,hyk⟩: ∃y,g.kids[k]? =some y:=⟨_,FD (by omega)⟩
     conv=>whnf
     repeat'((first|apply st|(apply sq;intro K U)|(apply si;intro A B Y Z)|(apply Y;clear Z B Y A)|(apply U;clear U K)|apply dr|refine⟨rfl,?_⟩|refine⟨nb,?_⟩|refine Ru ?_|(refine fc (fun x hx hlt hc=>?_) (fun hk hc=>?_)<;>(try rw[hc])<;>clear hc)|clear U K)<;>conv=>whnf)
     ·refine(ih x (DM hx) y).use ?_
      conv=>whnf
      repeat'((first|apply st|(apply sq;intro K U)|(apply si;intro A B Y Z)|(apply Y;clear Z B Y A)|(apply U;clear U K)|apply dr|refine⟨rfl,?_⟩|(constructor<;>intro hc<;>(try rw[hc])<;>(replace hc:=bp hc))|clear U K)<;>conv=>whnf)
      ·exact AJ (by rw[hn,drop_cons hx,drop_cons hyk,Fa,QU,hc];rfl)
      ·exact⟨hlt,(),rfl,by rw[hn,drop_cons hx,drop_cons hyk,Fa,QU,hc];rfl,hs⟩
     ·omega
    ·conv=>whnf
     repeat'((first|apply st|(apply sq;intro K U)|(apply si;intro A B Y Z)|(apply Y;clear Z B Y A)|(apply U;clear U K)|apply dr|refine⟨rfl,?_⟩|refine⟨nb,?_⟩|refine Ru ?_|refine iq fun x hx=>?_|(refine fc (fun x hx hlt hc=>?_) (fun hk hc=>?_)<;>(try rw[hc])<;>clear hc)|clear U K)<;>conv=>whnf)
     all_goals first|(exfalso;omega)|exact AJ (by rw[hn,As hk];rfl)
def HH (f:Fact):Fact:= .mk 5 0 [] 0 0 [f]
def QT (f g:Fact):Fact:= .mk 6 0 [] 0 0 [f,g]
theorem bq (f:Fact):Pure Tryz.prog 113 [.a (xF f)] (.a (xF (HH f))):=by
 refine yc nb ?_;have hs:=Sn
 conv=>whnf
 repeat'((first|apply st|(apply sq;intro K U)|(apply si;intro A B Y Z)|(apply Y;clear Z B Y A)|(apply U;clear U K)|refine⟨nb,?_⟩|refine ld ?_|refine sn fun σ hs=>?_|(intro nn hnn;generalize hg:BE _ nn _=σ;refine al hg fun hs=>?_;clear hg)|fail)<;>conv=>whnf)
 refine B0 (.a (.cons (.refl _) (.cons (.refl _) (.cons IU (.cons (.refl _) (.cons (.refl _) (.cons ?_ .nil)))))));refine .l (fun h=>by cases h) ?_;simp only[HH,Fact.kids,List.map,Bq];exact Eu _
theorem yu (f g:Fact):Pure Tryz.prog 112 [.a (xF f),.a (xF g)] (.a (xF (QT f g))):=by
 refine yd nb ?_;have hs:=Sn
 conv=>whnf
 repeat'((first|apply st|(apply sq;intro K U)|(apply si;intro A B Y Z)|(apply Y;clear Z B Y A)|(apply U;clear U K)|refine⟨nb,?_⟩|refine ld ?_|refine sn fun σ hs=>?_|(intro nn hnn;generalize hg:BE _ nn _=σ;refine al hg fun hs=>?_;clear hg)|fail)<;>conv=>whnf)
 refine B0 (.a (.cons (.refl _) (.cons (.refl _) (.cons IU (.cons (.refl _) (.cons (.refl _) (.cons ?_ .nil)))))));refine .l (fun h=>by cases h) ?_;simp only[QT,Fact.kids,List.map,Bq];exact Eu _
def GV (l:Fact):Prop:=l.op=5→l.kids≠[]
def BV (l:Fact):Fact×Bool:=if l.op=5 then(l.kids.headD default,true)else(l,false)
theorem Hp (l:Fact) (h:GV l):Pure Tryz.prog 262 [.a (xF l)] (.t [.a (xF (BV l).1),.b (BV l).2]):=by
 refine Pure.fit (by kernel_rfl) fun hf=>?_
 have⟨h2,h3,h4⟩:=KM hf.1;refine wg nb ?_;have hs:=Sn;by_cases h5:l.op=5
 ·have hk:0<l.kids.length:=List.length_pos_iff.2 (h h5)
  conv=>whnf
  repeat'((first|apply st|(apply sq;intro K U)|(apply si;intro A B Y Z)|(apply Y;clear Z B Y A)|(apply U;clear U K)|refine⟨rfl,?_⟩|refine⟨nb,?_⟩|refine iqF fun x hx=>?_|refine ld ?_|refine sn fun σ hs=>?_|(constructor<;>intro hc<;>(try rw[hc])<;>(replace hc:=bp hc)<;>try(exfalso;omega))|(intro nn hnn;generalize hg:BE _ nn _=σ;refine al hg fun hs=>?_;clear hg)|clear U K)<;>conv=>whnf)
  all_goals try(exfalso;omega)
  refine AJ ?_
  have:l.kids.headD default=x:=by
   cases hl:l.kids with
   | nil=>rw[hl]at hk;simp at hk
   | cons y r=>rw[hl]at hx;simpa using hx
  simp only[BV,if_pos h5,this];rfl
 ·conv=>whnf
  repeat'((first|apply st|(apply sq;intro K U)|(apply si;intro A B Y Z)|(apply Y;clear Z B Y A)|(apply U;clear U K)|refine⟨rfl,?_⟩|refine⟨nb,?_⟩|refine ld ?_|refine sn fun σ hs=>?_|(constructor<;>intro hc<;>(try rw[hc])<;>(replace hc:=bp hc)<;>try(exfalso;omega))|(intro nn hnn;generalize hg:BE _ nn _=σ;refine al hg fun hs=>?_;clear hg)|fail)<;>conv=>whnf)
  all_goals try(exfalso;omega)
  refine AJ ?_;simp only[BV,if_neg h5];rfl
def CH (path pre:List Int):Bool:=decide (pre.length≤path.length)&&path.take pre.length==pre
theorem Rh (xs ys:List Int) (f g:Bool):Pure Tryz.prog 281 [.l (iL xs) f,.l (iL ys) g] (.b (CH xs ys)):=by
 refine Pure.fit (by kernel_rfl) fun hf=>?_
 have hx:=LU hf.1;have hy:=LU hf.2.1;have hM:=Mx;refine wO nb ?_;have hs:=Sn
 conv=>whnf
 repeat'((first|apply st|(apply sq;intro K U)|(apply si;intro A B Y Z)|(apply Y;clear Z B Y A)|(apply U;clear U K)|refine⟨rfl,?_⟩|refine slq ?_|refine Pure.use (Kx _ _ _ _) ?_|(constructor<;>intro hc<;>(try rw[hc])<;>(replace hc:=bp hc)<;>(try simp(disch:=omega) only[Bz,wrap64,AP]at hc))|fail)<;>conv=>whnf)
 ·refine AJ ?_
  have:ys.length≤xs.length:=by omega
  simp[CH,this]
 ·refine AJ ?_
  have: ¬ys.length≤xs.length:=by omega
  simp[CH,this]
def Gy (w:AM) (ls:List Fact) (a:Int) (p:List Int) (c:Bool):List V:=[.l (Ev w.parents) false,.l (iL w.owner) false,.l (facts ls) false,eI a,.l (iL p) false,.b c]
theorem Jh (w:AM) (ls:List Fact) (a:Int) (p:List Int) (c:Bool) (s:Int) (hp:p.length<100):Pure Tryz.prog 265 [.a (Gy w ls a p c),eI s] (.a (Gy w ls a (p++[s]) c)):=by
 have hM:=Mx;refine wb nb ?_;have hs:=Sn
 conv=>whnf
 repeat'((first|apply st|(apply sq;intro K U)|(apply si;intro A B Y Z)|(apply Y;clear Z B Y A)|(apply U;clear U K)|apply dr|refine⟨nb,?_⟩|(intro nn hnn;generalize hg:BE _ nn _=σ;refine al hg fun hs=>?_;clear hg)|fail)<;>conv=>whnf)
 replace hs:=HI hs 1;refine LR hs 1 (xs:=[]) (ys:=p) rfl (by simp;omega) DC fun v σ hs=>?_
 conv=>whnf
 repeat'((first|apply st|apply dr|refine rk ?_ ?_|exact fun s e=>by cases e;rfl|refine⟨nb,?_⟩|refine aq fun v σ hs hsl=>?_|fail)<;>conv=>whnf)
 obtain⟨n,l,cc,rfl⟩:=mq hsl
 conv=>whnf
 repeat'((first|apply st|(apply Y;clear Z B Y A)|(apply U;clear U K)|apply dr|refine⟨nb,?_⟩|refine ld ?_|refine sn fun σ hs=>?_|fail)<;>conv=>whnf)
 exact B0 (.a (.cons (.refl _) (.cons (.refl _) (.cons (.refl _) (.cons (.refl _) (.cons (hs.I6 1 rfl) (.cons (.refl _) .nil)))))))
def I8 (a:Int) (p:List Int) (l:Fact):Bool:=(BV l).1.arg==a&&(BV l).1.path==p
theorem Gd {w:AM} {ls:List Fact} {a:Int} {p:List Int} {c:Bool} (h:FG (.a (Gy w ls a p c))):ls.length≤Ai∧p.length≤Ai∧w.owner.length≤Ai∧w.parents.length≤Ai:=by
 simp only[Gy,HO,Dr,HN,Bz]at h;exact⟨h.2.2.1.1,h.2.2.2.2.1.1,h.2.1.1,h.1.1⟩
theorem bD (w:AM) (ls:List Fact) (a:Int) (p:List Int) (c:Bool) (hok: ∀l∈ls,GV l) (hln:ls.length≤1000000):Pure Tryz.prog 261 [.a (Gy w ls a p c)] (.l (facts (ls.filter (I8 a p))) false):=by
 refine Pure.fit (by kernel_rfl) fun hf=>?_
 have⟨h1,h2,h3,h4⟩:=Gd hf.1;have hM:=Mx;refine wh nb ?_;have hs:=Sn
 conv=>whnf
 repeat'((first|apply st|(apply sq;intro K U)|(apply si;intro A B Y Z)|(apply Y;clear Z B Y A)|(apply U;clear U K)|fail)<;>conv=>whnf)
 refine Cn ls.length (fun k v=>[(3,v),(11,eI (BJ k))]) (fun k v=>[.own v 6 (facts ((ls.take k).filter (I8 a p)))]) (fun _ _=>True) (.l [] true) rfl trivial (HI hs 6) ?_;clear hs;rintro k v σ hk - hs;have hfl:=TU (I8 a p) (ls.take k)
 conv=>whnf
 repeat'((first|apply st|(apply sq;intro K U)|(apply si;intro A B Y Z)|(apply Y;clear Z B Y A)|(apply U;clear U K)|refine⟨rfl,?_⟩|refine⟨nb,?_⟩|refine Ru ?_|refine ld ?_|refine sn fun σ hs=>?_|refine apF fun v σ hs hsl=>?_|(refine fc (fun x hx hlt hc=>?_) (fun hk hc=>?_)<;>(try rw[hc])<;>clear hc)|refine Pure.use (Hp _ (hok _ (DM (by assumption)))) ?_|refine Pure.use (Kx _ _ _ _) ?_|(constructor<;>intro hc<;>(try rw[hc])<;>(replace hc:=bp hc))|(intro nn hnn;generalize hg:BE _ nn _=σ;refine al hg fun hs=>?_;clear hg)|clear U K)<;>conv=>whnf)
 ·exact⟨hlt,_,rfl,trivial,by rw[AO hx,List.filter_append];simpa[I8, *]using hs.take 1⟩
 ·exact⟨hlt,_,rfl,trivial,by rw[AO hx,List.filter_append];simpa[I8, *]using hs.take 1⟩
 ·exact⟨hlt,_,rfl,trivial,by rw[AO hx,List.filter_append];simpa[I8, *]using hs.take 1⟩
 ·exact Eb hs 0 rfl (by rw[A2 hk])
def G0 (ls:List Fact) (a:Int) (p:List Int):Bool:=ls.all fun l=>(BV l).2|| !((BV l).1.arg==a&&CH (BV l).1.path p)
theorem YW (w:AM) (ls:List Fact) (a:Int) (p:List Int) (c:Bool) (hok: ∀l∈ls,GV l):Pure Tryz.prog 266 [.a (Gy w ls a p c)] (.b (G0 ls a p)):=by
 refine Pure.fit (by kernel_rfl) fun hf=>?_
 have⟨h1,h2,h3,h4⟩:=Gd hf.1;have hM:=Mx;refine wa nb ?_;have hs:=Sn
 conv=>whnf
 repeat'((first|apply st|(apply sq;intro K U)|(apply si;intro A B Y Z)|(apply Y;clear Z B Y A)|(apply U;clear U K)|fail)<;>conv=>whnf)
 refine Cn ls.length (fun k (_:Unit)=>[(10,eI (BJ k))]) (fun k _=>[]) (fun k _=>G0 ls a p=(ls.drop k).all fun l=>(BV l).2|| !((BV l).1.arg==a&&CH (BV l).1.path p)) () rfl rfl hs ?_;clear hs;rintro k - σ hk hn hs
 conv=>whnf
 repeat'((first|apply st|(apply sq;intro K U)|(apply si;intro A B Y Z)|(apply Y;clear Z B Y A)|(apply U;clear U K)|refine⟨rfl,?_⟩|refine⟨nb,?_⟩|refine Ru ?_|refine ld ?_|refine sn fun σ hs=>?_|(refine fc (fun x hx hlt hc=>?_) (fun hk hc=>?_)<;>(try rw[hc])<;>clear hc)|refine Pure.use (Hp _ (hok _ (DM (by assumption)))) ?_|refine Pure.use (Rh _ _ _ _) ?_|(constructor<;>intro hc<;>(try rw[hc])<;>(replace hc:=bp hc))|(intro nn hnn;generalize hg:BE _ nn _=σ;refine al hg fun hs=>?_;clear hg)|clear U K)<;>conv=>whnf)
 ·exact AJ (by rw[hn,drop_cons hx,OA];simp[*])
 ·exact⟨hlt,(),rfl,by rw[hn,drop_cons hx,OA];simp[*],hs.take 0⟩
 ·exact⟨hlt,(),rfl,by rw[hn,drop_cons hx,OA];simp[*],hs.take 0⟩
 ·exact⟨hlt,(),rfl,by rw[hn,drop_cons hx,OA];simp[*],hs.take 0⟩
 ·exact AJ (by rw[hn,As hk];rfl)
def C8 (n:Nat):List Int:=(List.range n).map Int.ofNat
theorem Nc (n:Nat):C8 (n+1)=C8 n++[(n:Int)]:=by simp[C8,List.range_succ]
theorem Ia (n:Nat):(C8 n).length=n:=by simp[C8]
def aO (a:Int) (p:List Int) (s:Int) (l:Fact):Bool:=(BV l).1.arg==a&&CH (BV l).1.path (p++[s])
def Cg (n:Nat) (ls:List Fact) (a:Int) (p:List Int):List Int:=(C8 n).filter fun s=>ls.any (aO a p s)
theorem US (w:AM) (ls:List Fact) (a:Int) (p:List Int) (c:Bool) (hok: ∀l∈ls,GV l) (hp:p.length<100) :
 Pure Tryz.prog 264 [.a (Gy w ls a p c)] (.l (iL (Cg w.owner.length ls a p)) false):=by
 refine Pure.fit (by kernel_rfl) fun hf=>?_
 have⟨h1,h2,h3,h4⟩:=Gd hf.1;have hM:=Mx;refine wc nb ?_;have hs:=Sn
 conv=>whnf
 repeat'((first|apply st|(apply sq;intro K U)|(apply si;intro A B Y Z)|(apply Y;clear Z B Y A)|(apply U;clear U K)|fail)<;>conv=>whnf)
 refine Cn w.owner.length (fun k v=>[(3,v),(14,eI (BJ k))]) (fun k v=>[.own v 1 (iL (Cg k ls a p))]) (fun _ _=>True) (.l [] true) rfl trivial (HI hs 1) ?_;clear hs;rintro k v σ hk - hs;have hck:BJ k=k:=AP (by omega);have hfl:=TU (fun s=>ls.any (aO a p s)) (C8 k);rw[Ia]at hfl;have hfl2:(Cg k ls a p).length≤k:=hfl
 conv=>whnf
 repeat'((first|apply st|(apply sq;intro K U)|(apply si;intro A B Y Z)|(apply Y;clear Z B Y A)|(apply U;clear U K)|refine⟨rfl,?_⟩|(refine fc (fun x hx hlt hc=>?_) (fun hk hc=>?_)<;>(try rw[hc])<;>clear hc)|clear U K)<;>conv=>whnf)
 ·refine Cn ls.length (fun j b=>[(5,.b b),(20,eI (BJ j))]) (fun j _=>[.own v 1 (iL (Cg k ls a p))]) (fun j b=>b=(ls.take j).any (aO a p (BJ k))) false rfl (by simp) hs ?_
  clear hs;rintro j b σ hj hb hs;subst hb
  conv=>whnf
  repeat'((first|apply st|(apply sq;intro K U)|(apply si;intro A B Y Z)|(apply Y;clear Z B Y A)|(apply U;clear U K)|apply dr|refine rk ?_ ?_|exact fun s e=>by cases e;rfl|refine⟨rfl,?_⟩|refine⟨nb,?_⟩|refine Ru ?_|refine ld ?_|refine sn fun σ hs=>?_|refine aq fun v σ hs hsl=>?_|(refine fc (fun x hx hlt hc=>?_) (fun hk hc=>?_)<;>(try rw[hc])<;>clear hc)|refine Pure.use (Hp _ (hok _ (DM (by assumption)))) ?_|refine Pure.use (Rh _ _ _ _) ?_|refine Pure.use (Jh _ _ _ _ _ _ (by omega)) ?_|(constructor<;>intro hc<;>(try rw[hc])<;>(replace hc:=bp hc)<;>(try simp(disch:=omega) only[Bz,wrap64,AP]at hc))|(intro nn hnn;generalize hg:BE _ nn _=σ;refine al hg fun hs=>?_;clear hg)|clear U K)<;>conv=>whnf)
  ·exact⟨hlt,_,rfl,by rw[AO hx,List.any_append];simp[aO, *],hs.take 1⟩
  ·exact⟨hlt,_,rfl,by rw[AO hx,List.any_append];simp[aO, *],hs.take 1⟩
  ·exact⟨hlt,true,rfl,by rw[AO hx,List.any_append];simp[*],hs.take 1⟩
  ·refine⟨by assumption,_,rfl,trivial,?_⟩
   rw[A2 hk]at hc;rw[Cg,Nc,List.filter_append];simp only[Cg]at hs;simpa[hc,hck]using hs
  ·refine⟨by assumption,_,rfl,trivial,?_⟩
   rw[A2 hk]at hc;rw[Cg,Nc,List.filter_append];simp only[Cg]at hs;simpa[hc,hck]using hs
 ·exact Eb hs 0 rfl (by rw[hk])
def Gx (n:Nat) (ls:List Fact) (a:Int) (p:List Int):Bool:=(Cg n ls a p).all fun s=>G0 ls a (p++[s])
theorem YL (w:AM) (ls:List Fact) (a:Int) (p:List Int) (c:Bool) (hok: ∀l∈ls,GV l) (hp:p.length<50):Pure Tryz.prog 263 [.a (Gy w ls a p c)] (.b (Gx w.owner.length ls a p)):=by
 refine Pure.fit (by kernel_rfl) fun hf=>?_
 have⟨h1,h2,h3,h4⟩:=Gd hf.1;have hM:=Mx;refine we nb ?_;have hs:=Sn;have hfl:=TU (fun s=>ls.any (aO a p s)) (C8 w.owner.length);rw[Ia]at hfl;have hfl2:(Cg w.owner.length ls a p).length≤w.owner.length:=hfl
 conv=>whnf
 repeat'((first|apply st|(apply sq;intro K U)|(apply si;intro A B Y Z)|(apply Y;clear Z B Y A)|(apply U;clear U K)|refine⟨nb,?_⟩|refine Pure.use (US _ _ _ _ _ hok (by omega)) ?_|fail)<;>conv=>whnf)
 refine Cn (Cg w.owner.length ls a p).length (fun k (_:Unit)=>[(8,eI (BJ k))]) (fun k _=>[]) (fun k _=>Gx w.owner.length ls a p=((Cg w.owner.length ls a p).drop k).all fun s=>G0 ls a (p++[s])) () rfl rfl hs ?_;clear hs;rintro k - σ hk hn hs
 conv=>whnf
 repeat'((first|apply st|(apply sq;intro K U)|(apply si;intro A B Y Z)|(apply Y;clear Z B Y A)|(apply U;clear U K)|refine⟨rfl,?_⟩|refine⟨nb,?_⟩|refine ix ?_|(refine fc (fun x hx hlt hc=>?_) (fun hk hc=>?_)<;>(try rw[hc])<;>clear hc)|refine Pure.use (Jh _ _ _ _ _ _ (by omega)) ?_|refine Pure.use (YW _ _ _ _ _ hok) ?_|(constructor<;>intro hc<;>(try rw[hc])<;>(replace hc:=bp hc))|clear U K)<;>conv=>whnf)
 ·exact AJ (by rw[hn,drop_cons hx,OA];simp[*])
 ·exact⟨hlt,(),rfl,by rw[hn,drop_cons hx,OA];simp[*],hs⟩
 ·exact AJ (by rw[hn,As hk];rfl)
def Kh (ls:List Fact):Prop:= ∀l∈ls,-1000000000≤(BV l).1.n∧(BV l).1.n≤1000000000
def JJ (x:Fact×Bool) (t:Int×Int×List Int):Option (Int×Int×List Int):=
 if x.1.op=2 then if decide (x.1.cls > 1) != x.2 then none else some t
 else if x.1.op=3 then(if x.2 then some (if x.1.n > t.1 then x.1.n else t.1,t.2.1,t.2.2)else some (t.1,if x.1.n - 1<t.2.1 then x.1.n - 1 else t.2.1,t.2.2))
 else if x.2 then some (t.1,t.2.1,t.2.2++[x.1.n])else some (if x.1.n > t.1 then x.1.n else t.1,if x.1.n<t.2.1 then x.1.n else t.2.1,t.2.2)
def foldI:List Fact→Int×Int×List Int→Option (Int×Int×List Int)
 | [],t=>some t
 | x::r,t=>(JJ (BV x) t).bind (foldI r)
theorem NB: ∀(xs ys:List Fact) (t:Int×Int×List Int),foldI (xs++ys) t=(foldI xs t).bind (foldI ys)
 | [],_,_=>rfl
 | x::r,ys,t=>by
   simp only[List.cons_append,foldI];cases JJ (BV x) t with
   | none=>rfl
   | some u=>exact NB r ys u
theorem Gj {os:List Fact} {k:Nat} {x:Fact} (hx:os[k]? =some x) (t:Int×Int×List Int):foldI (os.take (k+1)) t=(foldI (os.take k) t).bind (JJ (BV x)):=by
 rw[AO hx,NB];congr 1;funext u;simp only[foldI];cases JJ (BV x) u<;>rfl
theorem W5 {os:List Fact} (k:Nat) {t:Int×Int×List Int} (h:foldI (os.take k) t=none):foldI os t=none:=by
 rw[←List.take_append_drop k os,NB,h];rfl
def R1 (no:List Int):Nat→Int→Option Int
 | 0,_=>none
 | k+1,n=>if no.all (· != n)then some n else R1 no k (n+1)
def Tz (t:Int×Int×List Int):Option Int:=R1 t.2.2 (t.2.1+1 - t.1).toNat t.1
def t0:Int×Int×List Int:=(-1000000000,1000000000,[])
def LK (ls:List Fact) (a:Int) (p:List Int):Option Int:=(foldI (ls.filter (I8 a p)) t0).bind Tz
def Yu (n:Nat) (ls:List Fact) (a:Int) (p:List Int):V:=match LK ls a p with
 | some x=> .t [eI x,.b (Gx n ls a p)]
 | none=> .t [eI 0,.b false]
set_option maxHeartbeats 4000000 in
theorem P1 (w : AM) (ls:List Fact) (a:Int) (p:List Int) (c:Bool) (hokL: ∀l∈ls,GV l) (hln:ls.length≤1000000) (hp:p.length<50) (hsm:Kh ls):Pure Tryz.prog 233 [.a (Gy w ls a p c)] (Yu w.owner.length ls a p):=by
 refine Pure.fit (by kernel_rfl) fun hf=>?_
 have⟨h1,h2,h3,h4⟩:=Gd hf.1;have hM:=Mx;refine xD nb ?_;have hs:=Sn;have hfl:=TU (I8 a p) ls;have hok2: ∀l∈ls.filter (I8 a p),GV l:=fun l hl=>hokL l ((Rr.1 hl).1)
 have hsm2:Kh (ls.filter (I8 a p)):=fun l hl=>hsm l ((Rr.1 hl).1)
 conv=>whnf
 repeat'((first|apply st|(apply sq;intro K U)|(apply si;intro A B Y Z)|(apply Y;clear Z B Y A)|(apply U;clear U K)|refine⟨nb,?_⟩|refine Pure.use (bD _ _ _ _ _ hokL hln) ?_|fail)<;>conv=>whnf)
 generalize hos:ls.filter (I8 a p)=os at *;have hV:LK ls a p=(foldI os t0).bind Tz:=by rw[LK,hos]
 refine Cn os.length (fun k (x:Int×Int×List Int×V)=>[(4,eI x.1),(5,eI x.2.1),(6,x.2.2.2),(18,eI (BJ k))]) (fun k x=>[.own x.2.2.2 1 (iL x.2.2.1)]) (fun k x=>foldI (os.take k) t0=some (x.1,x.2.1,x.2.2.1)∧ -1000000000≤x.1∧x.1≤1000000000∧ -1000000001≤x.2.1∧x.2.1≤1000000000∧x.2.2.1.length≤k) (-1000000000,1000000000,[],.l [] true) rfl ⟨rfl,by simp⟩ (HI hs 1) ?_;clear hs;rintro k ⟨low,high,no,v⟩ σ hk ⟨hno,hb1,hb2,hb3,hb4,hb5⟩ hs;simp only at hb1 hb2 hb3 hb4 hb5 hno;have hok:=hok2
 conv=>whnf
 repeat'((first|apply st|(apply sq;intro K U)|(apply si;intro A B Y Z)|(apply Y;clear Z B Y A)|(apply U;clear U K)|apply dr|refine⟨rfl,?_⟩|refine⟨nb,?_⟩|refine Ru ?_|refine ld ?_|refine sn fun σ hs=>?_|refine aq fun v σ hs hsl=>?_|(refine fc (fun x hx hlt hc=>?_) (fun hk hc=>?_)<;>(try rw[hc])<;>clear hc)|refine Pure.use (Hp _ (hok _ (DM (by assumption)))) ?_|(constructor<;>intro hc<;>(try rw[hc])<;>(replace hc:=bp hc)<;>try(exfalso;omega))|(intro nn hnn;generalize hg:BE _ nn _=σ;refine al hg fun hs=>?_;clear hg)|clear U K)<;>conv=>whnf)
 all_goals first
  | (have hb:=hsm2 _ (DM hx)
     first
      | (refine⟨hlt,(_,_,_,_),rfl,⟨?_,?_⟩,hs.take 1⟩
         ·rw[Gj hx,hno]
          have hw:IntKind.i64.wrap ((BV ‹Fact›).1.n - 1)=(BV ‹Fact›).1.n - 1:=wrap64 (by omega) (by omega);simp[JJ, *]
          done
         ·have hw:IntKind.i64.wrap ((BV ‹Fact›).1.n - 1)=(BV ‹Fact›).1.n - 1:=wrap64 (by omega) (by omega)
          simp only[QJ,List.length_singleton,hw]
          refine⟨?_,?_,?_,?_,?_⟩<;>(try split)<;>omega)
      | (refine AJ ?_
         have:foldI os t0=none:=W5 (k+1) (by rw[Gj hx,hno];simp[JJ, *]);rw[this]at hV;simp only[Yu,hV]
         rfl))
  | skip
 ·have hb:=hsm2 _ (DM hx)
  refine⟨hlt,(if(BV x).1.n > low then(BV x).1.n else low,high,no,v),rfl,⟨?_,?_⟩,hs.take 1⟩
  ·rw[Gj hx,hno]
   simp[JJ, *]
  ·dsimp only
   refine⟨?_,?_,?_,?_,?_⟩<;>(try split)<;>omega
 ·have hb:=hsm2 _ (DM hx)
  have hw:IntKind.i64.wrap ((BV x).1.n - 1)=(BV x).1.n - 1:=wrap64 (by omega) (by omega);rw[hw];refine⟨hlt,(low,if(BV x).1.n - 1<high then(BV x).1.n - 1 else high,no,v),rfl,⟨?_,?_⟩,hs.take 1⟩
  ·rw[Gj hx,hno]
   simp[JJ, *]
  ·dsimp only
   refine⟨?_,?_,?_,?_,?_⟩<;>(try split)<;>omega
 ·have hb:=hsm2 _ (DM hx)
  refine⟨hlt,(if(BV x).1.n > low then(BV x).1.n else low,if(BV x).1.n<high then(BV x).1.n else high,no,v),rfl,⟨?_,?_⟩,hs.take 1⟩
  ·rw[Gj hx,hno]
   simp[JJ, *]
  ·dsimp only
   refine⟨?_,?_,?_,?_,?_⟩<;>(try split)<;>omega
 rw[A2 (by assumption)]at hno;have hV2:LK ls a p=Tz (low,high,no):=by rw[hV,hno];rfl
 dsimp only;refine Ke (fun n:Int=>(high+1 - n).toNat) (fun n=>[(11,eI n)]) (fun _=>[.own v 1 (iL no)]) (fun n=>low≤n∧n≤1000000001∧LK ls a p=R1 no (high+1 - n).toNat n) low rfl ⟨by omega,by omega,hV2⟩ hs ?_;clear hs;rintro n σ ⟨hn1,hn2,hn⟩ hs;have hnl:no.length≤Ai:=by omega
 conv=>whnf
 repeat'((first|apply st|(apply sq;intro K U)|(apply si;intro A B Y Z)|(apply Y;clear Z B Y A)|(apply U;clear U K)|refine⟨rfl,?_⟩|refine lo ?_|(constructor<;>intro hc<;>(try rw[hc])<;>(replace hc:=bp hc))|clear U K)<;>conv=>whnf)
 ·refine Cn no.length (fun j b=>[(12,.b b),(80,eI (BJ j))]) (fun j _=>[.own v 1 (iL no)]) (fun j b=>b=(no.take j).all (· != n)) true rfl (by simp) hs ?_
  clear hs;rintro j b σ hj hb hs;subst hb
  conv=>whnf
  repeat'((first|apply st|(apply sq;intro K U)|(apply si;intro A B Y Z)|(apply Y;clear Z B Y A)|(apply U;clear U K)|refine⟨rfl,?_⟩|refine⟨nb,?_⟩|refine oc ?_|refine Vk ?_|(refine fc (fun x hx hlt hc=>?_) (fun hk hc=>?_)<;>(try rw[hc])<;>clear hc)|refine Pure.use (YL _ _ _ _ _ hokL (by omega)) ?_|(constructor<;>intro hc<;>(try rw[hc])<;>(replace hc:=bp hc))|clear U K)<;>conv=>whnf)
  ·exact⟨hlt,_,rfl,by rw[AO hx,List.all_append,hc];simp,hs⟩
  ·exact⟨hlt,false,rfl,by rw[AO hx,List.all_append,hc];simp,hs⟩
  ·refine AJ ?_
   rw[A2 hk]at hc;rw[show(high+1 - n).toNat=(high - n).toNat+1 by omega,R1,if_pos hc]at hn;simp only[Yu,hn]
  ·rw[A2 hk]at hc
   rw[show(high+1 - n).toNat=(high+1 - (n+1)).toNat+1 by omega,R1,if_neg (by simp[hc])]at hn;rw[wrap64 (by omega) (by omega)];exact⟨n+1,by omega,rfl,⟨by omega,by omega,hn⟩,hs⟩
 ·refine AJ ?_
  have:(high+1 - n).toNat=0:=by omega
  rw[this,R1]at hn;simp only[Yu,hn]
def KD (x:Fact×Bool):Bool:=((x.1.op==2&&(x.1.cls==0||x.1.cls==2))==x.2)
def KH (n:Nat) (ls:List Fact) (a:Int) (p:List Int):Bool:=(ls.filter (I8 a p)).all (fun l=> !KD (BV l))&&Gx n ls a p
set_option maxHeartbeats 4000000 in
theorem X2 (w:AM) (ls:List Fact) (a:Int) (p:List Int) (c:Bool) (hokL: ∀l∈ls,GV l) (hln:ls.length≤1000000) (hp:p.length<50):Pure Tryz.prog 234 [.a (Gy w ls a p c)] (.b (KH w.owner.length ls a p)):=by
 refine Pure.fit (by kernel_rfl) fun hf=>?_
 have⟨h1,h2,h3,h4⟩:=Gd hf.1;have hM:=Mx;refine xC nb ?_;have hs:=Sn;have hfl:=TU (I8 a p) ls;have hok: ∀l∈ls.filter (I8 a p),GV l:=fun l hl=>hokL l (Rr.1 hl).1
 conv=>whnf
 repeat'((first|apply st|(apply sq;intro K U)|(apply si;intro A B Y Z)|(apply Y;clear Z B Y A)|(apply U;clear U K)|refine⟨nb,?_⟩|refine Pure.use (bD _ _ _ _ _ hokL hln) ?_|fail)<;>conv=>whnf)
 generalize hos:ls.filter (I8 a p)=os at *;have hV:KH w.owner.length ls a p=(os.all (fun l=> !KD (BV l))&&Gx w.owner.length ls a p):=by rw[KH,hos]
 refine Cn os.length (fun k (_:Unit)=>[(11,eI (BJ k))]) (fun k _=>[]) (fun k _=>KH w.owner.length ls a p=((os.drop k).all (fun l=> !KD (BV l))&&Gx w.owner.length ls a p)) () rfl hV hs ?_;clear hs;rintro k - σ hk hn hs
 conv=>whnf
 repeat'((first|apply st|(apply sq;intro K U)|(apply si;intro A B Y Z)|(apply Y;clear Z B Y A)|(apply U;clear U K)|refine⟨rfl,?_⟩|refine⟨nb,?_⟩|refine Ru ?_|refine ld ?_|refine sn fun σ hs=>?_|(refine fc (fun x hx hlt hc=>?_) (fun hk hc=>?_)<;>(try rw[hc])<;>clear hc)|refine Pure.use (Hp _ (hok _ (DM (by assumption)))) ?_|refine Pure.use (YL _ _ _ _ _ hokL (by omega)) ?_|(constructor<;>intro hc<;>(try rw[hc])<;>(replace hc:=bp hc))|(intro nn hnn;generalize hg:BE _ nn _=σ;refine al hg fun hs=>?_;clear hg)|clear U K)<;>conv=>whnf)
 all_goals first
  | (have hst:KD (BV x)=true:=by clear hV hn;cases hz:(BV x).2<;>cases hy:((BV x).1.cls==2)<;>simp_all [KD]
     exact AJ (by rw[hn,drop_cons hx,OA,hst];simp))
  | (have hst:KD (BV x)=false:=by clear hV hn;cases hz:(BV x).2<;>cases hy:((BV x).1.cls==2)<;>simp_all [KD]
     exact⟨hlt,(),rfl,by rw[hn,drop_cons hx,OA,hst];simp,hs.take 0⟩)
  | exact AJ (by rw[hn,As (by assumption)];simp)
end Go.Gl
