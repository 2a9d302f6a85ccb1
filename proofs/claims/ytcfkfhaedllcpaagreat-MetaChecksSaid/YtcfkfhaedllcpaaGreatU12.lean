import Derived.WalkKit
import Derived.ProofKit
import Derived.OpenShut
import Derived.Test.YtcfkfhaedllcpaaGreatU6
import Derived.Test.YtcfkfhaedllcpaaGreatU11
set_option linter.all false
set_option linter.defProp false
set_option maxHeartbeats 8000000
noncomputable section
namespace Go.Gl
variable {P:Program} {F:Nat->Prop} {Z Z':AE} {env:Env}
def Own (Z:AE) (v:V) (sz:Nat) (es:List (List V)):Prop:=(v= .l es true/\ ∀e∈es,e.length=sz)\/ ∃n cap,v= .sl n es.length cap/\Z n=some (.arr sz es cap)
def Own.HR {v:V} {sz:Nat} {es:List (List V)} (h:Own Z v sz es):EL Z emp v (.l es false):=by
 rcases h with⟨rfl,_⟩|⟨n,cap,rfl,hn⟩
 .exact .l (fun h=>(by cases h)) (.refl _ _ _)
 .exact .arr hn rfl rfl (.refl _ _ _)
inductive At where
 | obj (n:Nat) (o:O)
 | own (v:V) (sz:Nat) (es:List (List V))
abbrev At.box (n:Nat) (vs:List V):At:= .obj n (.cs vs)
abbrev At.map (n:Nat) (kvs:List (V×V)):At:= .obj n (.map kvs)
def DI:V->Option Nat
 | .sl n _ _=>some n
 | _=>none
def At.fb:At->Option Nat
 | .obj n _=>some n
 | .own v _ _=>DI v
def At.ok (Z:AE):At->Prop
 | .obj n o=>Z n=some o
 | .own v sz es=>Own Z v sz es
def apart (a b:At):Prop:= ∀n,a.fb=some n->b.fb≠some n
def apart.symm {a b:At} (h:apart a b):apart b a:=fun n hb ha=>h n ha hb
def Sat (Z:AE) (l:List At):Prop:=(∀a∈l,a.ok Z)/\l.Pairwise apart
def Sat.nil:Sat Z []:=⟨fun _ h=>(by cases h),.nil⟩
def Sat.get {l:List At} (h:Sat Z l) {i:Nat} {a:At} (hi:l[i]? =some a):a.ok Z:=h.1 a (Dx hi)
def OU {l:List At} (h:l.Pairwise apart): ∀ {i:Nat} {a a':At},l[i]? =some a->(∀b∈l,apart a b->apart a' b)->(l.set i a').Pairwise apart:=by
 induction h with
 | nil=>intro i a a' hi;cases hi
 | cons hx hl ih=>
   rename_i x r;intro i a a' hi hb;cases i with
   | zero=>
     simp only[aT,HQ]at hi;subst hi;exact .cons (fun b hm=>hb b (.tail _ hm) (hx b hm)) hl
   | succ i=>
     simp only[fk]at hi;refine .cons (fun b hm=>?_) (ih hi fun b hm=>hb b (.tail _ hm));rcases List.mem_or_eq_of_mem_set hm with hm|rfl
     .exact hx b hm
     .exact(hb x (.head _) (hx a (Dx hi)).symm).symm
def Dd {l:List At} (h:l.Pairwise apart): ∀ {i:Nat} {a:At},l[i]? =some a-> ∀b∈l.eraseIdx i,apart a b:=by
 induction h with
 | nil=>intro i a hi;cases hi
 | cons hx hl ih=>
   rename_i x r;intro i a hi b hb;cases i with
   | zero=>
     simp only[aT,HQ]at hi;subst hi;exact hx b (by simpa using hb)
   | succ i=>
     simp only[fk]at hi;simp only[List.eraseIdx_cons_succ,HV]at hb;rcases hb with rfl|hb
     .exact(hx a (Dx hi)).symm
     .exact ih hi b hb
def Rh {l:List At} {i:Nat} {a b:At} (h:b∈l.set i a):b=a\/b∈l.eraseIdx i:=by
 induction l generalizing i with
 | nil=>simp at h
 | cons x r ih=>
   cases i with
   | zero=>simp at h;rcases h with rfl|h;exact .inl rfl;exact .inr (by simpa using h)
   | succ i=>
     simp only[List.set_cons_succ,HV,List.eraseIdx_cons_succ]at *;rcases h with rfl|h
     .exact .inr (.inl rfl)
     .rcases ih h with h|h
      .exact .inl h
      .exact .inr (.inr h)
def Sat.change {l:List At} (h:Sat Z l) {i:Nat} {a a':At} (hi:l[i]? =some a) (ho: ∀b:At,b.ok Z->apart a b->b.ok Z') (hd: ∀b:At,b.ok Z->apart a b->apart a' b) (ha:a'.ok Z'):Sat Z' (l.set i a'):=by
 refine⟨fun b hb=>?_,OU h.2 hi fun b hb=>hd b (h.1 b hb)⟩;rcases Rh hb with rfl|hb
 .exact ha
 .exact ho b (h.1 b (List.mem_of_mem_eraseIdx hb)) (Dd h.2 hi b hb)
def CC {a:At} {n:Nat} (h:a.ok Z) (hn:a.fb=some n): ∃o,Z n=some o:=by
 cases a with
 | obj m o=>cases hn;exact⟨o,h⟩
 | own v sz es=>
   rcases h with⟨rfl,_⟩|⟨m,cap,rfl,hm⟩
   .cases hn
   .cases hn;exact⟨_,hm⟩
def D4 {a:At} (h:a.ok Z) (hs: ∀n,a.fb=some n->Z' n=Z n):a.ok Z':=by
 cases a with
 | obj m o=>exact(hs m rfl).trans h
 | own v sz es=>
   rcases h with⟨rfl,he⟩|⟨m,cap,rfl,hm⟩
   .exact .inl ⟨rfl,he⟩
   .exact .inr ⟨m,cap,rfl,(hs m rfl).trans hm⟩
def Sat.add {l:List At} (h:Sat Z l) {a:At} (ho: ∀b:At,b.ok Z->b.ok Z') (hd: ∀b:At,b.ok Z->apart a b) (ha:a.ok Z'):Sat Z' (l++[a]):=by
 refine⟨fun b hb=>?_,List.pairwise_append.2 ⟨h.2,List.pairwise_singleton _ _,fun x hx y hy=>?_⟩⟩
 .rcases FC.1 hb with hb|hb
  .exact ho b (h.1 b hb)
  .rw[ME.1 hb];exact ha
 .rw[ME.1 hy]
  exact(hd x (h.1 x hx)).symm
def Sat.less {l l':List At} (h:Sat Z l) (hs:l'.Sublist l):Sat Z l':=⟨fun a ha=>h.1 a (hs.subset ha),h.2.sublist hs⟩
def Sat.perm {l l':List At} (h:Sat Z l) (hp:l.Perm l'):Sat Z l':=⟨fun a ha=>h.1 a (hp.mem_iff.2 ha),(hp.pairwise_iff (fun {_ _}=>apart.symm)).1 h.2⟩
def VB {l:List At} (h:Sat Z l) {n:Nat} (hn:Z n=none) {o:O}:Sat (BO Z n o) (l++[.obj n o]):=by
 refine h.add (fun b hb=>D4 hb fun m hm=>?_) (fun b hb m hm hb'=>?_) (CY _ _ _)
 .obtain⟨o,ho⟩:=CC hb hm
  rw[B2];intro e;subst e;rw[hn]at ho;cases ho
 .cases hm
  obtain⟨o,ho⟩:=CC hb hb';rw[hn]at ho;cases ho
def Gg {l:List At} (h:Sat Z l) (sz:Nat):Sat Z (l++[.own (.l [] true) sz []]):=
 h.add (fun _ hb=>hb) (fun b hb n hn=>by cases hn) (.inl ⟨rfl,fun _ h=>by cases h⟩)
def bC {l:List At} (h:Sat Z l) {sz:Nat} {es:List (List V)} (hs: ∀e∈es,e.length=sz):Sat Z (l++[.own (.l es true) sz es]):=
 h.add (fun _ hb=>hb) (fun b hb n hn=>by cases hn) (.inl ⟨rfl,hs⟩)
def bB {l:List At} (h:Sat Z l) {i n:Nat} {o:O} (hi:l[i]? =some (.obj n o)) (o':O):Sat (BO Z n o') (l.set i (.obj n o')):=by
 refine h.change hi (fun b hb ha=>D4 hb fun m hm=>?_) (fun b hb ha m hm=>ha m hm) (CY _ _ _);rw[B2];intro e;subst e;exact ha m rfl hm
def Ht {l:List At} (h:Sat Z l) (i:Nat) {n off sz:Nat} {vs vc:List V} {x:V} {K:AE->Prop} (hi:l[i]? =some (.box n vs)) (hc:cellsOf x=some vc) (hl:vc.length=sz) (h1:vc.all Bm=true) (ho:off+sz<=vs.length)
    (hk: ∀Z',Sat Z' (l.set i (.box n (putAt vs off vc)))->K Z'):AV Z sz (.p n off) x K:=by
 unfold AV;rw[hc];refine⟨hl,h1,?_⟩;have:=h.get hi;simp only[At.ok]at this;simp only[this];exact⟨ho,hk _ (bB h hi _)⟩
def SH {l:List At} (h:Sat Z l) (i:Nat) {n off:Nat} {agg:Option Nat} {vs:List V} {K:V->Prop} (hi:l[i]? =some (.box n vs)) (hk:cut agg vs off K):Af Z agg (.p n off) K:=by
 have:=h.get hi;simp only[At.ok]at this;simp only[Af,K4,this];exact hk
def hAppend {l:List At} (h:Sat Z l) (i:Nat) {v:V} {sz:Nat} {es ys:List (List V)} {f:Bool} {K:V->AE->Prop} (hi:l[i]? =some (.own v sz es)) {b:Nat} (hl:es.length+ys.length<=AX/\(es.length+ys.length)*b<=140737488355328) (hys: ∀e∈ys,e.length=sz) (ho: ∀e∈ys,∀v∈e,Bm v=true)
    (hk: ∀v' Z',Sat Z' (l.set i (.own v' sz (es++ys)))->K v' Z'):AL b Z sz v (.l ys f) K:=by
 refine⟨hys,ho,?_⟩;rcases h.get hi with⟨rfl,hel⟩|⟨n,cap,rfl,hn⟩
 .refine⟨hel,hl,fun e=>hk _ _ ?_,fun _=>⟨rfl,fun n cap hn hc=>hk _ _ ?_⟩⟩
  .subst e
   exact h.change hi (fun _ hb _=>hb) (fun _ _ ha=>ha) (.inl ⟨by simp,by simpa using hel⟩)
  .refine h.change hi (fun b hb _=>D4 hb fun m hm=>?_) (fun b hb _ m hm hb'=>?_) (.inr ⟨n,cap,by simp,by simp[BO]⟩)
   .obtain⟨o,ho⟩:=CC hb hm
    rw[B2];intro e;subst e;rw[hn]at ho;cases ho
   .cases hm
    obtain⟨o,ho⟩:=CC hb hb';rw[hn]at ho;cases ho
 .simp only
  rw[hn];refine⟨rfl,rfl,rfl,hl,fun n' cap' hn' _=>hk _ _ ?_⟩;refine h.change hi (fun b hb ha=>D4 hb fun m hm=>?_) (fun b hb ha m hm hb'=>?_) (.inr ⟨n',cap',by simp,by simp[BO]⟩)
  .have hmn:m≠n:=fun e=>by subst e;exact ha m rfl hm
   obtain⟨o,ho⟩:=CC hb hm;have hmn':m≠n':=fun e=>by subst e;rw[FM _ hmn,ho]at hn';cases hn'
   rw[B2 _ _ hmn',FM _ hmn]
  .cases hm
   have hmn:n'≠n:=fun e=>by subst e;exact ha n' rfl hb'
   obtain⟨o,ho⟩:=CC hb hb';rw[FM _ hmn,ho]at hn';cases hn'
def pW {l:List At} (h:Sat Z l) {sz:Nat} {z:List V} {n:Nat} {K:V->AE->Prop} (hn:n<=1073741824) (hk: ∀v Z',Sat Z' (l++[.own v sz (List.replicate n z)])->(∃id,v= .sl id n n)->K v Z') {ki kj:IntKind} :
    AM Z sz z (.i ki (n:Int)) (.i kj (n:Int)) K:=by
 refine⟨by omega,by omega,by omega,fun id hid=>?_⟩;simp only[MF];refine hk _ _ (h.add (fun b hb=>D4 hb fun m hm=>?_) (fun b hb m hm hb'=>?_) (.inr ⟨id,n,by simp,by simp[BO]⟩)) ⟨id,rfl⟩
 .obtain⟨o,ho⟩:=CC hb hm
  rw[B2];intro e;subst e;rw[hid]at ho;cases ho
 .cases hm
  obtain⟨o,ho⟩:=CC hb hb';rw[hid]at ho;cases ho
def DX {agg:Option Nat} {cs:List V} {K:V->Prop} (h:cut agg cs 0 K):Af Z agg (.rp cs) K:=h
def Hb {es:List (List V)} {f:Bool} {K:V->Prop} (h:K (.i .i64 es.length)):BK (.l es f) K:=h
def FF {l:List At} (h:Sat Z l) (i:Nat) {v:V} {sz:Nat} {es:List (List V)} (hi:l[i]? =some (.own v sz es)):Bm v=true:=by
 rcases h.get hi with⟨rfl,_⟩|⟨n,cap,rfl,hn⟩<;>rfl
@[simp] theorem oz {es:List (List V)} {f:Bool}:Bm (.l es f)=true:=rfl
@[simp] theorem o0 {k:IntKind} {n:Int}:Bm (.i k n)=true:=rfl
@[simp] theorem o6 {b:Bool}:Bm (.b b)=true:=rfl
@[simp] theorem ox {n o:Nat}:Bm (.p n o)=true:=rfl
@[simp] theorem jE {cs:List V}:Bm (.rp cs)=true:=rfl
@[simp] theorem oy {n:Nat}:Bm (.m n)=true:=rfl
@[simp] theorem o5 {fn:Fn} {a b:List V}:Bm (.f fn a b)=true:=rfl
@[simp] theorem jD {a b c:Nat}:Bm (.sl a b c)=true:=rfl
@[simp] theorem jF:Bm .pn=true:=rfl
@[simp] theorem jG:Bm .mn=true:=rfl
@[simp] theorem fh:Bm .C0=true:=rfl
@[simp] theorem ia {t:TypeId} {v:V}:Bm (.De t v)=true:=rfl
def Ug {v:V} (h:Bm v=true):cellsOf v=some [v]:=by cases v<;>first|rfl|cases h
def Ia {l:List At} (h:Sat Z l) (i:Nat) {n off:Nat} {vs:List V} {x:V} {K:AE->Prop} (hi:l[i]? =some (.box n vs)) (h1:Bm x=true) (ho:off+1<=vs.length)
    (hk: ∀Z',Sat Z' (l.set i (.box n (vs.set off x)))->K Z'):AV Z 1 (.p n off) x K:=
 Ht h i hi (Ug h1) rfl (by simp[h1]) ho hk
def Sat.HR {l:List At} (h:Sat Z l) (i:Nat) {v:V} {sz:Nat} {es:List (List V)} (hi:l[i]? =some (.own v sz es)):EL Z emp v (.l es false):=(h.get hi).HR
def Sat.jg {l:List At} (h:Sat Z l) (i:Nat) {n:Nat} {vs vs':List V} (hi:l[i]? =some (.box n vs)) (hf:CU Z emp vs vs'):EL Z emp (.p n 0) (.rp vs'):= .cs (h.get hi) rfl hf
def PC {l:List At} (h:Sat Z l) (i:Nat) {v:V} {sz:Nat} {es:List (List V)} (hi:l[i]? =some (.own v sz es)): ∃Z2,Sub Z2 Z/\EL Z Z2 v (.l es false)/\Sat Z2 (l.eraseIdx i):=by
 rcases h.get hi with⟨rfl,_⟩|⟨n,cap,rfl,hn⟩
 .exact⟨Z,fun _ _ h=>h,.l (fun h=>(by cases h)) (.refl _ _ _),h.less (List.eraseIdx_sublist _ _)⟩
 .refine⟨del Z n,ER Z n,.arr hn (Ca Z n) rfl (.refl _ _ _),?_⟩
  refine⟨fun b hb=>?_,h.2.sublist (List.eraseIdx_sublist _ _)⟩;refine D4 (h.1 b (List.mem_of_mem_eraseIdx hb)) fun m hm=>?_
  rw[FM];intro e;subst e;exact Dd h.2 hi b hb m rfl hm
def HD {v vf:V} {Z2:AE} {Q:R->AE->Prop} (hs:Sub Z2 Z) (hf:EL Z Z2 v vf) (hq:Q (.ret vf) Z2):A3 Z v Q:=⟨vf,Z2,hs,hf,hq⟩
def A4 {l l':List At} (h:Sat Z l) (hl:l'.Sublist l) {v vf:V} {Q:R->AE->Prop} (hf:EL Z Z v vf) (hq: ∀Z',Sat Z' l'->Q (.ret vf) Z'):A3 Z v Q:=⟨vf,Z,fun _ _ h=>h,hf,hq Z (h.less hl)⟩
def bD {l:List At} (h:Sat Z l) (i:Nat) {v:V} {sz:Nat} {es:List (List V)} (hi:l[i]? =some (.own v sz es)) {K:V->AE->Prop} (hk: ∀Z',Sat Z' (l.eraseIdx i)->K (.l es false) Z'): ∃vf Z2,Sub Z2 Z/\EL Z Z2 v vf/\K vf Z2:=by
 obtain⟨Z2,h1,h2,h3⟩:=PC h i hi;exact⟨_,Z2,h1,h2,hk Z2 h3⟩
def gJ {l:List At} (h:Sat Z l) (i:Nat) {v:V} {sz:Nat} {es:List (List V)} (hi:l[i]? =some (.own v sz es)) (hm:es.length<=AX) {K:V->Prop} (hk:K (.i .i64 es.length)):BK v K:=by
 rcases h.get hi with⟨rfl,_⟩|⟨n,cap,rfl,hn⟩
 .exact hk
 .exact⟨hm,hk⟩
def Dl (v:V) (sz j:Nat):V:=match v with| .sl n _ _=> .pe n sz j 0| .l es _=> .rp (es.getD j [])|_=> .pn
def Uz {l:List At} (h:Sat Z l) (i:Nat) {v:V} {sz:Nat} {es:List (List V)} {ki:IntKind} {j:Int} (k:Nat) (hi:l[i]? =some (.own v sz es)) (hj:j=k) (hlt:k<es.length) {K:V->Prop} (hk:K (Dl v sz k)) :
    AS sz none v (.i ki j) K:=by
 subst hj;rcases h.get hi with⟨rfl,hel⟩|⟨n,cap,rfl,hn⟩
 .refine⟨Int.natCast_nonneg k,es[k],by simp[hlt],hel _ (List.getElem_mem hlt),?_⟩
  simpa[Dl,hlt]using hk
 .exact⟨Int.natCast_nonneg k,by omega,by simpa[Dl]using hk⟩
def F7 {l:List At} (h:Sat Z l) (i:Nat) {v:V} {sz k:Nat} {es:List (List V)} {e:List V} {agg:Option Nat} (hi:l[i]? =some (.own v sz es)) (he:es[k]? =some e) {K:V->Prop} (hk:cut agg e 0 K):Af Z agg (Dl v sz k) K:=by
 rcases h.get hi with⟨rfl,_⟩|⟨n',cap',rfl,hn⟩
 .simp only[Dl,Af,FD,he]
  exact hk
 .simp only[Dl,Af,K5,hn,he]
  exact⟨trivial,hk⟩
def Iu {l : List At} (h:Sat Z l) (i:Nat) {v x:V} {sz k:Nat} {es:List (List V)} {e vc:List V} (hi:l[i]? =some (.own v sz es)) (he:es[k]? =some e) (hc:cellsOf x=some vc) (hl:vc.length=sz) (h1:vc.all Bm=true) (hel:e.length=sz) (hv:(DI v).isSome=true) {K:AE->Prop}
    (hk: ∀Z',Sat Z' (l.set i (.own v sz (es.set k vc)))->K Z'):AV Z sz (Dl v sz k) x K:=by
 rcases h.get hi with⟨rfl,_⟩|⟨n,cap,rfl,hn⟩
 .cases hv
 .unfold AV
  rw[hc];refine⟨hl,h1,?_⟩;simp only[Dl,hn,he];refine⟨trivial,by omega,hk _ ?_⟩
  have hput: ∀(vs vc:List V),vc.length=vs.length->putAt vs 0 vc=vc:=by
   have gen: ∀(vc pre vs:List V),vc.length=vs.length->putAt (pre++vs) pre.length vc=pre++vc:=by
    intro vc
    induction vc with
    | nil=>intro pre vs hl;cases vs with
      | nil=>rfl
      | cons _ _=>cases hl
    | cons x vc ih=>
      intro pre vs hl;cases vs with
      | nil=>cases hl
      | cons y vs=>
        simp only[putAt];rw[List.set_append_right _ _ (JE _),Nat.sub_self,List.set_cons_zero];have:=ih (pre++[x]) vs (by simpa using hl);simp only[Uw,Om,List.length_nil,Ex,aS,List.singleton_append]at this;exact this
   intro vs vc hl;exact gen vc [] vs hl
  rw[hput e vc (by omega)];refine h.change hi (fun b hb ha=>D4 hb fun m hm=>?_) (fun b hb ha m hm=>ha m hm) (.inr ⟨n,cap,by simp,by simp[BO]⟩);rw[B2];intro e;subst e;exact ha m rfl hm
def Ss {l:List At} (h:Sat Z l) (i:Nat) {n:Nat} {kvs:List (V×V)} {ks:KS} {z vk:V} {ok:Bool} (hi:l[i]? =some (.map n kvs)) (hk:BB ks vk=true) (hks: ∀kv∈kvs,BB ks kv.1=true) {K:V->Prop} (h':K (found z ok (C7 vk kvs))) :
    AP Z ks z ok (.m n) vk K:=by
 refine⟨hk,?_⟩;have:=h.get hi;simp only[At.ok]at this;simp only[this];exact⟨hks,h'⟩
def OL {l:List At} (h:Sat Z l) (i:Nat) {n:Nat} {kvs:List (V×V)} {ks:KS} {vk vv:V} (hi:l[i]? =some (.map n kvs)) (hk:BB ks vk=true) (hks: ∀kv∈kvs,BB ks kv.1=true) {K:AE->Prop}
    (h': ∀Z',Sat Z' (l.set i (.map n (D6 vk vv kvs)))->K Z'):AT Z ks (.m n) vk vv K:=by
 refine⟨hk,?_⟩;have:=h.get hi;simp only[At.ok]at this;simp only[this];exact⟨hks,h' _ (bB h hi _)⟩
def Cl (P:Program) (f:FuncId) (args:List V) (pre:List At) (Φ:R->List At->Prop):Prop:= ∀Z,Sat Z pre->BD P f args Z fun r Z'=> ∃post,Φ r post/\Sat Z' post
def YX {a:At} {Z1 τ:AE} (h:a.ok Z1):a.ok (join Z1 τ):=D4 h fun n hn=>by
 obtain⟨o,ho⟩:=CC h hn;simp[join,ho]
def Cl.use {f:FuncId} {args:List V} {pre rest:List At} {Φ:R->List At->Prop} (h:Cl P f args pre Φ) (hs:Sat Z (pre++rest)) {Q:R->AE->Prop} (hk: ∀r post Z',Φ r post->Sat Z' (post++rest)->Q r Z'):BD P f args Z Q:=by
 have hpre:Sat Z pre:=hs.less (List.sublist_append_left _ _);have hrest:Sat Z rest:=hs.less (List.sublist_append_right _ _);have hap:=(List.pairwise_append.1 hs.2).2.2
 let D:Nat->Prop:=fun n=> ∀b∈rest,b.fb≠some n
 have h1:Sat (Ey Z D) pre:=⟨fun a ha=>D4 (hpre.1 a ha) fun n hn=>CZ fun b hb=>hap a ha b hb n hn,hpre.2⟩
 refine BD.mono (BD.frame D (h _ h1)) fun r Z' ⟨Z1,⟨post,hp,hsp⟩,hfr,he⟩=>hk r post Z' hp ?_
 subst he
 have hrn: ∀b∈rest,∀n,b.fb=some n->Z1 n=none/\Ey Z (fun n=> ¬D n) n=Z n:=fun b hb n hn=>by
  have hnd: ¬D n:=fun h=>h b hb hn
  obtain⟨o,ho⟩:=CC (hrest.1 b hb) hn;exact⟨hfr n hnd (by rw[ho];simp),CZ hnd⟩
 refine⟨fun a ha=>?_,List.pairwise_append.2 ⟨hsp.2,hrest.2,fun a ha b hb n hn hb'=>?_⟩⟩
 .rcases FC.1 ha with ha|ha
  .exact YX (hsp.1 a ha)
  .refine D4 (hrest.1 a ha) fun n hn=>?_
   obtain⟨k1,k2⟩:=hrn a ha n hn;simp only[join,k1,k2]
 .obtain⟨o,ho⟩:=CC (hsp.1 a ha) hn
  rw[(hrn b hb n hb').1]at ho;cases ho
def Kv:List (Nat×V)->Env->Env
 | _,[]=>[]
 | f,(k,v)::r=>(k,(get k f).getD v)::Kv f r
def sk:List (Nat×V)->Env->(Env->Prop)->Prop
 | _,[],k=>k []
 | f,(n,v)::r,k=>match get n f with
   | some u=>sk f r fun e=>k ((n,u)::e)
   | none=>sk f r fun e=>k ((n,v)::e)
def O9 {f:List (Nat×V)}: ∀ {E:Env} {k:Env->Prop},sk f E k=k (Kv f E)
 | [],_=>rfl
 | (n,v)::r,k=>by
   simp only[sk,Kv];cases get n f with
   | none=>exact O9 (E:=r)
   | some u=>exact O9 (E:=r)
def Cc {l:List Nat} {a:AK} {Q:AR->Env->AE->Prop} {E:Env} (len:Nat) {X:Type} (f:Nat->X->List (Nat×V)) (H:Nat->X->List At) (Φ:Nat->X->Prop) (x0:X) (h0:E=Kv (f 0 x0) E) (hΦ:Φ 0 x0) (hs:Sat Z (H 0 x0))
    (h: ∀k x Z,k<=len->Φ k x->Sat Z (H k x)->sk (f k x) E fun E1=>W P a (AR.andThen (fun env' Z'=>pk l env' fun E'=>k<len/\ ∃x',E'=Kv (f (k+1) x') E/\Φ (k+1) x'/\Sat Z' (H (k+1) x')) Q) E1 Z):VT P l a Q E Z:=by
 refine pN len (fun k env' Z'=> ∃x,env'=Kv (f k x) E/\Φ k x/\Sat Z' (H k x)) ⟨x0,h0,hΦ,hs⟩ ?_;rintro k _ Z hk ⟨x,rfl,h1,h2⟩;have:=h k x Z hk h1 h2;rw[O9]at this;exact this
def LC {l:List Nat} {a:AK} {Q:AR->Env->AE->Prop} {E:Env} {X:Type} (μ:X->Nat) (f:X->List (Nat×V)) (H:X->List At) (Φ:X->Prop) (x0:X) (h0:E=Kv (f x0) E) (hΦ:Φ x0) (hs:Sat Z (H x0))
    (h: ∀x Z,Φ x->Sat Z (H x)->sk (f x) E fun E1=>W P a (AR.andThen (fun env' Z'=>pk l env' fun E'=> ∃x',μ x'<μ x/\E'=Kv (f x') E/\Φ x'/\Sat Z' (H x')) Q) E1 Z):VT P l a Q E Z:=by
 refine⟨fun n env Z=> ∃x,n=μ x/\env=Kv (f x) E/\Φ x/\Sat Z (H x),⟨_,x0,rfl,h0,hΦ,hs⟩,?_⟩;rintro n _ Z ⟨x,rfl,rfl,h1,h2⟩;have h:=h x Z h1 h2;rw[O9]at h;refine WB h fun ex env' Z' hq=>?_
 cases ex with
 | normal=>
   simp only[AR.andThen]at *;rw[EN]at *;obtain⟨x',k1,k2⟩:=hq;exact⟨_,k1,x',rfl,k2⟩
 | exit id=>exact hq
 | ret=>exact hq
 | BL v=>exact hq
def Mi {K A:Env->AE->Prop} {lx:List Nat} (U: ∀env Z,(pk lx env fun E=>A E Z)->K env Z) {AB:Type} (fJ:AB->List (Nat×V)) (HJ:AB->List At) (ΦJ:AB->Prop) (EJ:Env)
    (hJ: ∀y Z,ΦJ y->Sat Z (HJ y)->sk (fJ y) EJ fun E1=>A E1 Z): ∀y env Z,(pk lx env fun E=>E=Kv (fJ y) EJ)->ΦJ y->Sat Z (HJ y)->K env Z:=by
 intro y env Z he h1 h2;apply U;rw[EN]at *;have:=hJ y Z h1 h2;rw[O9,<-he]at this;exact this
end Go.Gl
namespace Go.Gl
def Sn:Sat emp []:=Sat.nil
def Mx:AX=17592186044416:=rfl
end Go.Gl
namespace Go.Gl
open Go.ChangeShapes Go.WideShapes Go.ChangeAt Go.RowKit
variable {P:Program}
def XP {f:FuncId} {args:List V} {v:V} (h:Pure P f args v) {w:World} {cs:Array Value} (hc:U1 (Hh (fun _=>False) emp w) args cs) :
    Calls P f cs w fun e w'=>(∃c,e= .returned c/\AQ (Hh (fun _=>False) emp w') v c)/\Bb (fun _=>False) emp w emp w':=by
 refine Calls.mono (h.2 (fun _=>False) w cs (Sd _ fun _ h=>h.elim) hc) fun e w' ⟨r,Z',⟨h1,h2⟩,h3,_,h4⟩=>?_
 subst h1;subst h2;exact⟨h3,h4⟩
end Go.Gl
namespace Go.Gl
variable {P:Program} {Z:AE} {env:Env}
abbrev iL (xs:List Int):List (List V):=xs.map fun x=>[.i .i64 x]
abbrev Df (ls:List (List Int)):List (List V):=ls.map fun l=>[.l (iL l) false]
abbrev bL (xs:List Bool):List (List V):=xs.map fun x=>[.b x]
def EP {α:Type} (enc:α->List V) (sz:Nat):Prop:= ∀x,(enc x).length=sz/\ ∀v∈enc x,Bm v=true
def B8:EP (fun x:Int=>[V.i .i64 x]) 1:=fun x=>⟨rfl,fun v hv=>by simp at hv;subst hv;rfl⟩
def CM:EP (fun l:List Int=>[V.l (iL l) false]) 1:=fun x=>⟨rfl,fun v hv=>by simp at hv;subst hv;rfl⟩
def Kl:EP (fun x:Bool=>[V.b x]) 1:=fun x=>⟨rfl,fun v hv=>by simp at hv;subst hv;rfl⟩
def Dr {α:Type} {enc:α->List V} {sz:Nat} (hg:EP enc sz) (xs:List α):(∀e∈xs.map enc,e.length=sz)/\ ∀e∈xs.map enc,∀v∈e,Bm v=true:=by
 refine⟨fun e he=>?_,fun e he=>?_⟩<;>obtain⟨x,_,rfl⟩:=Ol.1 he
 .exact(hg x).1
 .exact(hg x).2
def iA {α:Type} {enc:α->List V} {sz:Nat} {xs ys:List α} {f g:Bool} {K:V->Prop} (hg:EP enc sz) {b:Nat} (hl:xs.length+ys.length<=AX/\(xs.length+ys.length)*b<=140737488355328) (hf:f=true) (hk:K (.l ((xs++ys).map enc) false)):Ao b Z sz (.l (xs.map enc) f) (.l (ys.map enc) g) K:=by
 obtain⟨h1,h2⟩:=Dr hg ys;refine⟨h1,h2,(Dr hg xs).1,by simpa using hl,fun _=>hf,?_⟩;rw[<-R8];exact hk
def Vr {α:Type} {enc:α->List V} {sz:Nat} {ys:List α} {g:Bool} {K:V->Prop} (hg:EP enc sz) {b:Nat} (hl:ys.length<=AX/\ys.length*b<=140737488355328) (hk:K (.l (ys.map enc) false)):Ao b Z sz (.l [] true) (.l (ys.map enc) g) K:=
 iA (xs:=[]) hg (by simpa using hl) rfl hk
def E0 {l:List At} (h:Sat Z l) (i:Nat) {α:Type} {enc:α->List V} {sz:Nat} {xs:List α} {x:α} {v:V} {f:Bool} {e:List V} {K:V->AE->Prop} (hi:l[i]? =some (.own v sz (xs.map enc))) {b:Nat} (hl:xs.length<AX/\(xs.length+1)*b<=140737488355328) (hg:EP enc sz)
    (hk: ∀v' Z',Sat Z' (l.set i (.own v' sz ((xs++[x]).map enc)))->K v' Z') (he:e=enc x:=by rfl):AL b Z sz v (.l [e] f) K:=by
 subst he;refine hAppend h i hi (by simp;omega) (fun e he=>by simp at he;subst he;exact(hg x).1) (fun e he=>by simp at he;subst he;exact(hg x).2) fun v' Z' hs=>hk v' Z' ?_
 rw[R8];exact hs
def PD {l:List At} (h:Sat Z l) (i:Nat) {α:Type} {enc:α->List V} {sz:Nat} {xs ys:List α} {v:V} {f:Bool} {K:V->AE->Prop} (hi:l[i]? =some (.own v sz (xs.map enc))) {b:Nat} (hl:xs.length+ys.length<=AX/\(xs.length+ys.length)*b<=140737488355328) (hg:EP enc sz)
    (hk: ∀v' Z',Sat Z' (l.set i (.own v' sz ((xs++ys).map enc)))->K v' Z'):AL b Z sz v (.l (ys.map enc) f) K:=by
 obtain⟨h1,h2⟩:=Dr hg ys;refine hAppend h i hi (by simpa using hl) h1 h2 fun v' Z' hs=>hk v' Z' ?_
 rw[R8];exact hs
def Fj {l:List At} (h:Sat Z l) (i:Nat) {v:V} {sz:Nat} {es:List (List V)} (hi:l[i]? =some (.own v sz es)) {vf:V} (he:V.l es false=vf):A3 Z v (fun r Z'=>r= .ret vf/\Z'=emp):=
 B1 (he ▸ h.HR i hi)
def Aa {α:Type} {xs:List α} {k:Nat} {x:α} (h:xs[k]? =some x):xs.take (k+1)=xs.take k++[x]:=by
 rw[List.take_add_one,h];rfl
def O5 {α:Type} {enc:α->List V} {xs:List α} {f:Bool} {sz:Nat} {K:V->Prop} {ki:IntKind} {j:Int} (k:Nat) {x:α} (hx:xs[k]? =some x) (hj:j=k) (hs:(enc x).length=sz) (h:K (.rp (enc x))) :
    AS sz none (.l (xs.map enc) f) (.i ki j) K:=by
 subst hj;refine⟨Int.natCast_nonneg k,enc x,?_,hs,h⟩;rw[MF,NX,hx];rfl
def ZD {α:Type} {enc:α->List V} {xs:List α} {k:Nat} {A B:Prop} (hk:k<=xs.length) (h1: ∀x,xs[k]? =some x->k<xs.length->A) (h2:k=xs.length->B) :
    (decide ((k:Int)<((xs.map enc).length:Nat))=true->A)/\(decide ((k:Int)<((xs.map enc).length:Nat))=false->B):=
 fork (fun h=>by
  have hlt:=Vm h
  exact h1 _ (D2 hlt) hlt) fun h=>h2 (S1 hk h)
def Nk (a:Int):Nat->Int
 | 0=>a
 | k+1=>IntKind.i64.wrap (Nk a k+1)
abbrev BU (k:Nat):Int:=Nk 0 k
def OQ {a:Int} (ha: -4611686018427387904<=a): ∀ {k:Nat},a+k<=4611686018427387904->Nk a k=a+k
 | 0,_=>by simp[Nk]
 | k+1,h=>by
   rw[Nk,OQ ha (by omega),wrap64 (by omega) (by omega)];omega
def AJ {k:Nat} (h:k<=AX+8):BU k=k:=by
 rw[BU,OQ (by omega) (by simp only[AX]at h;omega)];omega
def Tf (a:Int):Nat->Int
 | 0=>a
 | k+1=>IntKind.i64.wrap (Tf a k - 1)
def S5 {a:Int} (ha:a<=4611686018427387904): ∀ {k:Nat},-4611686018427387904<=a - k->Tf a k=a - k
 | 0,_=>by simp[Tf]
 | k+1,h=>by
   rw[Tf,S5 ha (by omega),wrap64 (by omega) (by omega)];omega
def Ej {α:Type} {enc:α->List V} {xs:List α} {k:Nat} {A B:Prop} (hk:k<=xs.length) (hm:xs.length<=AX) (h1: ∀x,xs[k]? =some x->k<xs.length->A) (h2:k=xs.length->B) :
    (decide (BU k<((xs.map enc).length:Nat))=true->A)/\(decide (BU k<((xs.map enc).length:Nat))=false->B):=by
 rw[AJ (by omega)];exact ZD hk h1 h2
def Gi {α:Type} {enc:α->List V} {xs:List α} {f:Bool} {sz:Nat} {K:V->Prop} {ki:IntKind} {k:Nat} {x:α} (hx:xs[k]? =some x) (hm:xs.length<=AX) (hs:(enc x).length=sz) (h:K (.rp (enc x))) :
    AS sz none (.l (xs.map enc) f) (.i ki (BU k)) K:=
 O5 k hx (AJ (by have:=(KT.1 hx).1;omega)) hs h
def BN {α:Type} {xs:List α} {k:Nat} (h:k=xs.length):xs.take k=xs:=by rw[h,List.take_length]
class MS {α:Type} (enc:α->List V):Prop where
 h: ∀x,Xa (enc x)=false
instance {α:Type} (g:α->Int):MS (fun x=>[V.i .i64 (g x)]):=⟨fun _=>rfl⟩
instance {α:Type} (g:α->List (List V)) (b:α->Bool):MS (fun x=>[V.l (g x) (b x)]):=⟨fun _=>rfl⟩
instance {α:Type} (g k:α->V) (t:α->List V):MS (fun x=>g x::k x::t x):=⟨fun _=>rfl⟩
end Go.Gl
namespace Go.Gl
structure MD where
 parents:List Int
 AH:List Int
 inits:List (Int×Int)
 deriving DecidableEq,Inhabited
structure Node where
 op:Int
 n:Int
 kids:List Int
 deriving DecidableEq,Inhabited
inductive Fact where
 | mk (op arg:Int) (path:List Int) (cls n:Int) (kids:List Fact)
 deriving Inhabited
namespace Fact
def op:Fact->Int|mk o _ _ _ _ _=>o
def arg:Fact->Int|mk _ a _ _ _ _=>a
def path:Fact->List Int|mk _ _ p _ _ _=>p
def cls:Fact->Int|mk _ _ _ c _ _=>c
def n:Fact->Int|mk _ _ _ _ n _=>n
def kids:Fact->List Fact|mk _ _ _ _ _ k=>k
mutual
def IP {α:Type} (g:Fact->List α->α):Fact->α
 | .mk o a p c n k=>g (.mk o a p c n k) (SO g k)
 termination_by structural f=>f
def SO {α:Type} (g:Fact->List α->α):List Fact->List α
 | []=>[]
 | x::r=>IP g x::SO g r
 termination_by structural l=>l
end
def XO {α:Type} (g:Fact->List α->α) (l:List Fact):SO g l=l.map (IP g):=by
 induction l with
 | nil=>rfl
 | cons x r ih=>simp[SO,ih]
def E6 {α:Type} (g:Fact->List α->α) (f:Fact):IP g f=g f (f.kids.map (IP g)):=by
 cases f with
 | mk o a p c n k=>simp[IP,XO,kids]
def ind {motive:Fact->Prop} (h: ∀f,(∀k∈f.kids,motive k)->motive f) (f:Fact):motive f:=by
 refine Fact.rec (motive_1:=motive) (motive_2:=fun l=> ∀k∈l,motive k) (fun o a p c n k ih=>h _ ih) (fun _ h=>by cases h) (fun x r hx hr k hk=>?_) f;rcases HV.1 hk with rfl|hk
 .exact hx
 .exact hr k hk
def size (f:Fact):Nat:=IP (fun f l=>1+f.path.length+f.kids.length+l.sum) f
end Fact
structure MT where
 kind:Int
 gen:Int
 fact:Fact
 node:Int
 deriving Inhabited
structure Prog where
 AG:List MD
 AH:Int
 Bc:List Int
 methods:List MT
 nodes:List Node
 main:Int
 deriving Inhabited
structure Ap where
 parents:List (List Int)
 owner:List Int
 deriving DecidableEq,Inhabited
abbrev eI (n:Int):V:= .i .i64 n
def Hm (c:MD):List V:=[.l (iL c.parents) false,.l (iL c.AH) false,.l (c.inits.map fun p=>[eI p.1,eI p.2]) false]
def GQ (x:Node):List V:=[eI x.op,eI x.n,.l (iL x.kids) false]
def GR (f:Fact):List V:=f.IP fun f l=>[eI f.op,eI f.arg,.l (iL f.path) false,eI f.cls,eI f.n,.l l false]
abbrev xF (f:Fact):List V:=[eI f.op,eI f.arg,.l (iL f.path) false,eI f.cls,eI f.n,.l (f.kids.map GR) false]
def Br (f:Fact):GR f=xF f:=Fact.E6 _ f
abbrev facts (l:List Fact):List (List V):=l.map GR
def SL (m:MT):List V:=[eI m.kind,eI m.gen,eI m.fact.op,eI m.fact.arg,.l (iL m.fact.path) false,eI m.fact.cls,eI m.fact.n,.l (facts m.fact.kids) false,eI m.node]
def A7 (p:Prog):List V:=[.l (p.AG.map Hm) false,eI p.AH,.l (iL p.Bc) false,.l (p.methods.map SL) false,.l (p.nodes.map GQ) false,eI p.main]
instance :MS Hm:=⟨fun _=>rfl⟩
instance :MS GQ:=⟨fun _=>rfl⟩
instance :MS GR:=⟨fun x=>by rw[Br];rfl⟩
instance :MS SL:=⟨fun _=>rfl⟩
def BC (w:Ap):List V:=[.l (Df w.parents) false,.l (iL w.owner) false]
end Go.Gl
