import Derived.WalkKit
import Derived.ProofKit
import Derived.OpenShut
import Derived.Test.YtcfkfhaedllcpaaGreatW6
import Derived.Test.YtcfkfhaedllcpaaGreatW11
set_option linter.all false
set_option linter.defProp false
set_option maxHeartbeats 8000000
noncomputable section
namespace Go.Gl
variable {P:Program} {F:Nat->Prop} {Z Z':AE} {env:Env}
def Own (Z:AE) (v:V) (sz:Nat) (es:List (List V)):Prop:=(v= .l es true/\ ∀e∈es,e.length=sz)\/ ∃n cap,v= .sl n es.length cap/\Z n=some (.arr sz es cap)
def Own.GW {v:V} {sz:Nat} {es:List (List V)} (h:Own Z v sz es):Ez Z emp v (.l es false):=by
 rcases h with⟨rfl,_⟩|⟨n,cap,rfl,hn⟩
 .exact .l (fun h=>(by cases h)) (.refl _ _ _)
 .exact .arr hn rfl rfl (.refl _ _ _)
inductive At where
 | obj (n:Nat) (o:O)
 | own (v:V) (sz:Nat) (es:List (List V))
abbrev At.box (n:Nat) (vs:List V):At:= .obj n (.cs vs)
abbrev At.map (n:Nat) (kvs:List (V×V)):At:= .obj n (.map kvs)
def Be:V->Option Nat
 | .sl n _ _=>some n
 | _=>none
def At.vd:At->Option Nat
 | .obj n _=>some n
 | .own v _ _=>Be v
def At.ok (Z:AE):At->Prop
 | .obj n o=>Z n=some o
 | .own v sz es=>Own Z v sz es
def apart (a b:At):Prop:= ∀n,a.vd=some n->b.vd≠some n
def apart.symm {a b:At} (h:apart a b):apart b a:=fun n hb ha=>h n ha hb
def Sat (Z:AE) (l:List At):Prop:=(∀a∈l,a.ok Z)/\l.Pairwise apart
def Sat.nil:Sat Z []:=⟨fun _ h=>(by cases h),.nil⟩
def Sat.get {l:List At} (h:Sat Z l) {i:Nat} {a:At} (hi:l[i]? =some a):a.ok Z:=h.1 a (B1 hi)
def UI {l:List At} (h:l.Pairwise apart): ∀ {i:Nat} {a a':At},l[i]? =some a->(∀b∈l,apart a b->apart a' b)->(l.set i a').Pairwise apart:=by
 induction h with
 | nil=>intro i a a' hi;cases hi
 | cons hx hl ih=>
   rename_i x r;intro i a a' hi hb;cases i with
   | zero=>
     simp only[nr,Hl]at hi;subst hi;exact .cons (fun b hm=>hb b (.tail _ hm) (hx b hm)) hl
   | succ i=>
     simp only[vT]at hi;refine .cons (fun b hm=>?_) (ih hi fun b hm=>hb b (.tail _ hm));rcases List.mem_or_eq_of_mem_set hm with hm|rfl
     .exact hx b hm
     .exact(hb x (.head _) (hx a (B1 hi)).symm).symm
def Ew {l:List At} (h:l.Pairwise apart): ∀ {i:Nat} {a:At},l[i]? =some a-> ∀b∈l.eraseIdx i,apart a b:=by
 induction h with
 | nil=>intro i a hi;cases hi
 | cons hx hl ih=>
   rename_i x r;intro i a hi b hb;cases i with
   | zero=>
     simp only[nr,Hl]at hi;subst hi;exact hx b (by simpa using hb)
   | succ i=>
     simp only[vT]at hi;simp only[List.eraseIdx_cons_succ,Fm]at hb;rcases hb with rfl|hb
     .exact(hx a (B1 hi)).symm
     .exact ih hi b hb
def X7 {l:List At} {i:Nat} {a b:At} (h:b∈l.set i a):b=a\/b∈l.eraseIdx i:=by
 induction l generalizing i with
 | nil=>simp at h
 | cons x r ih=>
   cases i with
   | zero=>simp at h;rcases h with rfl|h;exact .inl rfl;exact .inr (by simpa using h)
   | succ i=>
     simp only[List.set_cons_succ,Fm,List.eraseIdx_cons_succ]at *;rcases h with rfl|h
     .exact .inr (.inl rfl)
     .rcases ih h with h|h
      .exact .inl h
      .exact .inr (.inr h)
def Sat.change {l:List At} (h:Sat Z l) {i:Nat} {a a':At} (hi:l[i]? =some a) (ho: ∀b:At,b.ok Z->apart a b->b.ok Z') (hd: ∀b:At,b.ok Z->apart a b->apart a' b) (ha:a'.ok Z'):Sat Z' (l.set i a'):=by
 refine⟨fun b hb=>?_,UI h.2 hi fun b hb=>hd b (h.1 b hb)⟩;rcases X7 hb with rfl|hb
 .exact ha
 .exact ho b (h.1 b (List.mem_of_mem_eraseIdx hb)) (Ew h.2 hi b hb)
def Cq {a:At} {n:Nat} (h:a.ok Z) (hn:a.vd=some n): ∃o,Z n=some o:=by
 cases a with
 | obj m o=>cases hn;exact⟨o,h⟩
 | own v sz es=>
   rcases h with⟨rfl,_⟩|⟨m,cap,rfl,hm⟩
   .cases hn
   .cases hn;exact⟨_,hm⟩
def E6 {a:At} (h:a.ok Z) (hs: ∀n,a.vd=some n->Z' n=Z n):a.ok Z':=by
 cases a with
 | obj m o=>exact(hs m rfl).trans h
 | own v sz es=>
   rcases h with⟨rfl,he⟩|⟨m,cap,rfl,hm⟩
   .exact .inl ⟨rfl,he⟩
   .exact .inr ⟨m,cap,rfl,(hs m rfl).trans hm⟩
def Sat.add {l:List At} (h:Sat Z l) {a:At} (ho: ∀b:At,b.ok Z->b.ok Z') (hd: ∀b:At,b.ok Z->apart a b) (ha:a.ok Z'):Sat Z' (l++[a]):=by
 refine⟨fun b hb=>?_,List.pairwise_append.2 ⟨h.2,List.pairwise_singleton _ _,fun x hx y hy=>?_⟩⟩
 .rcases E4.1 hb with hb|hb
  .exact ho b (h.1 b hb)
  .rw[LD.1 hb];exact ha
 .rw[LD.1 hy]
  exact(hd x (h.1 x hx)).symm
def Sat.less {l l':List At} (h:Sat Z l) (hs:l'.Sublist l):Sat Z l':=⟨fun a ha=>h.1 a (hs.subset ha),h.2.sublist hs⟩
def Sat.perm {l l':List At} (h:Sat Z l) (hp:l.Perm l'):Sat Z l':=⟨fun a ha=>h.1 a (hp.mem_iff.2 ha),(hp.pairwise_iff (fun {_ _}=>apart.symm)).1 h.2⟩
def dw {l:List At} (h:Sat Z l) {n:Nat} (hn:Z n=none) {o:O}:Sat (Bd Z n o) (l++[.obj n o]):=by
 refine h.add (fun b hb=>E6 hb fun m hm=>?_) (fun b hb m hm hb'=>?_) (C2 _ _ _)
 .obtain⟨o,ho⟩:=Cq hb hm
  rw[CY];intro e;subst e;rw[hn]at ho;cases ho
 .cases hm
  obtain⟨o,ho⟩:=Cq hb hb';rw[hn]at ho;cases ho
def El {l:List At} (h:Sat Z l) (sz:Nat):Sat Z (l++[.own (.l [] true) sz []]):=
 h.add (fun _ hb=>hb) (fun b hb n hn=>by cases hn) (.inl ⟨rfl,fun _ h=>by cases h⟩)
def kP {l:List At} (h:Sat Z l) {sz:Nat} {es:List (List V)} (hs: ∀e∈es,e.length=sz):Sat Z (l++[.own (.l es true) sz es]):=
 h.add (fun _ hb=>hb) (fun b hb n hn=>by cases hn) (.inl ⟨rfl,hs⟩)
def po {l:List At} (h:Sat Z l) {i n:Nat} {o:O} (hi:l[i]? =some (.obj n o)) (o':O):Sat (Bd Z n o') (l.set i (.obj n o')):=by
 refine h.change hi (fun b hb ha=>E6 hb fun m hm=>?_) (fun b hb ha m hm=>ha m hm) (C2 _ _ _);rw[CY];intro e;subst e;exact ha m rfl hm
def Hv {l:List At} (h:Sat Z l) (i:Nat) {n off sz:Nat} {vs vc:List V} {x:V} {K:AE->Prop} (hi:l[i]? =some (.box n vs)) (hc:cellsOf x=some vc) (hl:vc.length=sz) (h1:vc.all CC=true) (ho:off+sz<=vs.length)
    (hk: ∀Z',Sat Z' (l.set i (.box n (putAt vs off vc)))->K Z'):AT Z sz (.p n off) x K:=by
 unfold AT;rw[hc];refine⟨hl,h1,?_⟩;have:=h.get hi;simp only[At.ok]at this;simp only[this];exact⟨ho,hk _ (po h hi _)⟩
def U6 {l:List At} (h:Sat Z l) (i:Nat) {n off:Nat} {agg:Option Nat} {vs:List V} {K:V->Prop} (hi:l[i]? =some (.box n vs)) (hk:cut agg vs off K):AX Z agg (.p n off) K:=by
 have:=h.get hi;simp only[At.ok]at this;simp only[AX,PA,this];exact hk
def hAppend {l:List At} (h:Sat Z l) (i:Nat) {v:V} {sz:Nat} {es ys:List (List V)} {f:Bool} {K:V->AE->Prop} (hi:l[i]? =some (.own v sz es)) {b:Nat} (hl:es.length+ys.length<=AY/\(es.length+ys.length)*b<=140737488355328) (hys: ∀e∈ys,e.length=sz) (ho: ∀e∈ys,∀v∈e,CC v=true)
    (hk: ∀v' Z',Sat Z' (l.set i (.own v' sz (es++ys)))->K v' Z'):AJ b Z sz v (.l ys f) K:=by
 refine⟨hys,ho,?_⟩;rcases h.get hi with⟨rfl,hel⟩|⟨n,cap,rfl,hn⟩
 .refine⟨hel,hl,fun e=>hk _ _ ?_,fun _=>⟨rfl,fun n cap hn hc=>hk _ _ ?_⟩⟩
  .subst e
   exact h.change hi (fun _ hb _=>hb) (fun _ _ ha=>ha) (.inl ⟨by simp,by simpa using hel⟩)
  .refine h.change hi (fun b hb _=>E6 hb fun m hm=>?_) (fun b hb _ m hm hb'=>?_) (.inr ⟨n,cap,by simp,by simp[Bd]⟩)
   .obtain⟨o,ho⟩:=Cq hb hm
    rw[CY];intro e;subst e;rw[hn]at ho;cases ho
   .cases hm
    obtain⟨o,ho⟩:=Cq hb hb';rw[hn]at ho;cases ho
 .simp only
  rw[hn];refine⟨rfl,rfl,rfl,hl,fun n' cap' hn' _=>hk _ _ ?_⟩;refine h.change hi (fun b hb ha=>E6 hb fun m hm=>?_) (fun b hb ha m hm hb'=>?_) (.inr ⟨n',cap',by simp,by simp[Bd]⟩)
  .have hmn:m≠n:=fun e=>by subst e;exact ha m rfl hm
   obtain⟨o,ho⟩:=Cq hb hm;have hmn':m≠n':=fun e=>by subst e;rw[G0 _ hmn,ho]at hn';cases hn'
   rw[CY _ _ hmn',G0 _ hmn]
  .cases hm
   have hmn:n'≠n:=fun e=>by subst e;exact ha n' rfl hb'
   obtain⟨o,ho⟩:=Cq hb hb';rw[G0 _ hmn,ho]at hn';cases hn'
def yM {l:List At} (h:Sat Z l) {sz:Nat} {z:List V} {n:Nat} {K:V->AE->Prop} (hn:n<=1073741824) (hk: ∀v Z',Sat Z' (l++[.own v sz (List.replicate n z)])->(∃id,v= .sl id n n)->K v Z') {ki kj:IntKind} :
    AK Z sz z (.i ki (n:Int)) (.i kj (n:Int)) K:=by
 refine⟨by omega,by omega,by omega,fun id hid=>?_⟩;simp only[JP];refine hk _ _ (h.add (fun b hb=>E6 hb fun m hm=>?_) (fun b hb m hm hb'=>?_) (.inr ⟨id,n,by simp,by simp[Bd]⟩)) ⟨id,rfl⟩
 .obtain⟨o,ho⟩:=Cq hb hm
  rw[CY];intro e;subst e;rw[hid]at ho;cases ho
 .cases hm
  obtain⟨o,ho⟩:=Cq hb hb';rw[hid]at ho;cases ho
def Ep {agg:Option Nat} {cs:List V} {K:V->Prop} (h:cut agg cs 0 K):AX Z agg (.rp cs) K:=h
def J6 {es:List (List V)} {f:Bool} {K:V->Prop} (h:K (.i .i64 es.length)):A4 (.l es f) K:=h
def Gq {l:List At} (h:Sat Z l) (i:Nat) {v:V} {sz:Nat} {es:List (List V)} (hi:l[i]? =some (.own v sz es)):CC v=true:=by
 rcases h.get hi with⟨rfl,_⟩|⟨n,cap,rfl,hn⟩<;>rfl
@[simp] theorem AAC {es:List (List V)} {f:Bool}:CC (.l es f)=true:=rfl
@[simp] theorem AAD {k:IntKind} {n:Int}:CC (.i k n)=true:=rfl
@[simp] theorem AAF {b:Bool}:CC (.b b)=true:=rfl
@[simp] theorem AAA {n o:Nat}:CC (.p n o)=true:=rfl
@[simp] theorem yC {cs:List V}:CC (.rp cs)=true:=rfl
@[simp] theorem AAB {n:Nat}:CC (.m n)=true:=rfl
@[simp] theorem AAE {fn:Fn} {a b:List V}:CC (.f fn a b)=true:=rfl
@[simp] theorem yB {a b c:Nat}:CC (.sl a b c)=true:=rfl
@[simp] theorem yD:CC .pn=true:=rfl
@[simp] theorem yE:CC .mn=true:=rfl
@[simp] theorem vo:CC .DZ=true:=rfl
@[simp] theorem xl {t:TypeId} {v:V}:CC (.Ey t v)=true:=rfl
def dH {v:V} (h:CC v=true):cellsOf v=some [v]:=by cases v<;>first|rfl|cases h
def Lh {l:List At} (h:Sat Z l) (i:Nat) {n off:Nat} {vs:List V} {x:V} {K:AE->Prop} (hi:l[i]? =some (.box n vs)) (h1:CC x=true) (ho:off+1<=vs.length)
    (hk: ∀Z',Sat Z' (l.set i (.box n (vs.set off x)))->K Z'):AT Z 1 (.p n off) x K:=
 Hv h i hi (dH h1) rfl (by simp[h1]) ho hk
def Sat.GW {l:List At} (h:Sat Z l) (i:Nat) {v:V} {sz:Nat} {es:List (List V)} (hi:l[i]? =some (.own v sz es)):Ez Z emp v (.l es false):=(h.get hi).GW
def Sat.ye {l:List At} (h:Sat Z l) (i:Nat) {n:Nat} {vs vs':List V} (hi:l[i]? =some (.box n vs)) (hf:DA Z emp vs vs'):Ez Z emp (.p n 0) (.rp vs'):= .cs (h.get hi) rfl hf
def IZ {l:List At} (h:Sat Z l) (i:Nat) {v:V} {sz:Nat} {es:List (List V)} (hi:l[i]? =some (.own v sz es)): ∃Z2,Sub Z2 Z/\Ez Z Z2 v (.l es false)/\Sat Z2 (l.eraseIdx i):=by
 rcases h.get hi with⟨rfl,_⟩|⟨n,cap,rfl,hn⟩
 .exact⟨Z,fun _ _ h=>h,.l (fun h=>(by cases h)) (.refl _ _ _),h.less (List.eraseIdx_sublist _ _)⟩
 .refine⟨del Z n,Fo Z n,.arr hn (DL Z n) rfl (.refl _ _ _),?_⟩
  refine⟨fun b hb=>?_,h.2.sublist (List.eraseIdx_sublist _ _)⟩;refine E6 (h.1 b (List.mem_of_mem_eraseIdx hb)) fun m hm=>?_
  rw[G0];intro e;subst e;exact Ew h.2 hi b hb m rfl hm
def Gg {v vf:V} {Z2:AE} {Q:R->AE->Prop} (hs:Sub Z2 Z) (hf:Ez Z Z2 v vf) (hq:Q (.ret vf) Z2):Aq Z v Q:=⟨vf,Z2,hs,hf,hq⟩
def Ak {l l':List At} (h:Sat Z l) (hl:l'.Sublist l) {v vf:V} {Q:R->AE->Prop} (hf:Ez Z Z v vf) (hq: ∀Z',Sat Z' l'->Q (.ret vf) Z'):Aq Z v Q:=⟨vf,Z,fun _ _ h=>h,hf,hq Z (h.less hl)⟩
def pq {l:List At} (h:Sat Z l) (i:Nat) {v:V} {sz:Nat} {es:List (List V)} (hi:l[i]? =some (.own v sz es)) {K:V->AE->Prop} (hk: ∀Z',Sat Z' (l.eraseIdx i)->K (.l es false) Z'): ∃vf Z2,Sub Z2 Z/\Ez Z Z2 v vf/\K vf Z2:=by
 obtain⟨Z2,h1,h2,h3⟩:=IZ h i hi;exact⟨_,Z2,h1,h2,hk Z2 h3⟩
def wP {l:List At} (h:Sat Z l) (i:Nat) {v:V} {sz:Nat} {es:List (List V)} (hi:l[i]? =some (.own v sz es)) (hm:es.length<=AY) {K:V->Prop} (hk:K (.i .i64 es.length)):A4 v K:=by
 rcases h.get hi with⟨rfl,_⟩|⟨n,cap,rfl,hn⟩
 .exact hk
 .exact⟨hm,hk⟩
def FA (v:V) (sz j:Nat):V:=match v with| .sl n _ _=> .pe n sz j 0| .l es _=> .rp (es.getD j [])|_=> .pn
def dd {l:List At} (h:Sat Z l) (i:Nat) {v:V} {sz:Nat} {es:List (List V)} {ki:IntKind} {j:Int} (k:Nat) (hi:l[i]? =some (.own v sz es)) (hj:j=k) (hlt:k<es.length) {K:V->Prop} (hk:K (FA v sz k)) :
    AR sz none v (.i ki j) K:=by
 subst hj;rcases h.get hi with⟨rfl,hel⟩|⟨n,cap,rfl,hn⟩
 .refine⟨Int.natCast_nonneg k,es[k],by simp[hlt],hel _ (List.getElem_mem hlt),?_⟩
  simpa[FA,hlt]using hk
 .exact⟨Int.natCast_nonneg k,by omega,by simpa[FA]using hk⟩
def H0 {l:List At} (h:Sat Z l) (i:Nat) {v:V} {sz k:Nat} {es:List (List V)} {e:List V} {agg:Option Nat} (hi:l[i]? =some (.own v sz es)) (he:es[k]? =some e) {K:V->Prop} (hk:cut agg e 0 K):AX Z agg (FA v sz k) K:=by
 rcases h.get hi with⟨rfl,_⟩|⟨n',cap',rfl,hn⟩
 .simp only[FA,AX,DH,he]
  exact hk
 .simp only[FA,AX,PB,hn,he]
  exact⟨trivial,hk⟩
def MA {l : List At} (h:Sat Z l) (i:Nat) {v x:V} {sz k:Nat} {es:List (List V)} {e vc:List V} (hi:l[i]? =some (.own v sz es)) (he:es[k]? =some e) (hc:cellsOf x=some vc) (hl:vc.length=sz) (h1:vc.all CC=true) (hel:e.length=sz) (hv:(Be v).isSome=true) {K:AE->Prop}
    (hk: ∀Z',Sat Z' (l.set i (.own v sz (es.set k vc)))->K Z'):AT Z sz (FA v sz k) x K:=by
 rcases h.get hi with⟨rfl,_⟩|⟨n,cap,rfl,hn⟩
 .cases hv
 .unfold AT
  rw[hc];refine⟨hl,h1,?_⟩;simp only[FA,hn,he];refine⟨trivial,by omega,hk _ ?_⟩
  have hput: ∀(vs vc:List V),vc.length=vs.length->putAt vs 0 vc=vc:=by
   have gen: ∀(vc pre vs:List V),vc.length=vs.length->putAt (pre++vs) pre.length vc=pre++vc:=by
    intro vc
    induction vc with
    | nil=>intro pre vs hl;cases vs with
      | nil=>rfl
      | cons _ _=>cases hl
    | cons x vc ih=>
      intro pre vs hl;cases vs with
      | nil=>cases hl
      | cons y vs=>
        simp only[putAt];rw[List.set_append_right _ _ (Io _),Nat.sub_self,List.set_cons_zero];have:=ih (pre++[x]) vs (by simpa using hl);simp only[RQ,LF,List.length_nil,Gj,Wx,List.singleton_append]at this;exact this
   intro vs vc hl;exact gen vc [] vs hl
  rw[hput e vc (by omega)];refine h.change hi (fun b hb ha=>E6 hb fun m hm=>?_) (fun b hb ha m hm=>ha m hm) (.inr ⟨n,cap,by simp,by simp[Bd]⟩);rw[CY];intro e;subst e;exact ha m rfl hm
def Jc {l:List At} (h:Sat Z l) (i:Nat) {n:Nat} {kvs:List (V×V)} {ks:KS} {z vk:V} {ok:Bool} (hi:l[i]? =some (.map n kvs)) (hk:BN ks vk=true) (hks: ∀kv∈kvs,BN ks kv.1=true) {K:V->Prop} (h':K (found z ok (CZ vk kvs))) :
    AM Z ks z ok (.m n) vk K:=by
 refine⟨hk,?_⟩;have:=h.get hi;simp only[At.ok]at this;simp only[this];exact⟨hks,h'⟩
def Jb {l:List At} (h:Sat Z l) (i:Nat) {n:Nat} {kvs:List (V×V)} {ks:KS} {vk vv:V} (hi:l[i]? =some (.map n kvs)) (hk:BN ks vk=true) (hks: ∀kv∈kvs,BN ks kv.1=true) {K:AE->Prop}
    (h': ∀Z',Sat Z' (l.set i (.map n (DV vk vv kvs)))->K Z'):AN Z ks (.m n) vk vv K:=by
 refine⟨hk,?_⟩;have:=h.get hi;simp only[At.ok]at this;simp only[this];exact⟨hks,h' _ (po h hi _)⟩
def Bc (P:Program) (f:FuncId) (args:List V) (pre:List At) (Φ:R->List At->Prop):Prop:= ∀Z,Sat Z pre->A3 P f args Z fun r Z'=> ∃post,Φ r post/\Sat Z' post
def lh {a:At} {Z1 τ:AE} (h:a.ok Z1):a.ok (join Z1 τ):=E6 h fun n hn=>by
 obtain⟨o,ho⟩:=Cq h hn;simp[join,ho]
def Bc.use {f:FuncId} {args:List V} {pre rest:List At} {Φ:R->List At->Prop} (h:Bc P f args pre Φ) (hs:Sat Z (pre++rest)) {Q:R->AE->Prop} (hk: ∀r post Z',Φ r post->Sat Z' (post++rest)->Q r Z'):A3 P f args Z Q:=by
 have hpre:Sat Z pre:=hs.less (List.sublist_append_left _ _);have hrest:Sat Z rest:=hs.less (List.sublist_append_right _ _);have hap:=(List.pairwise_append.1 hs.2).2.2
 let D:Nat->Prop:=fun n=> ∀b∈rest,b.vd≠some n
 have h1:Sat (GX Z D) pre:=⟨fun a ha=>E6 (hpre.1 a ha) fun n hn=>DK fun b hb=>hap a ha b hb n hn,hpre.2⟩
 refine A3.mono (A3.frame D (h _ h1)) fun r Z' ⟨Z1,⟨post,hp,hsp⟩,hfr,he⟩=>hk r post Z' hp ?_
 subst he
 have hrn: ∀b∈rest,∀n,b.vd=some n->Z1 n=none/\GX Z (fun n=> ¬D n) n=Z n:=fun b hb n hn=>by
  have hnd: ¬D n:=fun h=>h b hb hn
  obtain⟨o,ho⟩:=Cq (hrest.1 b hb) hn;exact⟨hfr n hnd (by rw[ho];simp),DK hnd⟩
 refine⟨fun a ha=>?_,List.pairwise_append.2 ⟨hsp.2,hrest.2,fun a ha b hb n hn hb'=>?_⟩⟩
 .rcases E4.1 ha with ha|ha
  .exact lh (hsp.1 a ha)
  .refine E6 (hrest.1 a ha) fun n hn=>?_
   obtain⟨k1,k2⟩:=hrn a ha n hn;simp only[join,k1,k2]
 .obtain⟨o,ho⟩:=Cq (hsp.1 a ha) hn
  rw[(hrn b hb n hb').1]at ho;cases ho
def O0:List (Nat×V)->Env->Env
 | _,[]=>[]
 | f,(k,v)::r=>(k,(get k f).getD v)::O0 f r
def sk:List (Nat×V)->Env->(Env->Prop)->Prop
 | _,[],k=>k []
 | f,(n,v)::r,k=>match get n f with
   | some u=>sk f r fun e=>k ((n,u)::e)
   | none=>sk f r fun e=>k ((n,v)::e)
def U3 {f:List (Nat×V)}: ∀ {E:Env} {k:Env->Prop},sk f E k=k (O0 f E)
 | [],_=>rfl
 | (n,v)::r,k=>by
   simp only[sk,O0];cases get n f with
   | none=>exact U3 (E:=r)
   | some u=>exact U3 (E:=r)
def B0 {l:List Nat} {a:AV} {Q:Aa->Env->AE->Prop} {E:Env} (len:Nat) {X:Type} (f:Nat->X->List (Nat×V)) (H:Nat->X->List At) (Φ:Nat->X->Prop) (x0:X) (h0:E=O0 (f 0 x0) E) (hΦ:Φ 0 x0) (hs:Sat Z (H 0 x0))
    (h: ∀k x Z,k<=len->Φ k x->Sat Z (H k x)->sk (f k x) E fun E1=>W P a (Aa.andThen (fun env' Z'=>pk l env' fun E'=>k<len/\ ∃x',E'=O0 (f (k+1) x') E/\Φ (k+1) x'/\Sat Z' (H (k+1) x')) Q) E1 Z):ei P l a Q E Z:=by
 refine upW len (fun k env' Z'=> ∃x,env'=O0 (f k x) E/\Φ k x/\Sat Z' (H k x)) ⟨x0,h0,hΦ,hs⟩ ?_;rintro k _ Z hk ⟨x,rfl,h1,h2⟩;have:=h k x Z hk h1 h2;rw[U3]at this;exact this
def Dz {l:List Nat} {a:AV} {Q:Aa->Env->AE->Prop} {E:Env} {X:Type} (μ:X->Nat) (f:X->List (Nat×V)) (H:X->List At) (Φ:X->Prop) (x0:X) (h0:E=O0 (f x0) E) (hΦ:Φ x0) (hs:Sat Z (H x0))
    (h: ∀x Z,Φ x->Sat Z (H x)->sk (f x) E fun E1=>W P a (Aa.andThen (fun env' Z'=>pk l env' fun E'=> ∃x',μ x'<μ x/\E'=O0 (f x') E/\Φ x'/\Sat Z' (H x')) Q) E1 Z):ei P l a Q E Z:=by
 refine⟨fun n env Z=> ∃x,n=μ x/\env=O0 (f x) E/\Φ x/\Sat Z (H x),⟨_,x0,rfl,h0,hΦ,hs⟩,?_⟩;rintro n _ Z ⟨x,rfl,rfl,h1,h2⟩;have h:=h x Z h1 h2;rw[U3]at h;refine gW h fun ex env' Z' hq=>?_
 cases ex with
 | normal=>
   simp only[Aa.andThen]at *;rw[Fi]at *;obtain⟨x',k1,k2⟩:=hq;exact⟨_,k1,x',rfl,k2⟩
 | exit id=>exact hq
 | ret=>exact hq
 | Bb v=>exact hq
def Rf {K A:Env->AE->Prop} {lx:List Nat} (U: ∀env Z,(pk lx env fun E=>A E Z)->K env Z) {AB:Type} (fJ:AB->List (Nat×V)) (HJ:AB->List At) (ΦJ:AB->Prop) (EJ:Env)
    (hJ: ∀y Z,ΦJ y->Sat Z (HJ y)->sk (fJ y) EJ fun E1=>A E1 Z): ∀y env Z,(pk lx env fun E=>E=O0 (fJ y) EJ)->ΦJ y->Sat Z (HJ y)->K env Z:=by
 intro y env Z he h1 h2;apply U;rw[Fi]at *;have:=hJ y Z h1 h2;rw[U3,<-he]at this;exact this
end Go.Gl
namespace Go.Gl
def Sn:Sat emp []:=Sat.nil
def Mx:AY=17592186044416:=rfl
end Go.Gl
namespace Go.Gl
open Go.ChangeShapes Go.WideShapes Go.ChangeAt Go.RowKit
variable {P:Program}
def jc {f:FuncId} {args:List V} {v:V} (h:Pure P f args v) {w:World} {cs:Array Value} (hc:dg (Hh (fun _=>False) emp w) args cs) :
    Calls P f cs w fun e w'=>(∃c,e= .returned c/\Ab (Hh (fun _=>False) emp w') v c)/\Bu (fun _=>False) emp w emp w':=by
 refine Calls.mono (h.2 (fun _=>False) w cs (ZI _ fun _ h=>h.elim) hc) fun e w' ⟨r,Z',⟨h1,h2⟩,h3,_,h4⟩=>?_
 subst h1;subst h2;exact⟨h3,h4⟩
end Go.Gl
namespace Go.Gl
variable {P:Program} {Z:AE} {env:Env}
abbrev iL (xs:List Int):List (List V):=xs.map fun x=>[.i .i64 x]
abbrev Ee (ls:List (List Int)):List (List V):=ls.map fun l=>[.l (iL l) false]
abbrev bL (xs:List Bool):List (List V):=xs.map fun x=>[.b x]
def Em {α:Type} (enc:α->List V) (sz:Nat):Prop:= ∀x,(enc x).length=sz/\ ∀v∈enc x,CC v=true
def BZ:Em (fun x:Int=>[V.i .i64 x]) 1:=fun x=>⟨rfl,fun v hv=>by simp at hv;subst hv;rfl⟩
def C3:Em (fun l:List Int=>[V.l (iL l) false]) 1:=fun x=>⟨rfl,fun v hv=>by simp at hv;subst hv;rfl⟩
def On:Em (fun x:Bool=>[V.b x]) 1:=fun x=>⟨rfl,fun v hv=>by simp at hv;subst hv;rfl⟩
def C4 {α:Type} {enc:α->List V} {sz:Nat} (hg:Em enc sz) (xs:List α):(∀e∈xs.map enc,e.length=sz)/\ ∀e∈xs.map enc,∀v∈e,CC v=true:=by
 refine⟨fun e he=>?_,fun e he=>?_⟩<;>obtain⟨x,_,rfl⟩:=Mg.1 he
 .exact(hg x).1
 .exact(hg x).2
def xJ {α:Type} {enc:α->List V} {sz:Nat} {xs ys:List α} {f g:Bool} {K:V->Prop} (hg:Em enc sz) {b:Nat} (hl:xs.length+ys.length<=AY/\(xs.length+ys.length)*b<=140737488355328) (hf:f=true) (hk:K (.l ((xs++ys).map enc) false)):Ad b Z sz (.l (xs.map enc) f) (.l (ys.map enc) g) K:=by
 obtain⟨h1,h2⟩:=C4 hg ys;refine⟨h1,h2,(C4 hg xs).1,by simpa using hl,fun _=>hf,?_⟩;rw[<-Uf];exact hk
def ff {α:Type} {enc:α->List V} {sz:Nat} {ys:List α} {g:Bool} {K:V->Prop} (hg:Em enc sz) {b:Nat} (hl:ys.length<=AY/\ys.length*b<=140737488355328) (hk:K (.l (ys.map enc) false)):Ad b Z sz (.l [] true) (.l (ys.map enc) g) K:=
 xJ (xs:=[]) hg (by simpa using hl) rfl hk
def Fj {l:List At} (h:Sat Z l) (i:Nat) {α:Type} {enc:α->List V} {sz:Nat} {xs:List α} {x:α} {v:V} {f:Bool} {e:List V} {K:V->AE->Prop} (hi:l[i]? =some (.own v sz (xs.map enc))) {b:Nat} (hl:xs.length<AY/\(xs.length+1)*b<=140737488355328) (hg:Em enc sz)
    (hk: ∀v' Z',Sat Z' (l.set i (.own v' sz ((xs++[x]).map enc)))->K v' Z') (he:e=enc x:=by rfl):AJ b Z sz v (.l [e] f) K:=by
 subst he;refine hAppend h i hi (by simp;omega) (fun e he=>by simp at he;subst he;exact(hg x).1) (fun e he=>by simp at he;subst he;exact(hg x).2) fun v' Z' hs=>hk v' Z' ?_
 rw[Uf];exact hs
def F9 {l:List At} (h:Sat Z l) (i:Nat) {α:Type} {enc:α->List V} {sz:Nat} {xs ys:List α} {v:V} {f:Bool} {K:V->AE->Prop} (hi:l[i]? =some (.own v sz (xs.map enc))) {b:Nat} (hl:xs.length+ys.length<=AY/\(xs.length+ys.length)*b<=140737488355328) (hg:Em enc sz)
    (hk: ∀v' Z',Sat Z' (l.set i (.own v' sz ((xs++ys).map enc)))->K v' Z'):AJ b Z sz v (.l (ys.map enc) f) K:=by
 obtain⟨h1,h2⟩:=C4 hg ys;refine hAppend h i hi (by simpa using hl) h1 h2 fun v' Z' hs=>hk v' Z' ?_
 rw[Uf];exact hs
def EC {l:List At} (h:Sat Z l) (i:Nat) {v:V} {sz:Nat} {es:List (List V)} (hi:l[i]? =some (.own v sz es)) {vf:V} (he:V.l es false=vf):Aq Z v (fun r Z'=>r= .ret vf/\Z'=emp):=
 Ap (he ▸ h.GW i hi)
def AL {α:Type} {xs:List α} {k:Nat} {x:α} (h:xs[k]? =some x):xs.take (k+1)=xs.take k++[x]:=by
 rw[List.take_add_one,h];rfl
def Uy {α:Type} {enc:α->List V} {xs:List α} {f:Bool} {sz:Nat} {K:V->Prop} {ki:IntKind} {j:Int} (k:Nat) {x:α} (hx:xs[k]? =some x) (hj:j=k) (hs:(enc x).length=sz) (h:K (.rp (enc x))) :
    AR sz none (.l (xs.map enc) f) (.i ki j) K:=by
 subst hj;refine⟨Int.natCast_nonneg k,enc x,?_,hs,h⟩;rw[JP,Md,hx];rfl
def mr {α:Type} {enc:α->List V} {xs:List α} {k:Nat} {A B:Prop} (hk:k<=xs.length) (h1: ∀x,xs[k]? =some x->k<xs.length->A) (h2:k=xs.length->B) :
    (decide ((k:Int)<((xs.map enc).length:Nat))=true->A)/\(decide ((k:Int)<((xs.map enc).length:Nat))=false->B):=
 fork (fun h=>by
  have hlt:=fU h
  exact h1 _ (Cy hlt) hlt) fun h=>h2 (Zx hk h)
def LP (a:Int):Nat->Int
 | 0=>a
 | k+1=>IntKind.i64.wrap (LP a k+1)
abbrev A8 (k:Nat):Int:=LP 0 k
def Ot {a:Int} (ha: -4611686018427387904<=a): ∀ {k:Nat},a+k<=4611686018427387904->LP a k=a+k
 | 0,_=>by simp[LP]
 | k+1,h=>by
   rw[LP,Ot ha (by omega),wrap64 (by omega) (by omega)];omega
def AO {k:Nat} (h:k<=AY+8):A8 k=k:=by
 rw[A8,Ot (by omega) (by simp only[AY]at h;omega)];omega
def OQ (a:Int):Nat->Int
 | 0=>a
 | k+1=>IntKind.i64.wrap (OQ a k - 1)
def UC {a:Int} (ha:a<=4611686018427387904): ∀ {k:Nat},-4611686018427387904<=a - k->OQ a k=a - k
 | 0,_=>by simp[OQ]
 | k+1,h=>by
   rw[OQ,UC ha (by omega),wrap64 (by omega) (by omega)];omega
def GD {α:Type} {enc:α->List V} {xs:List α} {k:Nat} {A B:Prop} (hk:k<=xs.length) (hm:xs.length<=AY) (h1: ∀x,xs[k]? =some x->k<xs.length->A) (h2:k=xs.length->B) :
    (decide (A8 k<((xs.map enc).length:Nat))=true->A)/\(decide (A8 k<((xs.map enc).length:Nat))=false->B):=by
 rw[AO (by omega)];exact mr hk h1 h2
def I2 {α:Type} {enc:α->List V} {xs:List α} {f:Bool} {sz:Nat} {K:V->Prop} {ki:IntKind} {k:Nat} {x:α} (hx:xs[k]? =some x) (hm:xs.length<=AY) (hs:(enc x).length=sz) (h:K (.rp (enc x))) :
    AR sz none (.l (xs.map enc) f) (.i ki (A8 k)) K:=
 Uy k hx (AO (by have:=(IN.1 hx).1;omega)) hs h
def Au {α:Type} {xs:List α} {k:Nat} (h:k=xs.length):xs.take k=xs:=by rw[h,List.take_length]
class RC {α:Type} (enc:α->List V):Prop where
 h: ∀x,jr (enc x)=false
instance {α:Type} (g:α->Int):RC (fun x=>[V.i .i64 (g x)]):=⟨fun _=>rfl⟩
instance {α:Type} (g:α->List (List V)) (b:α->Bool):RC (fun x=>[V.l (g x) (b x)]):=⟨fun _=>rfl⟩
instance {α:Type} (g k:α->V) (t:α->List V):RC (fun x=>g x::k x::t x):=⟨fun _=>rfl⟩
end Go.Gl
namespace Go.Gl
structure Qz where
 parents:List Int
 AG:List Int
 inits:List (Int×Int)
 deriving DecidableEq,Inhabited
structure Node where
 op:Int
 n:Int
 kids:List Int
 deriving DecidableEq,Inhabited
inductive Fact where
 | mk (op arg:Int) (path:List Int) (cls n:Int) (kids:List Fact)
 deriving Inhabited
namespace Fact
def op:Fact->Int|mk o _ _ _ _ _=>o
def arg:Fact->Int|mk _ a _ _ _ _=>a
def path:Fact->List Int|mk _ _ p _ _ _=>p
def cls:Fact->Int|mk _ _ _ c _ _=>c
def n:Fact->Int|mk _ _ _ _ n _=>n
def kids:Fact->List Fact|mk _ _ _ _ _ k=>k
mutual
def Hp {α:Type} (g:Fact->List α->α):Fact->α
 | .mk o a p c n k=>g (.mk o a p c n k) (Y2 g k)
 termination_by structural f=>f
def Y2 {α:Type} (g:Fact->List α->α):List Fact->List α
 | []=>[]
 | x::r=>Hp g x::Y2 g r
 termination_by structural l=>l
end
def jY {α:Type} (g:Fact->List α->α) (l:List Fact):Y2 g l=l.map (Hp g):=by
 induction l with
 | nil=>rfl
 | cons x r ih=>simp[Y2,ih]
def Du {α:Type} (g:Fact->List α->α) (f:Fact):Hp g f=g f (f.kids.map (Hp g)):=by
 cases f with
 | mk o a p c n k=>simp[Hp,jY,kids]
def ind {motive:Fact->Prop} (h: ∀f,(∀k∈f.kids,motive k)->motive f) (f:Fact):motive f:=by
 refine Fact.rec (motive_1:=motive) (motive_2:=fun l=> ∀k∈l,motive k) (fun o a p c n k ih=>h _ ih) (fun _ h=>by cases h) (fun x r hx hr k hk=>?_) f;rcases Fm.1 hk with rfl|hk
 .exact hx
 .exact hr k hk
def size (f:Fact):Nat:=Hp (fun f l=>1+f.path.length+f.kids.length+l.sum) f
end Fact
structure OT where
 kind:Int
 gen:Int
 fact:Fact
 node:Int
 deriving Inhabited
structure Prog where
 AH:List Qz
 AG:Int
 Br:List Int
 methods:List OT
 nodes:List Node
 main:Int
 deriving Inhabited
structure AI where
 parents:List (List Int)
 owner:List Int
 deriving DecidableEq,Inhabited
abbrev eI (n:Int):V:= .i .i64 n
def Q6 (c:Qz):List V:=[.l (iL c.parents) false,.l (iL c.AG) false,.l (c.inits.map fun p=>[eI p.1,eI p.2]) false]
def Ig (x:Node):List V:=[eI x.op,eI x.n,.l (iL x.kids) false]
def GB (f:Fact):List V:=f.Hp fun f l=>[eI f.op,eI f.arg,.l (iL f.path) false,eI f.cls,eI f.n,.l l false]
abbrev xF (f:Fact):List V:=[eI f.op,eI f.arg,.l (iL f.path) false,eI f.cls,eI f.n,.l (f.kids.map GB) false]
def BV (f:Fact):GB f=xF f:=Fact.Du _ f
abbrev facts (l:List Fact):List (List V):=l.map GB
def Y0 (m:OT):List V:=[eI m.kind,eI m.gen,eI m.fact.op,eI m.fact.arg,.l (iL m.fact.path) false,eI m.fact.cls,eI m.fact.n,.l (facts m.fact.kids) false,eI m.node]
def A9 (p:Prog):List V:=[.l (p.AH.map Q6) false,eI p.AG,.l (iL p.Br) false,.l (p.methods.map Y0) false,.l (p.nodes.map Ig) false,eI p.main]
instance :RC Q6:=⟨fun _=>rfl⟩
instance :RC Ig:=⟨fun _=>rfl⟩
instance :RC GB:=⟨fun x=>by rw[BV];rfl⟩
instance :RC Y0:=⟨fun _=>rfl⟩
def A1 (w:AI):List V:=[.l (Ee w.parents) false,.l (iL w.owner) false]
end Go.Gl
