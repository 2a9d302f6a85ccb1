import Derived.Test.YtegbmnmnaijioaaGreatL5
import Derived.Test.YtegbmnmnaijioaaGreatL15
set_option linter.all false
set_option linter.defProp false
noncomputable section
namespace Go.Gl
def F2 {α β:Type} (R:α->β->Prop):List α->List β->Prop
 | [],l=>l= []
 | x::xs,l=> ∃y ys,R x y/\F2 R xs ys/\l=y::ys
section
variable {α β:Type} {R R':α->β->Prop}
def F2.nil:F2 R [] []:=rfl
def F2.cons {x:α} {y:β} {xs:List α} {ys:List β} (h:R x y) (h':F2 R xs ys):F2 R (x::xs) (y::ys):=⟨y,ys,h,h',rfl⟩
def F2.len: ∀ {xs:List α} {ys:List β},F2 R xs ys->ys.length=xs.length
 | [],_,h=>by cases h;rfl
 | _::_,_,⟨_,_,_,h,e⟩=>by subst e;simp[F2.len h]
def F2.get: ∀ {xs:List α} {ys:List β},F2 R xs ys-> ∀ {i:Nat} {x:α},xs[i]? =some x-> ∃y,ys[i]? =some y/\R x y
 | x::xs,_,⟨y,ys,h1,h2,e⟩,i,z,hi=>by
   subst e;cases i with
   | zero=>simp at hi;subst hi;exact⟨y,by simp,h1⟩
   | succ i=>simp at hi;simpa using F2.get h2 hi
def F2.mono (hm: ∀x y,R x y->R' x y): ∀ {xs:List α} {ys:List β},F2 R xs ys->F2 R' xs ys
 | [],_,h=>h
 | _::_,_,⟨y,ys,h1,h2,e⟩=>⟨y,ys,hm _ _ h1,F2.mono hm h2,e⟩
def F2.app: ∀ {xs xs':List α} {ys ys':List β},F2 R xs ys->F2 R xs' ys'->F2 R (xs++xs') (ys++ys')
 | [],_,_,_,h,h'=>by cases h;exact h'
 | _::_,_,_,_,⟨y,ys,h1,h2,e⟩,h'=>by subst e;exact⟨y,ys++_,h1,F2.app h2 h',rfl⟩
def F2.take: ∀ {xs:List α} {ys:List β},F2 R xs ys-> ∀n,F2 R (xs.take n) (ys.take n)
 | [],_,h,n=>by cases h;simp;rfl
 | _::_,_,⟨y,ys,h1,h2,e⟩,n=>by
   subst e;cases n with
   | zero=>exact rfl
   | succ n=>exact⟨y,_,h1,F2.take h2 n,rfl⟩
def F2.drop: ∀ {xs:List α} {ys:List β},F2 R xs ys-> ∀n,F2 R (xs.drop n) (ys.drop n)
 | [],_,h,n=>by cases h;simp;rfl
 | _::_,_,⟨y,ys,h1,h2,e⟩,n=>by
   subst e;cases n with
   | zero=>exact⟨y,ys,h1,h2,rfl⟩
   | succ n=>exact F2.drop h2 n
def F2.set: ∀ {xs:List α} {ys:List β},F2 R xs ys-> ∀(i:Nat) {x:α} {y:β},R x y->F2 R (xs.set i x) (ys.set i y)
 | [],_,h,i,_,_,_=>by cases h;simp;rfl
 | _::_,_,⟨y,ys,h1,h2,e⟩,i,_,_,h=>by
   subst e;cases i with
   | zero=>exact⟨_,_,h,h2,rfl⟩
   | succ i=>exact⟨_,_,h1,F2.set h2 i h,rfl⟩
def F2.rep {x:α} {y:β} (h:R x y): ∀n,F2 R (List.replicate n x) (List.replicate n y)
 | 0=>rfl
 | n+1=>⟨y,_,h,F2.rep h n,rfl⟩
def F2.mem: ∀ {xs:List α} {ys:List β},F2 R xs ys-> ∀ {y:β},y∈ys-> ∃x,x∈xs/\R x y
 | [],_,h,y,hy=>by cases h;cases hy
 | x ::_,_,⟨z,zs,h1,h2,e⟩,y,hy=>by
   subst e;rcases Fq.1 hy with rfl|hy
   .exact⟨x,.head _,h1⟩
   .obtain⟨u,hu,hr⟩:=F2.mem h2 hy
    exact⟨u,.tail _ hu,hr⟩
def F2.fn (hf: ∀x y z,R x y->R x z->y=z): ∀ {xs:List α} {ys zs:List β},F2 R xs ys->F2 R xs zs->ys=zs
 | [],_,_,h,h'=>by cases h;cases h';rfl
 | _::_,_,_,⟨y,ys,h1,h2,e⟩,⟨z,zs,h3,h4,e'⟩=>by
   subst e;subst e';rw[hf _ _ _ h1 h3,F2.fn hf h2 h4]
end
abbrev Ren:=Nat->Option (Nat×Nat)
def Ren.le (ρ ρ':Ren):Prop:= ∀i m,ρ i=some m->ρ' i=some m
def Ren.le.refl (ρ:Ren):ρ.le ρ:=fun _ _ h=>h
def Ren.le.trans {a b c:Ren} (h:a.le b) (k:b.le c):a.le c:=fun i m e=>k i m (h i m e)
def Zu (ρ:Ren):Fn->Fn->Prop
 | .yield i,f=> ∃m,ρ i=some m/\f= .yield m.1
 | fn,f=>f=fn
mutual
def RV (ρ:Ren):V->V->Prop
 | .p n off,v=> ∃m,ρ n=some m/\v= .p m.1 off
 | .sl n len _,v=> ∃m,ρ n=some m/\v= .sl m.1 len m.2
 | .sv n sz off len,v=> ∃m,ρ n=some m/\v= .sv m.1 sz off len
 | .pe n sz i off,v=> ∃m,ρ n=some m/\v= .pe m.1 sz i off
 | .m n,v=> ∃m,ρ n=some m/\v= .m m.1
 | .rp cs,v=> ∃cs',RL ρ cs cs'/\v= .rp cs'
 | .l es f,v=> ∃es',RR ρ es es'/\v= .l es' f
 | .f fn first cap,v=> ∃fn' first' cap',Zu ρ fn fn'/\RL ρ first first'/\RL ρ cap cap'/\v= .f fn' first' cap'
 | .Eo t x,v=> ∃x',RV ρ x x'/\v= .Eo t x'
 | .a cs,v=> ∃cs',RL ρ cs cs'/\v= .a cs'
 | .t cs,v=> ∃cs',RL ρ cs cs'/\v= .t cs'
 | .b x,v=>v= .b x
 | .i k n,v=>v= .i k n
 | .s x,v=>v= .s x
 | .pn,v=>v= .pn
 | .mn,v=>v= .mn
 | .Kj,v=>v= .Kj
 | .DW,v=>v= .DW
 | .any,v=>v= .any
def RL (ρ:Ren):List V->List V->Prop
 | [],l=>l= []
 | x::xs,l=> ∃y ys,RV ρ x y/\RL ρ xs ys/\l=y::ys
def RR (ρ:Ren):List (List V)->List (List V)->Prop
 | [],l=>l= []
 | x::xs,l=> ∃y ys,RL ρ x y/\RR ρ xs ys/\l=y::ys
end
def BU {ρ:Ren}: ∀ {xs ys:List V},RL ρ xs ys↔F2 (RV ρ) xs ys
 | [],_=>by simp only[RL,F2]
 | x::xs,l=>by
   simp only[RL,F2];constructor
   .rintro⟨y,ys,h1,h2,rfl⟩;exact⟨y,ys,h1,BU.1 h2,rfl⟩
   .rintro⟨y,ys,h1,h2,rfl⟩;exact⟨y,ys,h1,BU.2 h2,rfl⟩
def FK {ρ:Ren}: ∀ {xs ys:List (List V)},RR ρ xs ys↔F2 (F2 (RV ρ)) xs ys
 | [],_=>by simp only[RR,F2]
 | x::xs,l=>by
   simp only[RR,F2];constructor
   .rintro⟨y,ys,h1,h2,rfl⟩;exact⟨y,ys,BU.1 h1,FK.1 h2,rfl⟩
   .rintro⟨y,ys,h1,h2,rfl⟩;exact⟨y,ys,BU.2 h1,FK.2 h2,rfl⟩
def Zu.mono {ρ ρ':Ren} (h:ρ.le ρ') {f g:Fn} (k:Zu ρ f g):Zu ρ' f g:=by
 cases f<;>first|exact k|exact⟨_,h _ _ k.choose_spec.1,k.choose_spec.2⟩
mutual
def RV.mono {ρ ρ':Ren} (h:ρ.le ρ'): ∀(v v':V),RV ρ v v'->RV ρ' v v'
 | .p _ _,_,k| .sl _ _ _,_,k| .sv _ _ _ _,_,k| .pe _ _ _ _,_,k| .m _,_,k=>by
   simp only[RV]at k ⊢;obtain⟨m,h1,h2⟩:=k;exact⟨m,h _ _ h1,h2⟩
 | .rp cs,_,k=>by
   simp only[RV]at k ⊢;obtain⟨c,h1,h2⟩:=k;exact⟨c,RL.mono h _ _ h1,h2⟩
 | .a cs,_,k=>by
   simp only[RV]at k ⊢;obtain⟨c,h1,h2⟩:=k;exact⟨c,RL.mono h _ _ h1,h2⟩
 | .t cs,_,k=>by
   simp only[RV]at k ⊢;obtain⟨c,h1,h2⟩:=k;exact⟨c,RL.mono h _ _ h1,h2⟩
 | .l es f,_,k=>by
   simp only[RV]at k ⊢;obtain⟨c,h1,h2⟩:=k;exact⟨c,RR.mono h _ _ h1,h2⟩
 | .f fn a b,_,k=>by
   simp only[RV]at k ⊢;obtain⟨g,c,d,h1,h2,h3,h4⟩:=k;exact⟨g,c,d,h1.mono h,RL.mono h _ _ h2,RL.mono h _ _ h3,h4⟩
 | .Eo t x,_,k=>by
   simp only[RV]at k ⊢;obtain⟨c,h1,h2⟩:=k;exact⟨c,RV.mono h _ _ h1,h2⟩
 | .b _,_,k| .i _ _,_,k| .s _,_,k| .pn,_,k| .mn,_,k| .Kj,_,k| .DW,_,k| .any,_,k=>by
   simp only[RV]at k ⊢;exact k
def RL.mono {ρ ρ':Ren} (h:ρ.le ρ'): ∀(l l':List V),RL ρ l l'->RL ρ' l l'
 | [],_,k=>by simp only[RL]at k ⊢;exact k
 | x::xs,_,k=>by
   simp only[RL]at k ⊢;obtain⟨y,ys,h1,h2,h3⟩:=k;exact⟨y,ys,RV.mono h _ _ h1,RL.mono h _ _ h2,h3⟩
def RR.mono {ρ ρ':Ren} (h:ρ.le ρ'): ∀(l l':List (List V)),RR ρ l l'->RR ρ' l l'
 | [],_,k=>by simp only[RR]at k ⊢;exact k
 | x::xs,_,k=>by
   simp only[RR]at k ⊢;obtain⟨y,ys,h1,h2,h3⟩:=k;exact⟨y,ys,RL.mono h _ _ h1,RR.mono h _ _ h2,h3⟩
end
def Zu.fn {ρ:Ren} {f g g':Fn} (h:Zu ρ f g) (k:Zu ρ f g'):g=g':=by
 cases f<;>first|(simp only[Zu]at h k;rw[h,k];done)|skip
 simp only[Zu]at h k;obtain⟨m,h1,rfl⟩:=h;obtain⟨m',h2,rfl⟩:=k;rw[h1]at h2;cases h2;rfl
mutual
def RV.fn {ρ:Ren}: ∀(v a b:V),RV ρ v a->RV ρ v b->a=b
 | .p _ _,_,_,k,k'| .sl _ _ _,_,_,k,k'| .sv _ _ _ _,_,_,k,k'| .pe _ _ _ _,_,_,k,k'| .m _,_,_,k,k'=>by
   simp only[RV]at k k';obtain⟨m,h1,rfl⟩:=k;obtain⟨m',h2,rfl⟩:=k';rw[h1]at h2;cases h2;rfl
 | .rp _,_,_,k,k'| .a _,_,_,k,k'| .t _,_,_,k,k'=>by
   simp only[RV]at k k';obtain⟨m,h1,rfl⟩:=k;obtain⟨m',h2,rfl⟩:=k';rw[RL.fn _ _ _ h1 h2]
 | .l _ _,_,_,k,k'=>by
   simp only[RV]at k k';obtain⟨m,h1,rfl⟩:=k;obtain⟨m',h2,rfl⟩:=k';rw[RR.fn _ _ _ h1 h2]
 | .f fn a b,_,_,k,k'=>by
   simp only[RV]at k k';obtain⟨g,c,d,h1,h2,h3,rfl⟩:=k;obtain⟨g',c',d',h1',h2',h3',rfl⟩:=k';rw[h1.fn h1',RL.fn _ _ _ h2 h2',RL.fn _ _ _ h3 h3']
 | .Eo t x,_,_,k,k'=>by
   simp only[RV]at k k';obtain⟨m,h1,rfl⟩:=k;obtain⟨m',h2,rfl⟩:=k';rw[RV.fn _ _ _ h1 h2]
 | .b _,_,_,k,k'| .i _ _,_,_,k,k'| .s _,_,_,k,k'| .pn,_,_,k,k'| .mn,_,_,k,k'| .Kj,_,_,k,k'| .DW,_,_,k,k'| .any,_,_,k,k'=>by
   simp only[RV]at k k';rw[k,k']
def RL.fn {ρ:Ren}: ∀(l a b:List V),RL ρ l a->RL ρ l b->a=b
 | [],_,_,k,k'=>by simp only[RL]at k k';rw[k,k']
 | x::xs,_,_,k,k'=>by
   simp only[RL]at k k';obtain⟨y,ys,h1,h2,rfl⟩:=k;obtain⟨z,zs,h3,h4,rfl⟩:=k';rw[RV.fn _ _ _ h1 h3,RL.fn _ _ _ h2 h4]
def RR.fn {ρ:Ren}: ∀(l a b:List (List V)),RR ρ l a->RR ρ l b->a=b
 | [],_,_,k,k'=>by simp only[RR]at k k';rw[k,k']
 | x::xs,_,_,k,k'=>by
   simp only[RR]at k k';obtain⟨y,ys,h1,h2,rfl⟩:=k;obtain⟨z,zs,h3,h4,rfl⟩:=k';rw[RL.fn _ _ _ h1 h3,RR.fn _ _ _ h2 h4]
end
def MC:Fn->Bool
 | .yield _=>false
 | _=>true
mutual
def BF:V->Bool
 | .p _ _=>false
 | .sl _ _ _=>false
 | .sv _ _ _ _=>false
 | .pe _ _ _ _=>false
 | .m _=>false
 | .rp cs=>B7 cs
 | .a cs=>B7 cs
 | .t cs=>B7 cs
 | .l es _=>QZ es
 | .f fn a b=>MC fn&&(B7 a&&B7 b)
 | .Eo _ x=>BF x
 | _=>true
def B7:List V->Bool
 | []=>true
 | x::xs=>BF x&&B7 xs
def QZ:List (List V)->Bool
 | []=>true
 | x::xs=>B7 x&&QZ xs
end
mutual
def RV.pure {ρ:Ren}: ∀(v:V),BF v=true->RV ρ v v
 | .p _ _,h| .sl _ _ _,h| .sv _ _ _ _,h| .pe _ _ _ _,h| .m _,h=>by simp[BF]at h
 | .rp cs,h| .a cs,h| .t cs,h=>by simp only[BF]at h;simp only[RV];exact⟨_,RL.pure cs h,rfl⟩
 | .l es f,h=>by simp only[BF]at h;simp only[RV];exact⟨_,RR.pure es h,rfl⟩
 | .f fn a b,h=>by
   simp only[BF,A8]at h;simp only[RV];refine⟨fn,a,b,?_,RL.pure a h.2.1,RL.pure b h.2.2,rfl⟩;cases fn<;>first|rfl|(simp[MC]at h)
 | .Eo t x,h=>by simp only[BF]at h;simp only[RV];exact⟨_,RV.pure x h,rfl⟩
 | .b _,_| .i _ _,_| .s _,_| .pn,_| .mn,_| .Kj,_| .DW,_| .any,_=>by simp only[RV]
def RL.pure {ρ:Ren}: ∀(v:List V),B7 v=true->RL ρ v v
 | [],_=>by simp only[RL]
 | x::xs,h=>by
   simp only[B7,A8]at h;simp only[RL];exact⟨x,xs,RV.pure x h.1,RL.pure xs h.2,rfl⟩
def RR.pure {ρ:Ren}: ∀(v:List (List V)),QZ v=true->RR ρ v v
 | [],_=>by simp only[RR]
 | x::xs,h=>by
   simp only[QZ,A8]at h;simp only[RR];exact⟨x,xs,RL.pure x h.1,RR.pure xs h.2,rfl⟩
end
def RV.jZ {ρ:Ren} {v v':V} (h:RV ρ v v') (hp:BF v=true):v'=v:=RV.fn v _ _ h (RV.pure v hp)
mutual
def EW:V->V->Bool
 | .b x,.b y=>x==y
 | .i k n,.i k' n'=>decide (k=k')&&decide (n=n')
 | .s x,.s y=>decide (x=y)
 | .pn,.pn=>true
 | .p n o,.p n' o'=>Nat.beq n n'&&Nat.beq o o'
 | .rp a,.rp b=>L8 a b
 | .l a f,.l b g=>(f==g)&&aE a b
 | .sl n a b,.sl n' a' b'=>Nat.beq n n'&&(Nat.beq a a'&&Nat.beq b b')
 | .sv n a b c,.sv n' a' b' c'=>Nat.beq n n'&&(Nat.beq a a'&&(Nat.beq b b'&&Nat.beq c c'))
 | .pe n a b c,.pe n' a' b' c'=>Nat.beq n n'&&(Nat.beq a a'&&(Nat.beq b b'&&Nat.beq c c'))
 | .m n,.m n'=>Nat.beq n n'
 | .mn,.mn=>true
 | .f fn a b,.f fn' a' b'=>decide (fn=fn')&&(L8 a a'&&L8 b b')
 | .Kj,.Kj=>true
 | .Eo t v,.Eo t' v'=>Nat.beq t t'&&EW v v'
 | .DW,.DW=>true
 | .a a,.a b=>L8 a b
 | .t a,.t b=>L8 a b
 | .any,.any=>true
 | _,_=>false
def L8:List V->List V->Bool
 | [],[]=>true
 | x::xs,y::ys=>EW x y&&L8 xs ys
 | _,_=>false
def aE:List (List V)->List (List V)->Bool
 | [],[]=>true
 | x::xs,y::ys=>L8 x y&&aE xs ys
 | _,_=>false
end
def Cn {a b:Nat} (h:Nat.beq a b=true):a=b:=Ti h
mutual
def N6: ∀(a b:V),EW a b=true->a=b
 | .b x,b,h=>by cases b<;>simp[EW]at h;rw[h]
 | .i _ _,b,h=>by cases b<;>simp[EW]at h;rw[h.1,h.2]
 | .s _,b,h=>by cases b<;>simp[EW]at h;rw[h]
 | .pn,b,h=>by cases b<;>simp[EW]at h;rfl
 | .p _ _,b,h=>by
   cases b<;>simp only[EW,A8]at h<;>first|(rw[Cn h.1,Cn h.2];done)|cases h
 | .rp _,b,h=>by
   cases b<;>simp only[EW]at h<;>first|(rw[GY _ _ h];done)|cases h
 | .l _ _,b,h=>by
   cases b<;>simp only[EW,A8,Cr]at h<;>first|(rw[h.1,ZX _ _ h.2];done)|cases h
 | .sl _ _ _,b,h=>by
   cases b<;>simp only[EW,A8]at h<;>first|(rw[Cn h.1,Cn h.2.1,Cn h.2.2];done)|cases h
 | .sv _ _ _ _,b,h=>by
   cases b<;>simp only[EW,A8]at h<;>first|(rw[Cn h.1,Cn h.2.1,Cn h.2.2.1,Cn h.2.2.2];done)|cases h
 | .pe _ _ _ _,b,h=>by
   cases b<;>simp only[EW,A8]at h<;>first|(rw[Cn h.1,Cn h.2.1,Cn h.2.2.1,Cn h.2.2.2];done)|cases h
 | .m _,b,h=>by
   cases b<;>simp only[EW]at h<;>first|(rw[Cn h];done)|cases h
 | .mn,b,h=>by cases b<;>simp[EW]at h;rfl
 | .f _ _ _,b,h=>by
   cases b<;>simp only[EW,A8,Cm]at h<;>first|(rw[h.1,GY _ _ h.2.1,GY _ _ h.2.2];done)|cases h
 | .Kj,b,h=>by cases b<;>simp[EW]at h;rfl
 | .Eo _ _,b,h=>by
   cases b<;>simp only[EW,A8]at h<;>first|(rw[Cn h.1,N6 _ _ h.2];done)|cases h
 | .DW,b,h=>by cases b<;>simp[EW]at h;rfl
 | .a _,b,h=>by
   cases b<;>simp only[EW]at h<;>first|(rw[GY _ _ h];done)|cases h
 | .t _,b,h=>by
   cases b<;>simp only[EW]at h<;>first|(rw[GY _ _ h];done)|cases h
 | .any,b,h=>by cases b<;>simp[EW]at h;rfl
def GY: ∀(a b:List V),L8 a b=true->a=b
 | [],[],_=>rfl
 | x::xs,y::ys,h=>by
   simp only[L8,A8]at h;rw[N6 _ _ h.1,GY _ _ h.2]
 | [],_::_,h=>by simp[L8]at h
 | _::_,[],h=>by simp[L8]at h
def ZX: ∀(a b:List (List V)),aE a b=true->a=b
 | [],[],_=>rfl
 | x::xs,y::ys,h=>by
   simp only[aE,A8]at h;rw[GY _ _ h.1,ZX _ _ h.2]
 | [],_::_,h=>by simp[aE]at h
 | _::_,[],h=>by simp[aE]at h
end
inductive EO where
 | cs (vs:List V)
 | arr (sz:Nat) (es:List (List V))
 | map (kvs:List (V×V))
 | loop (st:od) (env:Env) (ps:List Nat) (a b:AX)
inductive Tr (α:Type) where
 | leaf
 | node (o:Option α) (l r:Tr α)
def Tr.get {α:Type}:Tr α->Nat->Option α
 | .leaf,_=>none
 | .node o l r,k=>match k with
   | 0=>o
   | k+1=>bif Nat.beq (k % 2) 0 then l.get (k / 2)else r.get (k / 2)
def Tr.put {α β:Type} (x:Option α):Nat->Tr α->Nat->(Tr α->β)->β
 | 0,t,_,K=>K t
 | d+1,t,k,K=>match k,t with
   | 0,.leaf=>K (.node x .leaf .leaf)
   | 0,.node _ l r=>K (.node x l r)
   | k+1,.leaf=>bif Nat.beq (k % 2) 0 then Tr.put x d .leaf (k / 2) fun l=>K (.node none l .leaf)else Tr.put x d .leaf (k / 2) fun r=>K (.node none .leaf r)
   | k+1,.node o l r=>bif Nat.beq (k % 2) 0 then Tr.put x d l (k / 2) fun l=>K (.node o l r)else Tr.put x d r (k / 2) fun r=>K (.node o l r)
def A5:Nat:=40
abbrev Tr.set {α:Type} (x:Option α) (d:Nat) (t:Tr α) (k:Nat):Tr α:=Tr.put x d t k id
def Tr.put_eq {α β:Type} {x:Option α}: ∀(d:Nat) (t:Tr α) (k:Nat) (K:Tr α->β),Tr.put x d t k K=K (Tr.set x d t k)
 | 0,t,k,K=>rfl
 | d + 1,t,k,K=>by
   unfold Tr.set;cases k with
   | zero=>cases t<;>rfl
   | succ k=>
     cases t<;>simp only[Tr.put]<;>cases Nat.beq (k % 2) 0<;>simp only[cond_true,cond_false]<;>rw[Tr.put_eq d,Tr.put_eq d _ _ (fun _=>_)]<;>rfl
def Tr.Dk {α:Type} {x:Option α}: ∀(d:Nat) (t:Tr α) (k:Nat),k+1<2 ^ d-> ∀j,(Tr.set x d t k).get j=if j=k then x else t.get j
 | 0,_,k,h,_=>by simp at h
 | d + 1, t, k,h,j=>by
   have hp:2 ^ (d+1)=2*2 ^ d:=by rw[Nat.pow_succ];omega
   cases k with
   | zero=>cases t<;>cases j<;>simp[Tr.set,Tr.put,Tr.get]
   | succ k=>
     have hk:k / 2+1<2 ^ d:=by omega
     cases t with
     | leaf=>
       simp only[Tr.set,Tr.put];cases hb:Nat.beq (k % 2) 0 with
       | true=>
         simp only[cond_true];rw[Tr.put_eq];have hb':=Cn hb;cases j with
         | zero=>simp[Tr.get]
         | succ j=>
           simp only[Tr.get,id];cases hj:Nat.beq (j % 2) 0 with
           | true=>
             have hj':=Cn hj;simp only[cond_true];rw[Tr.Dk d _ _ hk];simp only[Tr.get];by_cases e:j=k
             .simp[e]
             .rw[if_neg (by omega),if_neg (by omega)]
           | false=>
             simp only[cond_false];rw[if_neg (fun e=>by(have:j=k:=by omega);subst this;rw[hj]at hb;cases hb)]
       | false=>
         simp only[cond_false];rw[Tr.put_eq];have hb':=Nat.ne_of_beq_eq_false hb;cases j with
         | zero=>simp[Tr.get]
         | succ j=>
           simp only[Tr.get,id];cases hj:Nat.beq (j % 2) 0 with
           | false=>
             have hj':=Nat.ne_of_beq_eq_false hj;simp only[cond_false];rw[Tr.Dk d _ _ hk];simp only[Tr.get];by_cases e:j=k
             .simp[e]
             .rw[if_neg (by omega),if_neg (by omega)]
           | true=>
             simp only[cond_true];rw[if_neg (fun e=>by(have:j=k:=by omega);subst this;rw[hj]at hb;cases hb)]
     | node o l r=>
       simp only[Tr.set,Tr.put];cases hb:Nat.beq (k % 2) 0 with
       | true=>
         simp only[cond_true];rw[Tr.put_eq];have hb':=Cn hb;cases j with
         | zero=>simp[Tr.get]
         | succ j=>
           simp only[Tr.get,id];cases hj:Nat.beq (j % 2) 0 with
           | true=>
             have hj':=Cn hj;simp only[cond_true];rw[Tr.Dk d _ _ hk];by_cases e:j=k
             .simp[e]
             .rw[if_neg (by omega),if_neg (by omega)]
           | false=>
             simp only[cond_false];rw[if_neg (fun e=>by(have:j=k:=by omega);subst this;rw[hj]at hb;cases hb)]
       | false=>
         simp only[cond_false];rw[Tr.put_eq];have hb':=Nat.ne_of_beq_eq_false hb;cases j with
         | zero=>simp[Tr.get]
         | succ j=>
           simp only[Tr.get,id];cases hj:Nat.beq (j % 2) 0 with
           | false=>
             have hj':=Nat.ne_of_beq_eq_false hj;simp only[cond_false];rw[Tr.Dk d _ _ hk];by_cases e:j=k
             .simp[e]
             .rw[if_neg (by omega),if_neg (by omega)]
           | true=>
             simp only[cond_true];rw[if_neg (fun e=>by(have:j=k:=by omega);subst this;rw[hj]at hb;cases hb)]
end Go.Gl
namespace Go.Gl
variable {P:Program} {ρ ρ':Ren} {σ:AH} {env env₀:Env}
structure St where
 nx:Nat
 t:Tr EO
def RK (ρ:Ren) (a b:V×V):Prop:=RV ρ a.1 b.1/\RV ρ a.2 b.2
def RBe (ρ:Ren) (a b:Nat×V):Prop:=b.1=a.1/\RV ρ a.2 b.2
abbrev RE (ρ:Ren):Env->Env->Prop:=F2 (RBe ρ)
abbrev Kg (ρ:Ren):List V->List V->Prop:=F2 (RV ρ)
abbrev cg (ρ:Ren):List (List V)->List (List V)->Prop:=F2 (F2 (RV ρ))
def RO (P:Program) (ρ:Ren) (cap:Nat):EO->O->Prop
 | .cs vs,o=> ∃vs',Kg ρ vs vs'/\o= .cs vs'
 | .arr sz es,o=> ∃es',cg ρ es es'/\o= .arr sz es' cap
 | .map kvs,o=> ∃kvs',F2 (RK ρ) kvs kvs'/\o= .map kvs'
 | .loop st env ps a b,o=> ∃env',RE ρ env env'/\o= .loop st env' (Bb P ps a b)
def L5:Nat:=1000000000
structure SR (P:Program) (ρ:Ren) (s:St) (σ:AH):Prop where
 get: ∀i o,s.t.get i=some o-> ∃m,ρ i=some m/\ ∃o',σ m.1=some o'/\RO P ρ m.2 o o'
 inj: ∀i j o o' m m',s.t.get i=some o->s.t.get j=some o'->ρ i=some m->ρ j=some m'->m.1=m'.1->i=j
 oa: ∀i,s.nx<=i->ρ i=none
 lim:s.nx<=L5+1
def Kg.mono (h:ρ.le ρ') {a b:List V} (k:Kg ρ a b):Kg ρ' a b:=F2.mono (fun _ _=>RV.mono h _ _) k
def cg.mono (h:ρ.le ρ') {a b:List (List V)} (k:cg ρ a b):cg ρ' a b:=F2.mono (fun _ _=>Kg.mono h) k
def RE.mono (h:ρ.le ρ') {a b:Env} (k:RE ρ a b):RE ρ' a b:=F2.mono (fun _ _ k=>⟨k.1,RV.mono h _ _ k.2⟩) k
def RO.mono (h:ρ.le ρ') {c:Nat} {a:EO} {b:O} (k:RO P ρ c a b):RO P ρ' c a b:=by
 cases a with
 | cs vs=>obtain⟨v,h1,h2⟩:=k;exact⟨v,h1.mono h,h2⟩
 | arr sz es=>obtain⟨v,h1,h2⟩:=k;exact⟨v,h1.mono h,h2⟩
 | map kvs=>obtain⟨v,h1,h2⟩:=k;exact⟨v,F2.mono (fun _ _ k=>⟨RV.mono h _ _ k.1,RV.mono h _ _ k.2⟩) h1,h2⟩
 | loop st env ps a b=>obtain⟨v,h1,h2⟩:=k;exact⟨v,h1.mono h,h2⟩
def Z3 {k:Nat} (h:k<=L5):k+1<2 ^ A5:=by simp only[L5,A5]at *;omega
def SR.lt {s:St} (hs:SR P ρ s σ) {i:Nat} {m:Nat×Nat} (h:ρ i=some m):i<=L5:=by
 have h1:=hs.oa i;have h2:=hs.lim;rcases Nat.lt_or_ge i s.nx with h3|h3
 .omega
 .rw[h1 h3]at h;cases h
def SR.new {s:St} (hs:SR P ρ s σ) (hl:s.nx<=L5) {n:Nat} (hn:σ n=none) (cap:Nat) {o:EO} {o':O} (ho:RO P ρ cap o o') :
    ∃ρ',ρ.le ρ'/\ρ' s.nx=some (n,cap)/\SR P ρ' ⟨s.nx+1,Tr.set (some o) A5 s.t s.nx⟩ (A6 σ n o'):=by
 have hle:ρ.le (fun i=>if i=s.nx then some (n,cap)else ρ i):=fun i m h=>by
  have:i≠s.nx:=fun e=>by rw[hs.oa i (by omega)]at h;cases h
  simp[this,h]
 refine⟨_,hle,by simp,⟨fun i o1 h1=>?_,fun i j o1 o2 m m' h1 h2 h3 h4 h5=>?_,fun i hi=>?_,by show s.nx+1<=_;omega⟩⟩
 .rw[Tr.Dk _ _ _ (Z3 hl)]at h1
  by_cases e:i=s.nx
  .rw[if_pos e]at h1
   cases h1;exact⟨(n,cap),by simp[e],o',Cz _ _ _,ho.mono hle⟩
  .rw[if_neg e]at h1
   obtain⟨m,h2,o2,h3,h4⟩:=hs.get i o1 h1;refine⟨m,by simp[e,h2],o2,?_,h4.mono hle⟩;rw[Ca _ _ (fun e'=>by rw[e',hn]at h3;cases h3)];exact h3
 .rw[Tr.Dk _ _ _ (Z3 hl)]at h1 h2
  by_cases e:i=s.nx<;>by_cases e':j=s.nx
  .omega
  .exfalso
   rw[if_neg e']at h2;simp only[e,if_true,II]at h3;simp only[e',if_false]at h4;obtain⟨m2,h6,o3,h7,_⟩:=hs.get j o2 h2;rw[h6]at h4;cases h4;rw[<-h5,<-h3,hn]at h7;cases h7
  .exfalso
   rw[if_neg e]at h1;simp only[e',if_true,II]at h4;simp only[e,if_false]at h3;obtain⟨m2,h6,o3,h7,_⟩:=hs.get i o1 h1;rw[h6]at h3;cases h3;rw[h5,<-h4,hn]at h7;cases h7
  .rw[if_neg e]at h1
   rw[if_neg e']at h2;simp only[e,if_false]at h3;simp only[e',if_false]at h4;exact hs.inj i j o1 o2 m m' h1 h2 h3 h4 h5
 .have hi':s.nx+1<=i:=hi
  have:i≠s.nx:=by omega
  simp only[this,if_false];exact hs.oa i (by omega)
def SR.A6 {s:St} (hs:SR P ρ s σ) {i:Nat} {m:Nat×Nat} {o:EO} (hi:s.t.get i=some o) (hm:ρ i=some m) {o1:EO} {o1':O} (ho:RO P ρ m.2 o1 o1') :
    SR P ρ ⟨s.nx,Tr.set (some o1) A5 s.t i⟩ (Gl.A6 σ m.1 o1'):=by
 have hl:=Z3 (hs.lt hm);refine⟨fun j o2 h1=>?_,fun j j' o2 o3 m1 m2 h1 h2 h3 h4 h5=>?_,hs.oa,hs.lim⟩
 .rw[Tr.Dk _ _ _ hl]at h1
  by_cases e:j=i
  .subst e
   rw[if_pos rfl]at h1;cases h1;exact⟨m,hm,o1',Cz _ _ _,ho⟩
  .rw[if_neg e]at h1
   obtain⟨m1,h2,o3,h3,h4⟩:=hs.get j o2 h1;refine⟨m1,h2,o3,?_,h4⟩;rw[Ca _ _ (fun e'=>e (hs.inj j i o2 o m1 m h1 hi h2 hm e'))];exact h3
 .rw[Tr.Dk _ _ _ hl]at h1 h2
  have g1: ∃q,s.t.get j=some q:=by
   by_cases e:j=i
   .exact⟨o,e ▸ hi⟩
   .rw[if_neg e]at h1;exact⟨_,h1⟩
  have g2: ∃q,s.t.get j'=some q:=by
   by_cases e:j'=i
   .exact⟨o,e ▸ hi⟩
   .rw[if_neg e]at h2;exact⟨_,h2⟩
  obtain⟨q1,g1⟩:=g1;obtain⟨q2,g2⟩:=g2;exact hs.inj j j' q1 q2 m1 m2 g1 g2 h3 h4 h5
def SR.del {s:St} (hs:SR P ρ s σ) {i:Nat} {m:Nat×Nat} {o:EO} (hi:s.t.get i=some o) (hm:ρ i=some m) :
    SR P ρ ⟨s.nx,Tr.set none A5 s.t i⟩ (Gl.del σ m.1):=by
 have hl:=Z3 (hs.lt hm)
 have sub: ∀j q,(Tr.set none A5 s.t i).get j=some q->j≠i/\s.t.get j=some q:=fun j q h=>by
  rw[Tr.Dk _ _ _ hl]at h;by_cases e:j=i
  .rw[if_pos e]at h;cases h
  .rw[if_neg e]at h;exact⟨e,h⟩
 refine⟨fun j o2 h1=>?_,fun j j' o2 o3 m1 m2 h1 h2 h3 h4 h5=>?_,hs.oa,hs.lim⟩
 .obtain⟨e,h1⟩:=sub j o2 h1
  obtain⟨m1,h2,o3,h3,h4⟩:=hs.get j o2 h1;refine⟨m1,h2,o3,?_,h4⟩;have:m1.1≠m.1:=fun e'=>e (hs.inj j i o2 o m1 m h1 hi h2 hm e')
  simp[Gl.del,this,h3]
 .exact hs.inj j j' o2 o3 m1 m2 (sub _ _ h1).2 (sub _ _ h2).2 h3 h4 h5
def SR.at {s:St} (hs:SR P ρ s σ) {i:Nat} {m:Nat×Nat} {o:EO} (hi:s.t.get i=some o) (hm:ρ i=some m): ∃o',σ m.1=some o'/\RO P ρ m.2 o o':=by
 obtain⟨m',h1,h2⟩:=hs.get i o hi;rw[hm]at h1;cases h1;exact h2
def RE.get: ∀ {env env₀:Env},RE ρ env env₀-> ∀ {k:Nat} {v:V},Gl.get k env=some v-> ∃v',Gl.get k env₀=some v'/\RV ρ v v'
 | (j,u)::r,_,⟨y,ys,h1,h2,e⟩,k,v,h=>by
   subst e;obtain⟨j',u'⟩:=y;have e1:j'=j:=h1.1;subst e1;simp only[Gl.get]at h ⊢;cases hb:Nat.beq j' k with
   | true=>rw[hb]at h;simp only[cond_true]at h ⊢;cases h;exact⟨u',rfl,h1.2⟩
   | false=>rw[hb]at h;simp only[cond_false]at h ⊢;exact RE.get h2 h
def RE.u9: ∀ {env env₀:Env},RE ρ env env₀-> ∀ {k:Nat},Gl.get k env=none->Gl.get k env₀=none
 | [],_,h,k,_=>by cases h;rfl
 | (j,u)::r,_,⟨y,ys,h1,h2,e⟩,k,h=>by
   subst e;obtain⟨j',u'⟩:=y;have e1:j'=j:=h1.1;subst e1;simp only[Gl.get]at h ⊢;cases hb:Nat.beq j' k with
   | true=>rw[hb]at h;simp only[cond_true]at h;cases h
   | false=>rw[hb]at h;simp only[cond_false]at h ⊢;exact RE.u9 h2 h
def DI (env:Env):Bg->Option V
 | .t n=>get n env
 | .c v=>bif BF v then some v else none
def Av (he:RE ρ env env₀) {x:Bg} {v:V} (h:DI env x=some v): ∃v',ev env₀ x=some v'/\RV ρ v v':=by
 cases x with
 | t n=>exact he.get h
 | c u=>
   simp only[DI]at h;cases hb:BF u with
   | true=>rw[hb]at h;cases h;exact⟨_,rfl,RV.pure _ hb⟩
   | false=>rw[hb]at h;cases h
def Nb (env:Env):List Bg->Option (List V)
 | []=>some []
 | x ::r=>match DI env x with
   | some v=>match Nb env r with
     | some vs=>some (v::vs)
     | none=>none
   | none=>none
def Hq (he:RE ρ env env₀): ∀ {l:List Bg} {vs:List V},Nb env l=some vs-> ∃vs',Tl env₀ l=some vs'/\Kg ρ vs vs'
 | [],_,h=>by cases h;exact⟨[],rfl,rfl⟩
 | x ::r,vs,h=>by
   simp only[Nb]at h;split at h
   .rename_i v hv
    split at h
    .rename_i us hu
     cases h;obtain⟨v',h1,h2⟩:=Av he hv;obtain⟨vs',h3,h4⟩:=Hq he hu;exact⟨v'::vs',by simp only[Tl,h1,h3],F2.cons h2 h4⟩
    .cases h
   .cases h
def H3 (k:IntKind) (n:Int):Int:=
 match k,n with
 | .i64,.ofNat m=>bif Nat.ble m 9223372036854775807 then .ofNat m else IntKind.i64.wrap (.ofNat m)
 | .u64,.ofNat m=>bif Nat.ble m 18446744073709551615 then .ofNat m else IntKind.u64.wrap (.ofNat m)
 | k,n=>k.wrap n
def wrap_u64 {n:Int} (h1:0<=n) (h2:n<=18446744073709551615):IntKind.u64.wrap n=n:=by
 have e:IntKind.u64.wrap n=n % 18446744073709551616:=by simp[IntKind.wrap,IntKind.bits,IntKind.signed]
 rw[e];omega
def ofNat_eq (m:Nat):Int.ofNat m=(m:Int):=rfl
def Ik (k:IntKind) (n:Int):H3 k n=k.wrap n:=by
 unfold H3;split
 .rename_i m
  cases h:Nat.ble m 9223372036854775807 with
  | true=>
    have h':m<=9223372036854775807:=by rw[Nat.ble_eq]at h;exact h
    rw[cond_true,ofNat_eq];exact(wrap64 (by omega) (by omega)).symm
  | false=>rfl
 .rename_i m
  cases h:Nat.ble m 18446744073709551615 with
  | true=>
    have h':m<=18446744073709551615:=by rw[Nat.ble_eq]at h;exact h
    rw[cond_true,ofNat_eq];exact(wrap_u64 (by omega) (by omega)).symm
  | false=>rfl
 .rfl
def L2 (a b:Int):Bool:=
 match a,b with
 | .ofNat m,.ofNat n=>Nat.ble (m+1) n
 | .negSucc _,.ofNat _=>true
 | .ofNat _,.negSucc _=>false
 | .negSucc m,.negSucc n=>Nat.ble (n+1) m
def Od (a b:Int):L2 a b=decide (a<b):=by
 cases a<;>cases b<;>simp only[L2]
 .rename_i m n
  rw[Hf,Nat.ble_eq,Cm];simp;omega
 .rename_i m n
  symm;rw[decide_eq_false_iff_not];simp;omega
 .rename_i m n
  symm;rw[Cm];simp;omega
 .rename_i m n
  rw[Hf,Nat.ble_eq,Cm];omega
def OA (a b:Int):Bool:= !L2 b a
def eo (a b:Int):OA a b=decide (a<=b):=by
 rw[OA,Od,Hf];simp
def Zs (a b:Int):Bool:=
 match a,b with
 | .ofNat m,.ofNat n=>Nat.beq m n
 | .negSucc m,.negSucc n=>Nat.beq m n
 | _,_=>false
def Sh (a b:Int):Zs a b=(a==b):=by
 cases a<;>cases b<;>simp only[Zs]
 .rename_i m n
  rw[Hf,Nat.beq_eq,Cr];exact⟨fun e=>by rw[e],fun e=>by cases e;rfl⟩
 .rename_i m n
  rw[Hf,Cr];exact⟨fun e=>(by cases e),fun e=>by cases e⟩
 .rename_i m n
  rw[Hf,Cr];exact⟨fun e=>(by cases e),fun e=>by cases e⟩
 .rename_i m n
  rw[Hf,Nat.beq_eq,Cr];exact⟨fun e=>by rw[e],fun e=>by cases e;rfl⟩
def D9 {a b:Int} (h:OA a b=true):a<=b:=by rw[eo]at h;exact of_decide_eq_true h
def ME {a b:Int} (h:L2 a b=true):a<b:=by rw[Od]at h;exact of_decide_eq_true h
def Oa (op:BinOp) (k:IntKind) (x y:Int):Int:=
 match k,x,y with
 | .u64,.ofNat a,.ofNat b=>bif Nat.ble a 18446744073709551615&&Nat.ble b 18446744073709551615 then
  match op with
  | .and=> .ofNat (Nat.land a b)
  | .or=> .ofNat (Nat.lor a b)
  | op=>bits op .u64 (.ofNat a) (.ofNat b)
   else bits op .u64 (.ofNat a) (.ofNat b)
 | k,x,y=>bits op k x y
def iw (op:BinOp) (k:IntKind) (x y:Int):Oa op k x y=bits op k x y:=by
 unfold Oa;split
 .rename_i a b
  cases h:Nat.ble a 18446744073709551615&&Nat.ble b 18446744073709551615 with
  | false=>rfl
  | true=>
    simp only[A8]at h;have h1:=Nat.le_of_ble_eq_true h.1;have h2:=Nat.le_of_ble_eq_true h.2
    have e1:(BitVec.ofInt 64 (Int.ofNat a)).toNat=a:=by
     rw[show Int.ofNat a=(a:Int) from rfl,BitVec.ofInt_natCast,BitVec.toNat_ofNat];omega
    have e2:(BitVec.ofInt 64 (Int.ofNat b)).toNat=b:=by
     rw[show Int.ofNat b=(b:Int) from rfl,BitVec.ofInt_natCast,BitVec.toNat_ofNat];omega
    simp only[cond_true];split
    .have e3:bits .and .u64 (Int.ofNat a) (Int.ofNat b)=IntKind.u64.wrap (((BitVec.ofInt 64 (Int.ofNat a))&&&(BitVec.ofInt 64 (Int.ofNat b))).toNat:Int):=rfl
     rw[e3,BitVec.toNat_and,e1,e2];have:a&&&b<2 ^ 64:=Nat.and_lt_two_pow _ (by omega);rw[wrap_u64 (by omega) (by omega)];rfl
    .have e3:bits .or .u64 (Int.ofNat a) (Int.ofNat b)=IntKind.u64.wrap (((BitVec.ofInt 64 (Int.ofNat a))|||(BitVec.ofInt 64 (Int.ofNat b))).toNat:Int):=rfl
     rw[e3,BitVec.toNat_or,e1,e2];have:a|||b<2 ^ 64:=Nat.or_lt_two_pow (by omega) (by omega)
     rw[wrap_u64 (by omega) (by omega)];rfl
    .rfl
 .rfl
def UE (op:BinOp) (x y:V):Option V:=
 match x,y with
 | .i ka a,.i kb b=>
   match op with
   | .add=>bif decide (ka=kb)then some (.i ka (H3 ka (a+b)))else none
   | .sub=>bif decide (ka=kb)then some (.i ka (H3 ka (a - b)))else none
   | .mul=>bif decide (ka=kb)then some (.i ka (H3 ka (a*b)))else none
   | .quo=>bif decide (ka=kb)&& !Zs b 0 then some (.i ka (H3 ka (a.tdiv b)))else none
   | .rem=>bif decide (ka=kb)&& !Zs b 0 then some (.i ka (a.tmod b))else none
   | .eql=>bif decide (ka=kb)then some (.b (Zs a b))else none
   | .neq=>bif decide (ka=kb)then some (.b (!Zs a b))else none
   | .lss=>bif decide (ka=kb)then some (.b (L2 a b))else none
   | .leq=>bif decide (ka=kb)then some (.b (OA a b))else none
   | .gtr=>bif decide (ka=kb)then some (.b (L2 b a))else none
   | .geq=>bif decide (ka=kb)then some (.b (OA b a))else none
   | .shl=>bif OA 0 b then some (.i ka (H3 ka (a*2 ^ (min b.toNat ka.bits))))else none
   | .shr=>bif OA 0 b then some (.i ka (a.fdiv (2 ^ (min b.toNat ka.bits))))else none
   | op=>bif decide (ka=kb)then some (.i ka (Oa op ka a b))else none
 | _,_=>none
def AY {α:Type} {c:Bool} {x:Option α} {v:α} (h:(bif c then x else none)=some v):c=true/\x=some v:=by
 cases c with
 | true=>exact⟨rfl,h⟩
 | false=>cases h
def mV {op:BinOp} {x y v:V} (h:UE op x y=some v):BF x=true/\BF y=true/\BF v=true/\ ∀K:V->Prop,K v->T5 op x y K:=by
 unfold UE at h;split at h
 .rename_i ka a kb b
  refine⟨rfl,rfl,?_⟩
  cases op<;>simp only at h<;>obtain⟨h1,h2⟩:=AY h<;>cases h2<;>refine⟨rfl,fun K U=>?_⟩<;>
   (try simp only[A8,Cm,Bool.not_eq_true',Sh,beq_eq_false_iff_ne]at h1)<;>
   (try simp only[Ik,Od,eo,Sh,iw]at U)<;>simp only[T5]
  all_goals first
   | exact⟨h1,U⟩
   | exact⟨h1.1,h1.2,U⟩
   | exact⟨D9 h1,U⟩
 .cases h
def GB {v v':V} {cs:List V} (h:cellsOf v=some cs) (hv:RV ρ v v'): ∃cs',cellsOf v'=some cs'/\Kg ρ cs cs':=by
 cases v with
 | a cs0=>
   cases h;obtain⟨c,h1,rfl⟩:=hv;exact⟨c,rfl,BU.1 h1⟩
 | t _=>cases h
 | any=>cases h
 | _ =>
   cases h
   have:cellsOf v'=some [v']:=by
    simp only[RV]at hv
    first
     | (rw[hv];rfl)
     | (obtain⟨_,_,hv⟩:=hv;rw[hv];rfl)
     | (obtain⟨_,_,_,_,_,_,hv⟩:=hv;rw[hv];rfl)
   exact⟨[v'],this,F2.cons hv F2.nil⟩
def k9 {v v':V} (hv:RV ρ v v'):CA v'=CA v:=by
 cases v<;>simp only[RV]at hv<;>first
  | (rw[hv];done)
  | (obtain⟨_,_,hv⟩:=hv;rw[hv];rfl)
  | (obtain⟨_,_,_,_,_,_,hv⟩:=hv;rw[hv];rfl)
def ZY {vs vs':List V} (h:vs.all CA=true) (hv:Kg ρ vs vs'):vs'.all CA=true:=by
 rw[Dh]at *;intro v hm;obtain⟨u,hu,hr⟩:=F2.mem hv hm;rw[k9 hr];exact h u hu
def Lg {vs vs':List (List V)} (h:(vs.all fun e=>e.all CA)=true) (hv:cg ρ vs vs'): ∀e∈vs',∀v∈e,CA v=true:=by
 rw[Dh]at h;intro e he;obtain⟨u,hu,hr⟩:=F2.mem hv he;have:=ZY (h u hu) hr
 rwa [Dh]at this
def N7 {sz:Nat} {vs vs':List (List V)} (h:(vs.all fun e=>Nat.beq e.length sz)=true) (hv:cg ρ vs vs'): ∀e∈vs',e.length=sz:=by
 rw[Dh]at h;intro e he;obtain⟨u,hu,hr⟩:=F2.mem hv he;rw[hr.len];exact Cn (h u hu)
def LN: ∀ {vc vc':List V} {cs cs':List V} {off:Nat},Kg ρ cs cs'->Kg ρ vc vc'->Kg ρ (putAt cs off vc) (putAt cs' off vc')
 | [],_,_,_,_,h,h'=>by cases h';exact h
 | _::_,_,_,_,off,h,⟨y,ys,h1,h2,e⟩=>by
   subst e;simp only[putAt];exact LN (h.set off h1) h2
def UB (agg:Option Nat) (cs:List V) (off:Nat):Option V:=
 match agg with
 | none=>cs[off]?
 | some n=>bif Nat.ble (off+n) cs.length then some (.a ((cs.drop off).take n))else none
def K8 {agg:Option Nat} {cs cs':List V} {off:Nat} {v:V} (h:UB agg cs off=some v) (hc:Kg ρ cs cs') {K:V->Prop} (U: ∀v',RV ρ v v'->K v'):cut agg cs' off K:=by
 cases agg with
 | none=>
   obtain⟨y,h1,h2⟩:=hc.get h;simp only[cut,h1];exact U _ h2
 | some n=>
   obtain⟨h1,h2⟩:=AY h;cases h2;refine⟨by rw[hc.len];exact Nat.le_of_ble_eq_true h1,U _ ?_⟩;simp only[RV];exact⟨_,BU.2 ((hc.drop off).take n),rfl⟩
def M9 (s:St) (agg:Option Nat) (x:V):Option V:=
 match x with
 | .rp cs=>UB agg cs 0
 | .p n off=>match s.t.get n with
   | some (.cs vs)=>UB agg vs off
   | _=>none
 | .pe n sz i off=>match s.t.get n with
   | some (.arr sz' es)=>bif Nat.beq sz sz' then(match es[i]? with|some e=>UB agg e off|none=>none)else none
   | _=>none
 | _=>none
def VZ {s:St} (hs:SR P ρ s σ) {agg:Option Nat} {x x' v:V} (h:M9 s agg x=some v) (hx:RV ρ x x') {K:V->Prop} (U: ∀v',RV ρ v v'->K v'):AW σ agg x' K:=by
 unfold M9 at h;split at h
 .obtain⟨c,h1,rfl⟩:=hx
  exact K8 h (BU.1 h1) U
 .obtain⟨m,h1,rfl⟩:=hx
  split at h
  .rename_i vs hg
   obtain⟨o',h2,vs',h3,rfl⟩:=hs.at hg h1;simp only[AW,OQ,h2];exact K8 h h3 U
  .cases h
 .obtain⟨m,h1,rfl⟩:=hx
  split at h
  .rename_i es hg
   obtain⟨o',h2,es',h3,rfl⟩:=hs.at hg h1;obtain⟨h4,h5⟩:=AY h;split at h5
   .rename_i e he
    obtain⟨e',h6,h7⟩:=h3.get he;simp only[AW,OR,h2,h6];exact⟨Cn h4,K8 h5 h7 U⟩
   .cases h5
  .cases h
 .cases h
def Oh (s : St) (sz:Nat) (a x:V):Option St:=
 match cellsOf x with
 | some vc =>bif Nat.beq vc.length sz&&vc.all CA then
  match a with
  | .p n off=>match s.t.get n with
    | some (.cs vs)=>bif Nat.ble (off+sz) vs.length then Tr.put (some (.cs (putAt vs off vc))) A5 s.t n fun t=>some ⟨s.nx,t⟩else none
    | _=>none
  | .pe n s' i off=>match s.t.get n with
    | some (.arr s1 es)=>bif Nat.beq s' s1&&Nat.ble (off+sz) s' then
     (match es[i]? with|some e=>Tr.put (some (.arr s1 (es.set i (putAt e off vc)))) A5 s.t n fun t=>some ⟨s.nx,t⟩|none=>none)else none
    | _=>none
  | _=>none
   else none
 | none=>none
def bn {s s':St} (hs:SR P ρ s σ) {sz:Nat} {a a' x x':V} (h:Oh s sz a x=some s') (ha:RV ρ a a') (hx:RV ρ x x') {K:AH->Prop} (U: ∀σ',SR P ρ s' σ'->K σ'):AR σ sz a' x' K:=by
 unfold Oh at h;split at h
 .rename_i vc hvc
  obtain⟨vc',e1,e2⟩:=GB hvc hx;obtain⟨h1,h2⟩:=AY h;simp only[A8]at h1;simp only[AR,e1];refine⟨by rw[e2.len];exact Cn h1.1,ZY h1.2 e2,?_⟩;split at h2
  .obtain⟨m,g1,rfl⟩:=ha
   split at h2
   .rename_i vs hg
    obtain⟨o',g2,vs',g3,rfl⟩:=hs.at hg g1;obtain⟨h3,h4⟩:=AY h2;rw[Tr.put_eq]at h4;cases h4;simp only[g2];exact⟨by rw[g3.len];exact Nat.le_of_ble_eq_true h3,U _ (hs.A6 hg g1 ⟨_,LN g3 e2,rfl⟩)⟩
   .cases h2
  .obtain⟨m,g1,rfl⟩:=ha
   split at h2
   .rename_i es hg
    obtain⟨o',g2,vs',g3,rfl⟩:=hs.at hg g1;obtain⟨h3,h4⟩:=AY h2;simp only[A8]at h3;split at h4
    .rename_i e he
     rw[Tr.put_eq]at h4;cases h4;obtain⟨e',g4,g5⟩:=g3.get he;simp only[g2,g4];have e:=Cn h3.1;subst e;exact⟨rfl,Nat.le_of_ble_eq_true h3.2,U _ (hs.A6 hg g1 ⟨_,g3.set _ (LN g5 e2),rfl⟩)⟩
    .cases h4
   .cases h2
  .cases h2
 .cases h
def Si (off:Nat) (x:V):Option V:=
 match x with
 | .rp cs=>some (.rp (cs.drop off))
 | .p n o=>some (.p n (o+off))
 | .pe n sz i o=>some (.pe n sz i (o+off))
 | _=>none
def bu {off:Nat} {x x' v:V} (h:Si off x=some v) (hx:RV ρ x x') {K:V->Prop} (U: ∀v',RV ρ v v'->K v'):J5 off x' K:=by
 unfold Si at h;split at h
 .obtain⟨c,h1,rfl⟩:=hx
  cases h;exact U _ (by simp only[RV];exact⟨_,BU.2 ((BU.1 h1).drop off),rfl⟩)
 .obtain⟨m,h1,rfl⟩:=hx
  cases h;exact U _ (by simp only[RV];exact⟨m,h1,rfl⟩)
 .obtain⟨m,h1,rfl⟩:=hx
  cases h;exact U _ (by simp only[RV];exact⟨m,h1,rfl⟩)
 .cases h
def MN (sz:Nat) (arr:Option Nat) (x i:V):Option V:=
 match i with
 | .i _ j=>bif OA 0 j then
  match arr,x with
  | none,.l es _=>match es[j.toNat]? with|some e=>bif Nat.beq e.length sz then some (.rp e)else none|none=>none
  | none,.sl n len _=>bif L2 j len then some (.pe n sz j.toNat 0)else none
  | none,.sv n s off len=>bif Nat.beq s sz&&L2 j len then some (.pe n sz (off+j.toNat) 0)else none
  | some m,.rp cs=>bif L2 j m then some (.rp (cs.drop (j.toNat*sz)))else none
  | some m,.p n o=>bif L2 j m then some (.p n (o+j.toNat*sz))else none
  | some m,.pe n s q o=>bif L2 j m then some (.pe n s q (o+j.toNat*sz))else none
  | _,_=>none
   else none
 | _=>none
def bt {sz:Nat} {arr:Option Nat} {x x' i i' v:V} (h:MN sz arr x i=some v) (hx:RV ρ x x') (hi:RV ρ i i') {K:V->Prop} (U: ∀v',RV ρ v v'->K v'):AQ sz arr x' i' K:=by
 unfold MN at h;split at h
 .rename_i kj j
  simp only[RV]at hi;subst hi;obtain⟨h0,h⟩:=AY h;have h0:=D9 h0;split at h
  .obtain⟨es',h1,rfl⟩:=hx
   split at h
   .rename_i e he
    obtain⟨h2,h3⟩:=AY h;cases h3;obtain⟨e',h4,h5⟩:=(FK.1 h1).get he;exact⟨h0,e',h4,by rw[h5.len];exact Cn h2,U _ (by simp only[RV];exact⟨e',BU.2 h5,rfl⟩)⟩
   .cases h
  .obtain⟨m,h1,rfl⟩:=hx
   obtain⟨h2,h3⟩:=AY h;cases h3;exact⟨h0,ME h2,U _ (by simp only[RV];exact⟨m,h1,rfl⟩)⟩
  .obtain⟨m,h1,rfl⟩:=hx
   obtain⟨h2,h3⟩:=AY h;simp only[A8]at h2;cases h3;exact⟨Cn h2.1,h0,ME h2.2,U _ (by simp only[RV];exact⟨m,h1,rfl⟩)⟩
  .obtain⟨c,h1,rfl⟩:=hx
   obtain⟨h2,h3⟩:=AY h;cases h3;exact⟨h0,ME h2,U _ (by simp only[RV];exact⟨_,BU.2 ((BU.1 h1).drop _),rfl⟩)⟩
  .obtain⟨m,h1,rfl⟩:=hx
   obtain⟨h2,h3⟩:=AY h;cases h3;exact⟨h0,ME h2,U _ (by simp only[RV];exact⟨m,h1,rfl⟩)⟩
  .obtain⟨m,h1,rfl⟩:=hx
   obtain⟨h2,h3⟩:=AY h;cases h3;exact⟨h0,ME h2,U _ (by simp only[RV];exact⟨m,h1,rfl⟩)⟩
  .cases h
 .cases h
def Oj (len sz:Nat) (agg:Option Nat) (x i:V):Option V:=
 match x,i with
 | .a cs,.i _ j=>bif OA 0 j&&L2 j len then UB agg cs (j.toNat*sz)else none
 | _,_=>none
def br {len sz:Nat} {agg:Option Nat} {x x' i i' v:V} (h:Oj len sz agg x i=some v) (hx:RV ρ x x') (hi:RV ρ i i') {K:V->Prop} (U: ∀v',RV ρ v v'->K v'):J4 len sz agg x' i' K:=by
 unfold Oj at h;split at h
 .simp only[RV]at hi
  subst hi;obtain⟨c,h1,rfl⟩:=hx;obtain⟨h2,h3⟩:=AY h;simp only[A8]at h2;exact⟨D9 h2.1,ME h2.2,K8 h3 (BU.1 h1) U⟩
 .cases h
def Ua (x i:V):Option V:=
 match x,i with
 | .s b,.i _ j=>bif OA 0 j then(match b.data.toList[j.toNat]? with|some c=>some (.i .u8 (.ofNat c.toNat))|none=>none)else none
 | _,_=>none
def iU {x x' i i' v:V} (h:Ua x i=some v) (hx:RV ρ x x') (hi:RV ρ i i') {K:V->Prop} (U: ∀v',RV ρ v v'->K v'):OU x' i' K:=by
 unfold Ua at h;split at h
 .simp only[RV]at hi hx
  subst hi;subst hx;obtain⟨h2,h3⟩:=AY h;refine⟨D9 h2,?_⟩;split at h3
  .rename_i c hc
   cases h3;rw[hc];exact U _ (by simp only[RV];rfl)
  .cases h3
 .cases h
def Z7 (x:V):Option V:=
 match x with
 | .l es _=>some (.i .i64 (.ofNat es.length))
 | .sl _ len _=>bif Nat.ble len Ay then some (.i .i64 (.ofNat len))else none
 | .sv _ _ _ len=>bif Nat.ble len Ay then some (.i .i64 (.ofNat len))else none
 | _=>none
def mS {x x' v:V} (h:Z7 x=some v) (hx:RV ρ x x') {K:V->Prop} (U: ∀v',RV ρ v v'->K v'):Au x' K:=by
 unfold Z7 at h;split at h
 .obtain⟨es',h1,rfl⟩:=hx
  cases h;have:=(FK.1 h1).len;exact U _ (by simp only[RV];rw[this];rfl)
 .obtain⟨m,h1,rfl⟩:=hx
  obtain⟨h2,h3⟩:=AY h;cases h3;exact⟨Nat.le_of_ble_eq_true h2,U _ (by simp only[RV];rfl)⟩
 .obtain⟨m,h1,rfl⟩:=hx
  obtain⟨h2,h3⟩:=AY h;cases h3;exact⟨Nat.le_of_ble_eq_true h2,U _ (by simp only[RV];rfl)⟩
 .cases h
def Ub (s:St) (x:V):Option V:=
 match x with
 | .m n=>match s.t.get n with
   | some (.map kvs)=>bif Nat.ble kvs.length Ay then some (.i .i64 (.ofNat kvs.length))else none
   | _=>none
 | .mn=>some (.i .i64 0)
 | _=>none
def iV {s:St} (hs:SR P ρ s σ) {x x' v:V} (h:Ub s x=some v) (hx:RV ρ x x') {K:V->Prop} (U: ∀v',RV ρ v v'->K v'):Jk σ x' K:=by
 unfold Ub at h;split at h
 .obtain⟨m,h1,rfl⟩:=hx
  split at h
  .rename_i kvs hg
   obtain⟨h2,h3⟩:=AY h;cases h3;obtain⟨o',g2,kvs',g3,rfl⟩:=hs.at hg h1;simp only[Jk,g2];have:=g3.len;exact⟨by rw[this];exact Nat.le_of_ble_eq_true h2,U _ (by simp only[RV];rw[this];rfl)⟩
  .cases h
 .cases h
  simp only[RV]at hx;subst hx;exact U _ (by simp only[RV])
 .cases h
def IA (s:St) (sz:Nat) (y:V):Option (List (List V)):=
 match y with
 | .l ys _=>bif ys.all (fun e=>Nat.beq e.length sz)then some ys else none
 | .sl m len _=>match s.t.get m with
   | some (.arr s' ys)=>bif Nat.beq s' sz&&Nat.ble len ys.length then some (ys.take len)else none
   | _=>none
 | .sv m s1 off len=>match s.t.get m with
   | some (.arr s' ys)=>bif Nat.beq s1 sz&&(Nat.beq s' sz&&Nat.ble (off+len) ys.length)then some ((ys.drop off).take len)else none
   | _=>none
 | _=>none
def HP {s:St} (hs:SR P ρ s σ) {sz:Nat} {y y':V} {ys:List (List V)} (h:IA s sz y=some ys) (hy:RV ρ y y') {K:List (List V)->Prop} (U: ∀ys',cg ρ ys ys'->K ys'):rowsOf σ sz y' K:=by
 unfold IA at h;split at h
 .obtain⟨es',h1,rfl⟩:=hy
  obtain⟨h2,h3⟩:=AY h;cases h3;exact⟨N7 h2 (FK.1 h1),U _ (FK.1 h1)⟩
 .obtain⟨m,h1,rfl⟩:=hy
  split at h
  .rename_i es hg
   obtain⟨o',g2,es',g3,rfl⟩:=hs.at hg h1;obtain⟨h2,h3⟩:=AY h;simp only[A8]at h2;cases h3;simp only[rowsOf,g2];exact⟨Cn h2.1,by rw[g3.len];exact Nat.le_of_ble_eq_true h2.2,U _ (g3.take _)⟩
  .cases h
 .obtain⟨m,h1,rfl⟩:=hy
  split at h
  .rename_i es hg
   obtain⟨o',g2,es',g3,rfl⟩:=hs.at hg h1;obtain⟨h2,h3⟩:=AY h;simp only[A8]at h2;cases h3;simp only[rowsOf,g2];exact⟨Cn h2.1,Cn h2.2.1,by rw[g3.len];exact Nat.le_of_ble_eq_true h2.2.2,U _ ((g3.drop _).take _)⟩
  .cases h
 .cases h
def St.new {β:Type} (s:St) (o:EO) (K:Nat->St->Option β):Option β:=
 match s.nx with
 | 0=>Tr.put (some o) A5 s.t 0 fun t=>K 0 ⟨1,t⟩
 | n+1=>bif Nat.ble (n+1) L5 then Tr.put (some o) A5 s.t (n+1) fun t=>K (n+1) ⟨n+2,t⟩else none
def St.Hk {β:Type} {s:St} {o:EO} {K:Nat->St->Option β} {x:β} (h:s.new o K=some x):s.nx<=L5/\K s.nx ⟨s.nx+1,Tr.set (some o) A5 s.t s.nx⟩=some x:=by
 obtain⟨n,t⟩:=s;cases n with
 | zero=>simp only[St.new]at h;rw[Tr.put_eq]at h;exact⟨by simp[L5],h⟩
 | succ n=>
   simp only[St.new]at h;obtain⟨h1,h2⟩:=AY h;rw[Tr.put_eq]at h2;exact⟨Nat.le_of_ble_eq_true h1,h2⟩
def Q6: ∀ {ys ys':List (List V)} {ns:List Int},Eu ys=some ns->cg ρ ys ys'->Eu ys'=some ns
 | [],ys',ns,h,hr=>by obtain rfl:ys'= []:=hr;exact h
 | e ::r,ys',ns,h,hr=>by
   unfold Eu at h;split at h
   .cases ‹_= []›
   .rename_i n r' he
    cases he;obtain⟨e',r'',h1,h2,rfl⟩:=hr;obtain⟨v',l',h3,h4,rfl⟩:=h1;obtain rfl:l'= []:=h4;simp only[RV]at h3;subst h3;split at h
    .rename_i l hl
     cases h;simp only[Eu,Q6 hl h2]
    .cases h
   .cases h
def dM (s:St) (x:V):Option V:=
 match IA s 1 x with
 | some ys=>match Eu ys with
   | some ns=>some (.s ⟨(ns.map fun n=>UInt8.ofNat n.toNat).toArray⟩)
   | none=>none
 | none=>none
def mR {s:St} (hs:SR P ρ s σ) {x x' v:V} (h:dM s x=some v) (hx:RV ρ x x') {K:V->Prop} (U: ∀v',RV ρ v v'->K v'):dI σ x' K:=by
 unfold dM at h;split at h
 .rename_i ys hys
  split at h
  .rename_i ns hn
   cases h;refine HP hs hys hx fun ys' hr=>?_
   rw[Q6 hn hr];exact U _ (by simp only[RV])
  .cases h
 .cases h
def uT (b L:Nat):Bool:=Nat.ble L 1073741824&&Nat.ble b 131072
def SU {b L:Nat} (h:uT b L=true):L<=Ay/\L*b<=140737488355328:=by
 simp only[uT,A8]at h;have h1:=Nat.le_of_ble_eq_true h.1;have h2:=Nat.le_of_ble_eq_true h.2;have h3:L*b<=1073741824*131072:=Nat.mul_le_mul h1 h2;exact⟨by unfold Ay;omega,by omega⟩
def K9 (b : Nat) (s:St) (sz:Nat) (x y:V):Option (V×St):=
 match IA s sz y with
 | some ys =>bif ys.all (fun e=>e.all CA)then
  match x with
  | .l es full=>bif es.all (fun e=>Nat.beq e.length sz)&&uT b (es.length+ys.length)then
   match ys with
   | []=>some (.l es full,s)
   | z::zs=>bif full then s.new (.arr sz (es++z::zs)) fun i s'=>some (.sl i (es.length+(z::zs).length) 0,s')else none
    else none
  | .sl n len _=>match s.t.get n with
    | some (.arr s1 es)=>bif Nat.beq s1 sz&&(Nat.beq len es.length&&uT b (es.length+ys.length))then
     Tr.put none A5 s.t n fun t=>St.new ⟨s.nx,t⟩ (.arr sz (es++ys)) fun i s'=>some (.sl i (es.length+ys.length) 0,s')else none
    | _=>none
  | _=>none
   else none
 | none=>none
def X4 {b : Nat} {s s':St} (hs:SR P ρ s σ) {sz:Nat} {x x' y y' v:V} (h:K9 b s sz x y=some (v,s')) (hx:RV ρ x x') (hy:RV ρ y y') {K:V->AH->Prop}
    (U: ∀ρ' v' σ',ρ.le ρ'->RV ρ' v v'->SR P ρ' s' σ'->K v' σ'):AM b σ sz x' y' K:=by
 unfold K9 at h;split at h
 .rename_i ys hys
  obtain⟨h1,h2⟩:=AY h;refine HP hs hys hy fun ys' hr=>⟨Lg h1 hr,?_⟩
  split at h2
  .rename_i es full
   obtain⟨es',g1,rfl⟩:=hx;have g1:=FK.1 g1;obtain⟨h3,h4⟩:=AY h2;simp only[A8]at h3;refine⟨N7 h3.1 g1,by rw[g1.len,hr.len];exact SU h3.2,fun e=>?_,fun e=>?_⟩
   .split at h4
    .cases h4
     exact U ρ _ _ (.refl _) (by simp only[RV];exact⟨es',FK.2 g1,rfl⟩) hs
    .subst e
     have:=hr.len;simp at this
   .split at h4
    .cases hr
     exact absurd rfl e
    .rename_i z zs
     obtain⟨h5,h6⟩:=AY h4;obtain⟨h7,h8⟩:=St.Hk h6;cases h8;refine⟨h5,fun n cap hn hc=>?_⟩;obtain⟨ρ',q1,q2,q3⟩:=hs.new h7 hn cap (o:= .arr sz (es++z::zs)) (o':= .arr sz (es'++ys') cap) ⟨_,g1.app hr,rfl⟩;exact U ρ' _ _ q1 (by simp only[RV];exact⟨_,q2,by rw[g1.len,hr.len]⟩) q3
  .rename_i n len
   obtain⟨m,g1,rfl⟩:=hx;split at h2
   .rename_i s1 es hg
    obtain⟨o',g2,es',g3,rfl⟩:=hs.at hg g1;obtain⟨h3,h4⟩:=AY h2;simp only[A8]at h3;rw[Tr.put_eq]at h4;obtain⟨h5,h6⟩:=St.Hk h4;cases h6;have e1:=Cn h3.1;subst e1;simp only[g2];refine⟨trivial,trivial,by rw[g3.len];exact Cn h3.2.1,by rw[g3.len,hr.len];exact SU h3.2.2,fun n' cap' hn hc=>?_⟩;obtain⟨ρ',q1,q2,q3⟩:=(hs.del hg g1).new h5 hn cap' (o:= .arr s1 (es++ys)) (o':= .arr s1 (es'++ys') cap') ⟨_,g3.app hr,rfl⟩;exact U ρ' _ _ q1 (by simp only[RV];exact⟨_,q2,by rw[g3.len,hr.len]⟩) q3
   .cases h2
  .cases h2
 .cases h
def Ud (b:Nat) (s:St) (sz:Nat) (x y:V):Option V:=
 match IA s sz y with
 | some ys=>bif ys.all (fun e=>e.all CA)then
  match x with
  | .l es full=>bif es.all (fun e=>Nat.beq e.length sz)&&(uT b (es.length+ys.length)&&(full||ys.isEmpty))then some (.l (es++ys) false)else none
  | _=>none
   else none
 | none=>none
def iX {b:Nat} {s:St} (hs:SR P ρ s σ) {sz:Nat} {x x' y y' v:V} (h:Ud b s sz x y=some v) (hx:RV ρ x x') (hy:RV ρ y y') {K:V->Prop} (U: ∀v',RV ρ v v'->K v'):Ab b σ sz x' y' K:=by
 unfold Ud at h;split at h
 .rename_i ys hys
  obtain⟨h1,h2⟩:=AY h;refine HP hs hys hy fun ys' hr=>⟨Lg h1 hr,?_⟩
  split at h2
  .rename_i es full
   obtain⟨es',g1,rfl⟩:=hx;have g1:=FK.1 g1;obtain⟨h3,h4⟩:=AY h2;simp only[A8,EJ]at h3;cases h4;refine⟨N7 h3.1 g1,by rw[g1.len,hr.len];exact SU h3.2.1,fun e=>?_,U _ (by simp only[RV];exact⟨_,FK.2 (g1.app hr),rfl⟩)⟩;rcases h3.2.2 with h|h
   .exact h
   .have:ys= []:=by simpa using h
    subst this;cases hr;exact absurd rfl e
  .cases h2
 .cases h
def js (s:St) (sz:Nat) (ys:List (List V)) (n off len:Nat):Option (V×St):=
 match s.t.get n with
 | some (.arr s1 es)=>bif Nat.beq s1 sz&&Nat.ble (off+len) es.length then
  Tr.put (some (.arr s1 (es.take off++(ys.take (min ys.length len)++es.drop (off+min ys.length len))))) A5 s.t n fun t=>some (.i .i64 (.ofNat (min ys.length len)),⟨s.nx,t⟩)else none
 | _=>none
def ZR {s s':St} (hs:SR P ρ s σ) {sz n off len:Nat} {ys ys':List (List V)} (hr:cg ρ ys ys') {m:Nat×Nat} (hm:ρ n=some m) {v:V} (h:js s sz ys n off len=some (v,s')) {K:V->AH->Prop}
    (U: ∀v' σ',RV ρ v v'->SR P ρ s' σ'->K v' σ'):OE σ sz ys' m.1 off len K:=by
 unfold js at h;split at h
 .rename_i s1 es hg
  obtain⟨o',g2,es',g3,rfl⟩:=hs.at hg hm;obtain⟨h3,h4⟩:=AY h;simp only[A8]at h3;rw[Tr.put_eq]at h4;cases h4;simp only[OE,g2];refine⟨Cn h3.1,by rw[g3.len];exact Nat.le_of_ble_eq_true h3.2,?_⟩;rw[hr.len];exact U _ _ (by simp only[RV];rfl) (hs.A6 hg hm ⟨_,((g3.take off).app ((hr.take _).app (g3.drop _))),rfl⟩)
 .cases h
def Uc (s:St) (sz:Nat) (x y:V):Option (V×St):=
 match IA s sz y with
 | some ys=>bif ys.all (fun e=>e.all CA)then
  match x with
  | .sl n len _=>js s sz ys n 0 len
  | .sv n s1 off len=>bif Nat.beq s1 sz then js s sz ys n off len else none
  | _=>none
   else none
 | none=>none
def iW {s s':St} (hs:SR P ρ s σ) {sz:Nat} {x x' y y' v:V} (h:Uc s sz x y=some (v,s')) (hx:RV ρ x x') (hy:RV ρ y y') {K:V->AH->Prop}
    (U: ∀v' σ',RV ρ v v'->SR P ρ s' σ'->K v' σ'):Aa σ sz x' y' K:=by
 unfold Uc at h;split at h
 .rename_i ys hys
  obtain⟨h1,h2⟩:=AY h;refine HP hs hys hy fun ys' hr=>⟨Lg h1 hr,?_⟩
  split at h2
  .obtain⟨m,g1,rfl⟩:=hx
   exact ZR hs hr g1 h2 U
  .obtain⟨m,g1,rfl⟩:=hx
   obtain⟨h3,h4⟩:=AY h2;exact⟨Cn h3,ZR hs hr g1 h4 U⟩
  .cases h2
 .cases h
def UD (o:Option V) (d:Int):Option Int:=
 match o with
 | none=>some d
 | some (.i _ n)=>some n
 | _=>none
def nM (ρ:Ren):Option V->Option V->Prop
 | none,o=>o=none
 | some v,o=> ∃v',RV ρ v v'/\o=some v'
def I8 {o o':Option V} {d n:Int} (h:UD o d=some n) (ho:nM ρ o o') {K:Int->Prop} (U:K n):Nr o' d K:=by
 unfold UD at h;split at h
 .cases h;cases ho;exact U
 .obtain⟨v',h1,rfl⟩:=ho
  simp only[RV]at h1;subst h1;cases h;exact U
 .cases h
def Oi (s : St) (sz:Nat) (x:V) (lo hi mx:Option V):Option (V×St):=
 match x with
 | .l es full=>match UD hi (.ofNat es.length),UD lo 0 with
   | some h,some l=>bif es.all (fun e=>Nat.beq e.length sz)&&(OA 0 l&&(OA l h&&OA h (.ofNat es.length)))then
    match mx with
    | none=>some (.l ((es.take h.toNat).drop l.toNat) (full&&Zs h (.ofNat es.length)),s)
    | some (.i _ m)=>bif Zs m h then some (.l ((es.take h.toNat).drop l.toNat) true,s)else none
    | _=>none
     else none
   | _,_=>none
 | .sl n len _=>match UD hi (.ofNat len),UD lo 0 with
   | some h,some l=>bif OA 0 l&&(OA l h&&OA h (.ofNat len))then
    match mx with
    | none=>some (.sv n sz l.toNat (h - l).toNat,s)
    | some (.i _ m)=>match s.t.get n with
      | some (.arr s1 es)=>bif Zs m h&&(Zs h (.ofNat len)&&(Zs l 0&&(Nat.beq s1 sz&&Nat.beq len es.length)))then Tr.put none A5 s.t n fun t=>St.new ⟨s.nx,t⟩ (.arr s1 es) fun i s'=>some (.sl i len 0,s')else none
      | _=>none
    | _=>none
     else none
   | _,_=>none
 | .sv n s1 off len=>match UD hi (.ofNat len),UD lo 0,mx with
   | some h,some l,none=>bif Nat.beq s1 sz&&(OA 0 l&&(OA l h&&OA h (.ofNat len)))then some (.sv n sz (off+l.toNat) (h - l).toNat,s)else none
   | _,_,_=>none
 | _=>none
def Sg {a b:Int} (h:Zs a b=true):a=b:=by rw[Sh]at h;simpa using h
def bo {s s':St} (hs:SR P ρ s σ) {sz:Nat} {x x' v:V} {lo hi mx lo' hi' mx':Option V} (h:Oi s sz x lo hi mx=some (v,s')) (hx:RV ρ x x') (h1:nM ρ lo lo') (h2:nM ρ hi hi') (h3:nM ρ mx mx') {K:V->AH->Prop}
    (U: ∀ρ' v' σ',ρ.le ρ'->RV ρ' v v'->SR P ρ' s' σ'->K v' σ'):AP σ sz x' lo' hi' mx' K:=by
 unfold Oi at h;split at h
 .rename_i es full
  obtain⟨es',g1,rfl⟩:=hx;have g1:=FK.1 g1;split at h
  .rename_i hh ll e1 e2
   obtain⟨h4,h5⟩:=AY h;simp only[A8]at h4;refine⟨N7 h4.1 g1,?_⟩;rw[g1.len];refine I8 e1 h2 ?_;refine I8 e2 h1 ?_;refine⟨D9 h4.2.1,D9 h4.2.2.1,D9 h4.2.2.2,?_⟩;split at h5
   .cases h3
    cases h5;refine U ρ _ _ (.refl _) ?_ hs;simp only[RV];refine⟨_,FK.2 ((g1.take _).drop _),?_⟩;congr 1;rw[Sh];congr 1
   .obtain⟨v',q1,rfl⟩:=h3
    simp only[RV]at q1;subst q1;obtain⟨h6,h7⟩:=AY h5;cases h7;exact⟨Sg h6,U ρ _ _ (.refl _) (by simp only[RV];exact⟨_,FK.2 ((g1.take _).drop _),rfl⟩) hs⟩
   .cases h5
  .cases h
 .rename_i n len
  obtain⟨m,g1,rfl⟩:=hx;split at h
  .rename_i hh ll e1 e2
   obtain⟨h4,h5⟩:=AY h;simp only[A8]at h4;simp only[AP];refine I8 e1 h2 ?_;refine I8 e2 h1 ?_;refine⟨D9 h4.1,D9 h4.2.1,D9 h4.2.2,?_⟩;split at h5
   .cases h3
    cases h5;exact U ρ _ _ (.refl _) (by simp only[RV];exact⟨m,g1,rfl⟩) hs
   .obtain⟨v',q1,rfl⟩:=h3
    simp only[RV]at q1;subst q1;split at h5
    .rename_i s1 es hg
     obtain⟨o',g2,es',g3,rfl⟩:=hs.at hg g1;obtain⟨h6,h7⟩:=AY h5;simp only[A8]at h6;rw[Tr.put_eq]at h7;obtain⟨h8,h9⟩:=St.Hk h7;cases h9;simp only[g2];have h10:=Cn h6.2.2.2.2;refine⟨Sg h6.1,Sg h6.2.1,Sg h6.2.2.1,Cn h6.2.2.2.1,trivial,by rw[g3.len];exact h10,.inr ?_⟩;obtain⟨ρ',q1,q2,q3⟩:=(hs.del hg g1).new h8 (DF σ m.1) n (o:= .arr s1 es) (o':= .arr s1 es' n) ⟨es',g3,rfl⟩
     have e:Gl.A6 (Gl.del σ m.1) m.1 (.arr s1 es' n)=Gl.A6 σ m.1 (.arr s1 es' n):=by
      funext k;by_cases hk:k=m.1
      .simp[Gl.A6,hk]
      .simp[Gl.A6,Gl.del,hk]
     rw[e]at q3;exact U ρ' _ _ q1 (by simp only[RV];exact⟨_,q2,rfl⟩) q3
    .cases h5
   .cases h5
  .cases h
 .obtain⟨m,g1,rfl⟩:=hx
  split at h
  .rename_i hh ll e1 e2
   cases h3;obtain⟨h4,h5⟩:=AY h;simp only[A8]at h4;cases h5;simp only[AP];refine I8 e1 h2 ?_;refine I8 e2 h1 ?_;exact⟨D9 h4.2.1,D9 h4.2.2.1,D9 h4.2.2.2,Cn h4.1,trivial,U ρ _ _ (.refl _) (by simp only[RV];exact⟨m,g1,rfl⟩) hs⟩
  .cases h
 .cases h
def Lv: ∀ {cs ds:List V} {t:Bool},Bp cs ds=some t->B7 cs=true/\B7 ds=true
 | [],[],_,_=>⟨rfl,rfl⟩
 | x ::xs,y::ys,t,h=>by
   cases x<;>cases y<;>simp only[Bp]at h<;>first|cases h|skip
   split at h
   .obtain⟨a,h1,_⟩:=Aj h
    obtain⟨h2,h3⟩:=Lv h1;exact⟨by simp[B7,BF,h2],by simp[B7,BF,h3]⟩
   .cases h
 | [],_::_,_,h=>by simp[Bp]at h
 | x::xs,[],_,h=>by cases x<;>simp[Bp]at h
def jr {cs cs':List V} (h:Kg ρ cs cs') (hp:B7 cs=true):cs'=cs:=RL.fn cs _ _ (BU.2 h) (RL.pure cs hp)
def dO (len:Nat) (neg:Bool) (x y:V):Option V:=
 match x,y with
 | .a cs,.a ds=>bif Nat.beq cs.length len then(match Bp cs ds with|some t=>some (.b (bif neg then !t else t))|none=>none)else none
 | _,_=>none
def mU {len:Nat} {neg:Bool} {x x' y y' v:V} (h:dO len neg x y=some v) (hx:RV ρ x x') (hy:RV ρ y y') {K:V->Prop} (U: ∀v',RV ρ v v'->K v'):SF len neg x' y' K:=by
 unfold dO at h;split at h
 .rename_i cs ds
  obtain⟨cs',g1,rfl⟩:=hx;obtain⟨ds',g2,rfl⟩:=hy;obtain⟨h1,h2⟩:=AY h;split at h2
  .rename_i t ht
   cases h2;obtain⟨p1,p2⟩:=Lv ht;have e1:=jr (BU.1 g1) p1;have e2:=jr (BU.1 g2) p2;subst e1;subst e2;simp only[SF,h1,ht];exact U _ (by simp only[RV])
  .cases h2
 .cases h
def dN (kind:Nat) (neg:Bool) (x:V):Option V:=
 match kind,x with
 | 0,.pn=>some (.b (!neg))
 | 0,.rp _=>some (.b neg)
 | 0,.p _ _=>some (.b neg)
 | 0,.pe _ _ _ _=>some (.b neg)
 | 1,.sl _ _ _=>some (.b neg)
 | 1,.l (_::_) _=>some (.b neg)
 | 2,.DW=>some (.b (!neg))
 | 2,.Eo _ _=>some (.b neg)
 | 3,.mn=>some (.b (!neg))
 | 3,.m _=>some (.b neg)
 | 4,.Kj=>some (.b (!neg))
 | 4,.f _ _ _=>some (.b neg)
 | _,_=>none
def mT {kind:Nat} {neg:Bool} {x x' v:V} (h:dN kind neg x=some v) (hx:RV ρ x x') {K:V->Prop} (U: ∀v',RV ρ v v'->K v'):IU kind neg x' K:=by
 unfold dN at h;split at h
 .simp only[RV]at hx;subst hx;cases h;exact U _ (by simp only[RV])
 .obtain⟨_,_,rfl⟩:=hx;cases h;exact U _ (by simp only[RV])
 .obtain⟨_,_,rfl⟩:=hx;cases h;exact U _ (by simp only[RV])
 .obtain⟨_,_,rfl⟩:=hx;cases h;exact U _ (by simp only[RV])
 .obtain⟨_,_,rfl⟩:=hx;cases h;exact U _ (by simp only[RV])
 .obtain⟨es',g1,rfl⟩:=hx
  cases h;obtain⟨y,ys,_,_,rfl⟩:=FK.1 g1;exact⟨fun e=>(by cases e),fun _=>U _ (by simp only[RV])⟩
 .simp only[RV]at hx;subst hx;cases h;exact U _ (by simp only[RV])
 .obtain⟨_,_,rfl⟩:=hx;cases h;exact U _ (by simp only[RV])
 .simp only[RV]at hx;subst hx;cases h;exact U _ (by simp only[RV])
 .obtain⟨_,_,rfl⟩:=hx;cases h;exact U _ (by simp only[RV])
 .simp only[RV]at hx;subst hx;cases h;exact U _ (by simp only[RV])
 .obtain⟨_,_,_,_,_,_,rfl⟩:=hx;cases h;exact U _ (by simp only[RV])
 .cases h
def Is (s:St) (sz:Nat) (z:List V) (x y:V):Option (V×St):=
 match x,y with
 | .i _ n,.i _ m=>bif OA 0 n&&(OA n m&&(Nat.ble m.toNat 1073741824&&B7 z))then s.new (.arr sz (List.replicate n.toNat z)) fun i s'=>some (.sl i n.toNat 0,s')else none
 | _,_=>none
def WQ {s s':St} (hs:SR P ρ s σ) {sz:Nat} {z:List V} {x x' y y' v:V} (h:Is s sz z x y=some (v,s')) (hx:RV ρ x x') (hy:RV ρ y y') {K:V->AH->Prop}
    (U: ∀ρ' v' σ',ρ.le ρ'->RV ρ' v v'->SR P ρ' s' σ'->K v' σ'):AL σ sz z x' y' K:=by
 unfold Is at h;split at h
 .rename_i k1 n k2 m
  simp only[RV]at hx hy;subst hx;subst hy;obtain⟨h1,h2⟩:=AY h;simp only[A8]at h1;obtain⟨h3,h4⟩:=St.Hk h2;cases h4;have h5:=D9 h1.1;have h7:=D9 h1.2.1;have h6:m.toNat<=1073741824:=Nat.le_of_ble_eq_true h1.2.2.1;refine⟨h5,h7,by omega,fun id hid=>?_⟩;obtain⟨ρ',q1,q2,q3⟩:=hs.new h3 hid m.toNat (o:= .arr sz (List.replicate n.toNat z)) (o':= .arr sz (List.replicate n.toNat z) m.toNat) ⟨_,F2.rep (BU.1 (RL.pure z h1.2.2.2)) _,rfl⟩;exact U ρ' _ _ q1 (by simp only[RV];exact⟨_,q2,rfl⟩) q3
 .cases h
def NK: ∀ {l:List IntKind} {cs:List V},DN l cs=true->B7 cs=true
 | [],[],_=>rfl
 | q::l,x::cs,h=>by
   cases x<;>simp only[DN]at h<;>first|cases h|skip
   simp only[A8]at h;simp[B7,BF,NK h.2]
 | [],_::_,h=>by simp[DN]at h
 | _::_,[],h=>by simp[DN]at h
def E0 {ks:KS} {v:V} (h:BI ks v=true):BF v=true:=by
 unfold BI at h;split at h
 .rfl
 .exact NK h
 .rfl
 .cases h
def RC {ks:KS} {key:V}: ∀ {kvs kvs':List (V×V)},(kvs.all fun kv=>BI ks kv.1)=true->F2 (RK ρ) kvs kvs'->nM ρ (CU key kvs) (CU key kvs')
 | [],_,_,h=>by cases h;rfl
 | (k,v)::r,_,ha,⟨y,ys,h1,h2,e⟩=>by
   subst e;obtain⟨k',v'⟩:=y;simp only[WX,A8]at ha;have e1:k'=k:=RV.jZ h1.1 (E0 ha.1);subst e1;simp only[CU];cases DZ key k' with
   | true=>exact⟨v',h1.2,rfl⟩
   | false=>exact RC ha.2 h2
def VG {ks:KS} {key x x':V} (hp:BF key=true) (hx:RV ρ x x'): ∀ {kvs kvs':List (V×V)},(kvs.all fun kv=>BI ks kv.1)=true->F2 (RK ρ) kvs kvs'->F2 (RK ρ) (DA key x kvs) (DA key x' kvs')
 | [],_,_,h=>by cases h;exact F2.cons ⟨RV.pure key hp,hx⟩ F2.nil
 | (k,v)::r,_,ha,⟨y,ys,h1,h2,e⟩=>by
   subst e;obtain⟨k',v'⟩:=y;simp only[WX,A8]at ha;have e1:k'=k:=RV.jZ h1.1 (E0 ha.1);subst e1;simp only[DA];cases DZ key k' with
   | true=>exact F2.cons ⟨RV.pure key hp,hx⟩ h2
   | false=>exact F2.cons h1 (VG hp hx ha.2 h2)
def Y6 {ks:KS} {kvs kvs':List (V×V)} (ha:(kvs.all fun kv=>BI ks kv.1)=true) (h:F2 (RK ρ) kvs kvs'): ∀kv∈kvs',BI ks kv.1=true:=fun kv hm=>by
 obtain⟨u,hu,hr⟩:=F2.mem h hm;rw[Dh]at ha;have h1:=ha u hu;rw[RV.jZ hr.1 (E0 h1)];exact h1
def K7 (s:St) (ks:KS) (z:V) (ok:Bool) (vm vk:V):Option V:=
 bif BI ks vk&&BF z then
  match vm with
  | .m n=>match s.t.get n with
    | some (.map kvs)=>bif kvs.all (fun kv=>BI ks kv.1)then some (found z ok (CU vk kvs))else none
    | _=>none
  | .mn=>some (found z ok none)
  | _=>none
 else none
def VS {z:V} {ok:Bool} (hz:BF z=true) {o o':Option V} (h:nM ρ o o'):RV ρ (found z ok o) (found z ok o'):=by
 cases o with
 | none=>
   cases h;cases ok with
   | true=>simp only[found,cond_true,RV];exact⟨_,BU.2 (F2.cons (RV.pure z hz) (F2.cons (RV.pure _ rfl) F2.nil)),rfl⟩
   | false=>exact RV.pure z hz
 | some v=>
   obtain⟨v',h1,rfl⟩:=h;cases ok with
   | true=>simp only[found,cond_true,RV];exact⟨_,BU.2 (F2.cons h1 (F2.cons (RV.pure _ rfl) F2.nil)),rfl⟩
   | false=>exact h1
def X3 {s:St} (hs:SR P ρ s σ) {ks:KS} {z:V} {ok:Bool} {vm vm' vk vk' v:V} (h:K7 s ks z ok vm vk=some v) (hm:RV ρ vm vm') (hk:RV ρ vk vk') {K:V->Prop} (U: ∀v',RV ρ v v'->K v'):AN σ ks z ok vm' vk' K:=by
 unfold K7 at h;obtain⟨h1,h2⟩:=AY h;simp only[A8]at h1;have e:=RV.jZ hk (E0 h1.1);subst e;refine⟨h1.1,?_⟩;split at h2
 .obtain⟨m,g1,rfl⟩:=hm
  split at h2
  .rename_i kvs hg
   obtain⟨o',g2,kvs',g3,rfl⟩:=hs.at hg g1;obtain⟨h3,h4⟩:=AY h2;cases h4;simp only[g2];exact⟨Y6 h3 g3,U _ (VS h1.2 (RC h3 g3))⟩
  .cases h2
 .simp only[RV]at hm
  subst hm;cases h2;exact U _ (VS h1.2 rfl)
 .cases h2
def K6 (s:St) (ks:KS) (vm vk vv:V):Option St:=
 bif BI ks vk then
  match vm with
  | .m n=>match s.t.get n with
    | some (.map kvs)=>bif kvs.all (fun kv=>BI ks kv.1)then Tr.put (some (.map (DA vk vv kvs))) A5 s.t n fun t=>some ⟨s.nx,t⟩else none
    | _=>none
  | _=>none
 else none
def X2 {s s':St} (hs:SR P ρ s σ) {ks:KS} {vm vm' vk vk' vv vv':V} (h:K6 s ks vm vk vv=some s') (hm:RV ρ vm vm') (hk:RV ρ vk vk') (hv:RV ρ vv vv') {K:AH->Prop} (U: ∀σ',SR P ρ s' σ'->K σ') :
    AO σ ks vm' vk' vv' K:=by
 unfold K6 at h;obtain⟨h1,h2⟩:=AY h;have e:=RV.jZ hk (E0 h1);subst e;refine⟨h1,?_⟩;split at h2
 .obtain⟨m,g1,rfl⟩:=hm
  split at h2
  .rename_i kvs hg
   obtain⟨o',g2,kvs',g3,rfl⟩:=hs.at hg g1;obtain⟨h3,h4⟩:=AY h2;rw[Tr.put_eq]at h4;cases h4;simp only[g2];exact⟨Y6 h3 g3,U _ (hs.A6 hg g1 ⟨_,VG (E0 h1) hv h3 g3,rfl⟩)⟩
  .cases h2
 .cases h2
def MO (env:Env):List V->List (Nat×Nat×Bg)->Option (List V)
 | cs,[]=>some cs
 | cs,(off,sz,x)::r=>
   match DI env x with
   | some v=>match cellsOf v with
     | some vc=>bif Nat.beq vc.length sz&&Nat.ble (off+sz) cs.length then MO env (putAt cs off vc) r else none
     | none=>none
   | none=>none
def Rh (he:RE ρ env env₀): ∀ {ps:List (Nat×Nat×Bg)} {cs cs' cs1:List V},MO env cs ps=some cs1->Kg ρ cs cs'-> ∃cs1',Jn env₀ cs' ps=some cs1'/\Kg ρ cs1 cs1'
 | [],_,cs',_,h,hc=>by cases h;exact⟨cs',rfl,hc⟩
 | (off,sz,x)::r,cs,cs',cs1,h,hc=>by
   simp only[MO]at h;split at h
   .rename_i v hv
    split at h
    .rename_i vc hvc
     obtain⟨h1,h2⟩:=AY h;obtain⟨v',e1,e2⟩:=Av he hv;obtain⟨vc',e3,e4⟩:=GB hvc e2;obtain⟨c,e5,e6⟩:=Rh he h2 (LN hc e4);refine⟨c,?_,e6⟩;simp only[Jn,e1,e3];rw[e4.len,hc.len,h1];exact e5
    .cases h
   .cases h
def MP (env:Env) (sz:Nat):List (List V)->List (Nat×Bg)->Option (List (List V))
 | es,[]=>some es
 | es,(i,x)::r=>
   match DI env x with
   | some v=>match cellsOf v with
     | some vc=>bif Nat.beq vc.length sz&&Nat.blt i es.length then MP env sz (es.set i vc) r else none
     | none=>none
   | none=>none
def Ri (he:RE ρ env env₀) {sz:Nat}: ∀ {ps:List (Nat×Bg)} {cs cs' cs1:List (List V)},MP env sz cs ps=some cs1->cg ρ cs cs'-> ∃cs1',Ib env₀ sz cs' ps=some cs1'/\cg ρ cs1 cs1'
 | [],_,cs',_,h,hc=>by cases h;exact⟨cs',rfl,hc⟩
 | (i, x)::r,cs,cs',cs1,h,hc=>by
   simp only[MP]at h;split at h
   .rename_i v hv
    split at h
    .rename_i vc hvc
     obtain⟨h1,h2⟩:=AY h;obtain⟨v',e1,e2⟩:=Av he hv;obtain⟨vc',e3,e4⟩:=GB hvc e2;obtain⟨c,e5,e6⟩:=Ri he h2 (hc.set i e4);refine⟨c,?_,e6⟩;simp only[Ib,e1,e3];rw[e4.len,hc.len,h1];exact e5
    .cases h
   .cases h
end Go.Gl
