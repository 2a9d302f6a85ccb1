import Derived.Test.YtcfkfhaedllcpaaGreatW11
import Derived.Test.YtcfkfhaedllcpaaGreatW35
set_option linter.all false
set_option linter.defProp false
set_option maxHeartbeats 8000000
noncomputable section
namespace Go.Gl
def F2 {α β:Type} (R:α->β->Prop):List α->List β->Prop
 | [],l=>l= []
 | x::xs,l=> ∃y ys,R x y/\F2 R xs ys/\l=y::ys
section
variable {α β:Type} {R R':α->β->Prop}
def F2.nil:F2 R [] []:=rfl
def F2.cons {x:α} {y:β} {xs:List α} {ys:List β} (h:R x y) (h':F2 R xs ys):F2 R (x::xs) (y::ys):=⟨y,ys,h,h',rfl⟩
def F2.len: ∀ {xs:List α} {ys:List β},F2 R xs ys->ys.length=xs.length
 | [],_,h=>by cases h;rfl
 | _::_,_,⟨_,_,_,h,e⟩=>by subst e;simp[F2.len h]
def F2.get: ∀ {xs:List α} {ys:List β},F2 R xs ys-> ∀ {i:Nat} {x:α},xs[i]? =some x-> ∃y,ys[i]? =some y/\R x y
 | x::xs,_,⟨y,ys,h1,h2,e⟩,i,z,hi=>by
   subst e;cases i with
   | zero=>simp at hi;subst hi;exact⟨y,by simp,h1⟩
   | succ i=>simp at hi;simpa using F2.get h2 hi
def F2.mono (hm: ∀x y,R x y->R' x y): ∀ {xs:List α} {ys:List β},F2 R xs ys->F2 R' xs ys
 | [],_,h=>h
 | _::_,_,⟨y,ys,h1,h2,e⟩=>⟨y,ys,hm _ _ h1,F2.mono hm h2,e⟩
def F2.app: ∀ {xs xs':List α} {ys ys':List β},F2 R xs ys->F2 R xs' ys'->F2 R (xs++xs') (ys++ys')
 | [],_,_,_,h,h'=>by cases h;exact h'
 | _::_,_,_,_,⟨y,ys,h1,h2,e⟩,h'=>by subst e;exact⟨y,ys++_,h1,F2.app h2 h',rfl⟩
def F2.take: ∀ {xs:List α} {ys:List β},F2 R xs ys-> ∀n,F2 R (xs.take n) (ys.take n)
 | [],_,h,n=>by cases h;simp;rfl
 | _::_,_,⟨y,ys,h1,h2,e⟩,n=>by
   subst e;cases n with
   | zero=>exact rfl
   | succ n=>exact⟨y,_,h1,F2.take h2 n,rfl⟩
def F2.drop: ∀ {xs:List α} {ys:List β},F2 R xs ys-> ∀n,F2 R (xs.drop n) (ys.drop n)
 | [],_,h,n=>by cases h;simp;rfl
 | _::_,_,⟨y,ys,h1,h2,e⟩,n=>by
   subst e;cases n with
   | zero=>exact⟨y,ys,h1,h2,rfl⟩
   | succ n=>exact F2.drop h2 n
def F2.set: ∀ {xs:List α} {ys:List β},F2 R xs ys-> ∀(i:Nat) {x:α} {y:β},R x y->F2 R (xs.set i x) (ys.set i y)
 | [],_,h,i,_,_,_=>by cases h;simp;rfl
 | _::_,_,⟨y,ys,h1,h2,e⟩,i,_,_,h=>by
   subst e;cases i with
   | zero=>exact⟨_,_,h,h2,rfl⟩
   | succ i=>exact⟨_,_,h1,F2.set h2 i h,rfl⟩
def F2.rep {x:α} {y:β} (h:R x y): ∀n,F2 R (List.replicate n x) (List.replicate n y)
 | 0=>rfl
 | n+1=>⟨y,_,h,F2.rep h n,rfl⟩
def F2.mem: ∀ {xs:List α} {ys:List β},F2 R xs ys-> ∀ {y:β},y∈ys-> ∃x,x∈xs/\R x y
 | [],_,h,y,hy=>by cases h;cases hy
 | x ::_,_,⟨z,zs,h1,h2,e⟩,y,hy=>by
   subst e;rcases Fm.1 hy with rfl|hy
   .exact⟨x,.head _,h1⟩
   .obtain⟨u,hu,hr⟩:=F2.mem h2 hy
    exact⟨u,.tail _ hu,hr⟩
def F2.fn (hf: ∀x y z,R x y->R x z->y=z): ∀ {xs:List α} {ys zs:List β},F2 R xs ys->F2 R xs zs->ys=zs
 | [],_,_,h,h'=>by cases h;cases h';rfl
 | _::_,_,_,⟨y,ys,h1,h2,e⟩,⟨z,zs,h3,h4,e'⟩=>by
   subst e;subst e';rw[hf _ _ _ h1 h3,F2.fn hf h2 h4]
end
abbrev Ren:=Nat->Option (Nat×Nat)
def Ren.le (Y Y':Ren):Prop:= ∀i m,Y i=some m->Y' i=some m
def Ren.le.refl (Y:Ren):Y.le Y:=fun _ _ h=>h
def Ren.le.trans {a b c:Ren} (h:a.le b) (k:b.le c):a.le c:=fun i m e=>k i m (h i m e)
def ae (Y:Ren):Fn->Fn->Prop
 | .yield i,f=> ∃m,Y i=some m/\f= .yield m.1
 | fn,f=>f=fn
mutual
def RV (Y:Ren):V->V->Prop
 | .p n off,v=> ∃m,Y n=some m/\v= .p m.1 off
 | .sl n len _,v=> ∃m,Y n=some m/\v= .sl m.1 len m.2
 | .sv n sz off len,v=> ∃m,Y n=some m/\v= .sv m.1 sz off len
 | .pe n sz i off,v=> ∃m,Y n=some m/\v= .pe m.1 sz i off
 | .m n,v=> ∃m,Y n=some m/\v= .m m.1
 | .rp cs,v=> ∃cs',RL Y cs cs'/\v= .rp cs'
 | .l es f,v=> ∃es',RR Y es es'/\v= .l es' f
 | .f fn first cap,v=> ∃fn' first' cap',ae Y fn fn'/\RL Y first first'/\RL Y cap cap'/\v= .f fn' first' cap'
 | .Ey t x,v=> ∃x',RV Y x x'/\v= .Ey t x'
 | .a cs,v=> ∃cs',RL Y cs cs'/\v= .a cs'
 | .t cs,v=> ∃cs',RL Y cs cs'/\v= .t cs'
 | .b x,v=>v= .b x
 | .i k n,v=>v= .i k n
 | .s x,v=>v= .s x
 | .pn,v=>v= .pn
 | .mn,v=>v= .mn
 | .LN,v=>v= .LN
 | .DZ,v=>v= .DZ
 | .any,v=>v= .any
def RL (Y:Ren):List V->List V->Prop
 | [],l=>l= []
 | x::xs,l=> ∃y ys,RV Y x y/\RL Y xs ys/\l=y::ys
def RR (Y:Ren):List (List V)->List (List V)->Prop
 | [],l=>l= []
 | x::xs,l=> ∃y ys,RL Y x y/\RR Y xs ys/\l=y::ys
end
def BY {Y:Ren}: ∀ {xs ys:List V},RL Y xs ys↔F2 (RV Y) xs ys
 | [],_=>by simp only[RL,F2]
 | x::xs,l=>by
   simp only[RL,F2];constructor
   .rintro⟨y,ys,h1,h2,rfl⟩;exact⟨y,ys,h1,BY.1 h2,rfl⟩
   .rintro⟨y,ys,h1,h2,rfl⟩;exact⟨y,ys,h1,BY.2 h2,rfl⟩
def Fa {Y:Ren}: ∀ {xs ys:List (List V)},RR Y xs ys↔F2 (F2 (RV Y)) xs ys
 | [],_=>by simp only[RR,F2]
 | x::xs,l=>by
   simp only[RR,F2];constructor
   .rintro⟨y,ys,h1,h2,rfl⟩;exact⟨y,ys,BY.1 h1,Fa.1 h2,rfl⟩
   .rintro⟨y,ys,h1,h2,rfl⟩;exact⟨y,ys,BY.2 h1,Fa.2 h2,rfl⟩
def ae.mono {Y Y':Ren} (h:Y.le Y') {f g:Fn} (k:ae Y f g):ae Y' f g:=by
 cases f<;>first|exact k|exact⟨_,h _ _ k.choose_spec.1,k.choose_spec.2⟩
mutual
def RV.mono {Y Y':Ren} (h:Y.le Y'): ∀(v v':V),RV Y v v'->RV Y' v v'
 | .p _ _,_,k| .sl _ _ _,_,k| .sv _ _ _ _,_,k| .pe _ _ _ _,_,k| .m _,_,k=>by
   simp only[RV]at k ⊢;obtain⟨m,h1,h2⟩:=k;exact⟨m,h _ _ h1,h2⟩
 | .rp cs,_,k=>by
   simp only[RV]at k ⊢;obtain⟨c,h1,h2⟩:=k;exact⟨c,RL.mono h _ _ h1,h2⟩
 | .a cs,_,k=>by
   simp only[RV]at k ⊢;obtain⟨c,h1,h2⟩:=k;exact⟨c,RL.mono h _ _ h1,h2⟩
 | .t cs,_,k=>by
   simp only[RV]at k ⊢;obtain⟨c,h1,h2⟩:=k;exact⟨c,RL.mono h _ _ h1,h2⟩
 | .l es f,_,k=>by
   simp only[RV]at k ⊢;obtain⟨c,h1,h2⟩:=k;exact⟨c,RR.mono h _ _ h1,h2⟩
 | .f fn a b,_,k=>by
   simp only[RV]at k ⊢;obtain⟨g,c,d,h1,h2,h3,h4⟩:=k;exact⟨g,c,d,h1.mono h,RL.mono h _ _ h2,RL.mono h _ _ h3,h4⟩
 | .Ey t x,_,k=>by
   simp only[RV]at k ⊢;obtain⟨c,h1,h2⟩:=k;exact⟨c,RV.mono h _ _ h1,h2⟩
 | .b _,_,k| .i _ _,_,k| .s _,_,k| .pn,_,k| .mn,_,k| .LN,_,k| .DZ,_,k| .any,_,k=>by
   simp only[RV]at k ⊢;exact k
def RL.mono {Y Y':Ren} (h:Y.le Y'): ∀(l l':List V),RL Y l l'->RL Y' l l'
 | [],_,k=>by simp only[RL]at k ⊢;exact k
 | x::xs,_,k=>by
   simp only[RL]at k ⊢;obtain⟨y,ys,h1,h2,h3⟩:=k;exact⟨y,ys,RV.mono h _ _ h1,RL.mono h _ _ h2,h3⟩
def RR.mono {Y Y':Ren} (h:Y.le Y'): ∀(l l':List (List V)),RR Y l l'->RR Y' l l'
 | [],_,k=>by simp only[RR]at k ⊢;exact k
 | x::xs,_,k=>by
   simp only[RR]at k ⊢;obtain⟨y,ys,h1,h2,h3⟩:=k;exact⟨y,ys,RL.mono h _ _ h1,RR.mono h _ _ h2,h3⟩
end
def ae.fn {Y:Ren} {f g g':Fn} (h:ae Y f g) (k:ae Y f g'):g=g':=by
 cases f<;>first|(simp only[ae]at h k;rw[h,k];done)|skip
 simp only[ae]at h k;obtain⟨m,h1,rfl⟩:=h;obtain⟨m',h2,rfl⟩:=k;rw[h1]at h2;cases h2;rfl
mutual
def RV.fn {Y:Ren}: ∀(v a b:V),RV Y v a->RV Y v b->a=b
 | .p _ _,_,_,k,k'| .sl _ _ _,_,_,k,k'| .sv _ _ _ _,_,_,k,k'| .pe _ _ _ _,_,_,k,k'| .m _,_,_,k,k'=>by
   simp only[RV]at k k';obtain⟨m,h1,rfl⟩:=k;obtain⟨m',h2,rfl⟩:=k';rw[h1]at h2;cases h2;rfl
 | .rp _,_,_,k,k'| .a _,_,_,k,k'| .t _,_,_,k,k'=>by
   simp only[RV]at k k';obtain⟨m,h1,rfl⟩:=k;obtain⟨m',h2,rfl⟩:=k';rw[RL.fn _ _ _ h1 h2]
 | .l _ _,_,_,k,k'=>by
   simp only[RV]at k k';obtain⟨m,h1,rfl⟩:=k;obtain⟨m',h2,rfl⟩:=k';rw[RR.fn _ _ _ h1 h2]
 | .f fn a b,_,_,k,k'=>by
   simp only[RV]at k k';obtain⟨g,c,d,h1,h2,h3,rfl⟩:=k;obtain⟨g',c',d',h1',h2',h3',rfl⟩:=k';rw[h1.fn h1',RL.fn _ _ _ h2 h2',RL.fn _ _ _ h3 h3']
 | .Ey t x,_,_,k,k'=>by
   simp only[RV]at k k';obtain⟨m,h1,rfl⟩:=k;obtain⟨m',h2,rfl⟩:=k';rw[RV.fn _ _ _ h1 h2]
 | .b _,_,_,k,k'| .i _ _,_,_,k,k'| .s _,_,_,k,k'| .pn,_,_,k,k'| .mn,_,_,k,k'| .LN,_,_,k,k'| .DZ,_,_,k,k'| .any,_,_,k,k'=>by
   simp only[RV]at k k';rw[k,k']
def RL.fn {Y:Ren}: ∀(l a b:List V),RL Y l a->RL Y l b->a=b
 | [],_,_,k,k'=>by simp only[RL]at k k';rw[k,k']
 | x::xs,_,_,k,k'=>by
   simp only[RL]at k k';obtain⟨y,ys,h1,h2,rfl⟩:=k;obtain⟨z,zs,h3,h4,rfl⟩:=k';rw[RV.fn _ _ _ h1 h3,RL.fn _ _ _ h2 h4]
def RR.fn {Y:Ren}: ∀(l a b:List (List V)),RR Y l a->RR Y l b->a=b
 | [],_,_,k,k'=>by simp only[RR]at k k';rw[k,k']
 | x::xs,_,_,k,k'=>by
   simp only[RR]at k k';obtain⟨y,ys,h1,h2,rfl⟩:=k;obtain⟨z,zs,h3,h4,rfl⟩:=k';rw[RL.fn _ _ _ h1 h3,RR.fn _ _ _ h2 h4]
end
def Mu:Fn->Bool
 | .yield _=>false
 | _=>true
mutual
def BJ:V->Bool
 | .p _ _=>false
 | .sl _ _ _=>false
 | .sv _ _ _ _=>false
 | .pe _ _ _ _=>false
 | .m _=>false
 | .rp cs=>B6 cs
 | .a cs=>B6 cs
 | .t cs=>B6 cs
 | .l es _=>Rb es
 | .f fn a b=>Mu fn&&(B6 a&&B6 b)
 | .Ey _ x=>BJ x
 | _=>true
def B6:List V->Bool
 | []=>true
 | x::xs=>BJ x&&B6 xs
def Rb:List (List V)->Bool
 | []=>true
 | x::xs=>B6 x&&Rb xs
end
mutual
def RV.pure {Y:Ren}: ∀(v:V),BJ v=true->RV Y v v
 | .p _ _,h| .sl _ _ _,h| .sv _ _ _ _,h| .pe _ _ _ _,h| .m _,h=>by simp[BJ]at h
 | .rp cs,h| .a cs,h| .t cs,h=>by simp only[BJ]at h;simp only[RV];exact⟨_,RL.pure cs h,rfl⟩
 | .l es f,h=>by simp only[BJ]at h;simp only[RV];exact⟨_,RR.pure es h,rfl⟩
 | .f fn a b,h=>by
   simp only[BJ,BD]at h;simp only[RV];refine⟨fn,a,b,?_,RL.pure a h.2.1,RL.pure b h.2.2,rfl⟩;cases fn<;>first|rfl|(simp[Mu]at h)
 | .Ey t x,h=>by simp only[BJ]at h;simp only[RV];exact⟨_,RV.pure x h,rfl⟩
 | .b _,_| .i _ _,_| .s _,_| .pn,_| .mn,_| .LN,_| .DZ,_| .any,_=>by simp only[RV]
def RL.pure {Y:Ren}: ∀(v:List V),B6 v=true->RL Y v v
 | [],_=>by simp only[RL]
 | x::xs,h=>by
   simp only[B6,BD]at h;simp only[RL];exact⟨x,xs,RV.pure x h.1,RL.pure xs h.2,rfl⟩
def RR.pure {Y:Ren}: ∀(v:List (List V)),Rb v=true->RR Y v v
 | [],_=>by simp only[RR]
 | x::xs,h=>by
   simp only[Rb,BD]at h;simp only[RR];exact⟨x,xs,RL.pure x h.1,RR.pure xs h.2,rfl⟩
end
def RV.kC {Y:Ren} {v v':V} (h:RV Y v v') (hp:BJ v=true):v'=v:=RV.fn v _ _ h (RV.pure v hp)
mutual
def Eg:V->V->Bool
 | .b x,.b y=>x==y
 | .i k n,.i k' n'=>decide (k=k')&&decide (n=n')
 | .s x,.s y=>decide (x=y)
 | .pn,.pn=>true
 | .p n o,.p n' o'=>Nat.beq n n'&&Nat.beq o o'
 | .rp a,.rp b=>Mr a b
 | .l a f,.l b g=>(f==g)&&bB a b
 | .sl n a b,.sl n' a' b'=>Nat.beq n n'&&(Nat.beq a a'&&Nat.beq b b')
 | .sv n a b c,.sv n' a' b' c'=>Nat.beq n n'&&(Nat.beq a a'&&(Nat.beq b b'&&Nat.beq c c'))
 | .pe n a b c,.pe n' a' b' c'=>Nat.beq n n'&&(Nat.beq a a'&&(Nat.beq b b'&&Nat.beq c c'))
 | .m n,.m n'=>Nat.beq n n'
 | .mn,.mn=>true
 | .f fn a b,.f fn' a' b'=>decide (fn=fn')&&(Mr a a'&&Mr b b')
 | .LN,.LN=>true
 | .Ey t v,.Ey t' v'=>Nat.beq t t'&&Eg v v'
 | .DZ,.DZ=>true
 | .a a,.a b=>Mr a b
 | .t a,.t b=>Mr a b
 | .any,.any=>true
 | _,_=>false
def Mr:List V->List V->Bool
 | [],[]=>true
 | x::xs,y::ys=>Eg x y&&Mr xs ys
 | _,_=>false
def bB:List (List V)->List (List V)->Bool
 | [],[]=>true
 | x::xs,y::ys=>Mr x y&&bB xs ys
 | _,_=>false
end
def Ct {a b:Nat} (h:Nat.beq a b=true):a=b:=UX h
mutual
def Ou: ∀(a b:V),Eg a b=true->a=b
 | .b x,b,h=>by cases b<;>simp[Eg]at h;rw[h]
 | .i _ _,b,h=>by cases b<;>simp[Eg]at h;rw[h.1,h.2]
 | .s _,b,h=>by cases b<;>simp[Eg]at h;rw[h]
 | .pn,b,h=>by cases b<;>simp[Eg]at h;rfl
 | .p _ _,b,h=>by
   cases b<;>simp only[Eg,BD]at h<;>first|(rw[Ct h.1,Ct h.2];done)|cases h
 | .rp _,b,h=>by
   cases b<;>simp only[Eg]at h<;>first|(rw[Ge _ _ h];done)|cases h
 | .l _ _,b,h=>by
   cases b<;>simp only[Eg,BD,EU]at h<;>first|(rw[h.1,Z9 _ _ h.2];done)|cases h
 | .sl _ _ _,b,h=>by
   cases b<;>simp only[Eg,BD]at h<;>first|(rw[Ct h.1,Ct h.2.1,Ct h.2.2];done)|cases h
 | .sv _ _ _ _,b,h=>by
   cases b<;>simp only[Eg,BD]at h<;>first|(rw[Ct h.1,Ct h.2.1,Ct h.2.2.1,Ct h.2.2.2];done)|cases h
 | .pe _ _ _ _,b,h=>by
   cases b<;>simp only[Eg,BD]at h<;>first|(rw[Ct h.1,Ct h.2.1,Ct h.2.2.1,Ct h.2.2.2];done)|cases h
 | .m _,b,h=>by
   cases b<;>simp only[Eg]at h<;>first|(rw[Ct h];done)|cases h
 | .mn,b,h=>by cases b<;>simp[Eg]at h;rfl
 | .f _ _ _,b,h=>by
   cases b<;>simp only[Eg,BD,CN]at h<;>first|(rw[h.1,Ge _ _ h.2.1,Ge _ _ h.2.2];done)|cases h
 | .LN,b,h=>by cases b<;>simp[Eg]at h;rfl
 | .Ey _ _,b,h=>by
   cases b<;>simp only[Eg,BD]at h<;>first|(rw[Ct h.1,Ou _ _ h.2];done)|cases h
 | .DZ,b,h=>by cases b<;>simp[Eg]at h;rfl
 | .a _,b,h=>by
   cases b<;>simp only[Eg]at h<;>first|(rw[Ge _ _ h];done)|cases h
 | .t _,b,h=>by
   cases b<;>simp only[Eg]at h<;>first|(rw[Ge _ _ h];done)|cases h
 | .any,b,h=>by cases b<;>simp[Eg]at h;rfl
def Ge: ∀(a b:List V),Mr a b=true->a=b
 | [],[],_=>rfl
 | x::xs,y::ys,h=>by
   simp only[Mr,BD]at h;rw[Ou _ _ h.1,Ge _ _ h.2]
 | [],_::_,h=>by simp[Mr]at h
 | _::_,[],h=>by simp[Mr]at h
def Z9: ∀(a b:List (List V)),bB a b=true->a=b
 | [],[],_=>rfl
 | x::xs,y::ys,h=>by
   simp only[bB,BD]at h;rw[Ge _ _ h.1,Z9 _ _ h.2]
 | [],_::_,h=>by simp[bB]at h
 | _::_,[],h=>by simp[bB]at h
end
inductive EO where
 | cs (vs:List V)
 | arr (sz:Nat) (es:List (List V))
 | map (kvs:List (V×V))
 | loop (st:vj) (env:Env) (ps:List Nat) (a b:AV)
inductive Tr (α:Type) where
 | leaf
 | node (o:Option α) (l r:Tr α)
def Tr.get {α:Type}:Tr α->Nat->Option α
 | .leaf,_=>none
 | .node o l r,k=>match k with
   | 0=>o
   | k+1=>bif Nat.beq (k % 2) 0 then l.get (k / 2)else r.get (k / 2)
def Tr.put {α β:Type} (x:Option α):Nat->Tr α->Nat->(Tr α->β)->β
 | 0,t,_,K=>K t
 | d+1,t,k,K=>match k,t with
   | 0,.leaf=>K (.node x .leaf .leaf)
   | 0,.node _ l r=>K (.node x l r)
   | k+1,.leaf=>bif Nat.beq (k % 2) 0 then Tr.put x d .leaf (k / 2) fun l=>K (.node none l .leaf)else Tr.put x d .leaf (k / 2) fun r=>K (.node none .leaf r)
   | k+1,.node o l r=>bif Nat.beq (k % 2) 0 then Tr.put x d l (k / 2) fun l=>K (.node o l r)else Tr.put x d r (k / 2) fun r=>K (.node o l r)
def A7:Nat:=40
abbrev Tr.set {α:Type} (x:Option α) (d:Nat) (t:Tr α) (k:Nat):Tr α:=Tr.put x d t k id
def Tr.put_eq {α β:Type} {x:Option α}: ∀(d:Nat) (t:Tr α) (k:Nat) (K:Tr α->β),Tr.put x d t k K=K (Tr.set x d t k)
 | 0,t,k,K=>rfl
 | d + 1,t,k,K=>by
   unfold Tr.set;cases k with
   | zero=>cases t<;>rfl
   | succ k=>
     cases t<;>simp only[Tr.put]<;>cases Nat.beq (k % 2) 0<;>simp only[cond_true,cond_false]<;>rw[Tr.put_eq d,Tr.put_eq d _ _ (fun _=>_)]<;>rfl
def Tr.Ds {α:Type} {x:Option α}: ∀(d:Nat) (t:Tr α) (k:Nat),k+1<2 ^ d-> ∀j,(Tr.set x d t k).get j=if j=k then x else t.get j
 | 0,_,k,h,_=>by simp at h
 | d + 1, t, k,h,j=>by
   have hp:2 ^ (d+1)=2*2 ^ d:=by rw[Nat.pow_succ];omega
   cases k with
   | zero=>cases t<;>cases j<;>simp[Tr.set,Tr.put,Tr.get]
   | succ k=>
     have hk:k / 2+1<2 ^ d:=by omega
     cases t with
     | leaf=>
       simp only[Tr.set,Tr.put];cases hb:Nat.beq (k % 2) 0 with
       | true=>
         simp only[cond_true];rw[Tr.put_eq];have hb':=Ct hb;cases j with
         | zero=>simp[Tr.get]
         | succ j=>
           simp only[Tr.get,id];cases hj:Nat.beq (j % 2) 0 with
           | true=>
             have hj':=Ct hj;simp only[cond_true];rw[Tr.Ds d _ _ hk];simp only[Tr.get];by_cases e:j=k
             .simp[e]
             .rw[if_neg (by omega),if_neg (by omega)]
           | false=>
             simp only[cond_false];rw[if_neg (fun e=>by(have:j=k:=by omega);subst this;rw[hj]at hb;cases hb)]
       | false=>
         simp only[cond_false];rw[Tr.put_eq];have hb':=Nat.ne_of_beq_eq_false hb;cases j with
         | zero=>simp[Tr.get]
         | succ j=>
           simp only[Tr.get,id];cases hj:Nat.beq (j % 2) 0 with
           | false=>
             have hj':=Nat.ne_of_beq_eq_false hj;simp only[cond_false];rw[Tr.Ds d _ _ hk];simp only[Tr.get];by_cases e:j=k
             .simp[e]
             .rw[if_neg (by omega),if_neg (by omega)]
           | true=>
             simp only[cond_true];rw[if_neg (fun e=>by(have:j=k:=by omega);subst this;rw[hj]at hb;cases hb)]
     | node o l r=>
       simp only[Tr.set,Tr.put];cases hb:Nat.beq (k % 2) 0 with
       | true=>
         simp only[cond_true];rw[Tr.put_eq];have hb':=Ct hb;cases j with
         | zero=>simp[Tr.get]
         | succ j=>
           simp only[Tr.get,id];cases hj:Nat.beq (j % 2) 0 with
           | true=>
             have hj':=Ct hj;simp only[cond_true];rw[Tr.Ds d _ _ hk];by_cases e:j=k
             .simp[e]
             .rw[if_neg (by omega),if_neg (by omega)]
           | false=>
             simp only[cond_false];rw[if_neg (fun e=>by(have:j=k:=by omega);subst this;rw[hj]at hb;cases hb)]
       | false=>
         simp only[cond_false];rw[Tr.put_eq];have hb':=Nat.ne_of_beq_eq_false hb;cases j with
         | zero=>simp[Tr.get]
         | succ j=>
           simp only[Tr.get,id];cases hj:Nat.beq (j % 2) 0 with
           | false=>
             have hj':=Nat.ne_of_beq_eq_false hj;simp only[cond_false];rw[Tr.Ds d _ _ hk];by_cases e:j=k
             .simp[e]
             .rw[if_neg (by omega),if_neg (by omega)]
           | true=>
             simp only[cond_true];rw[if_neg (fun e=>by(have:j=k:=by omega);subst this;rw[hj]at hb;cases hb)]
end Go.Gl
