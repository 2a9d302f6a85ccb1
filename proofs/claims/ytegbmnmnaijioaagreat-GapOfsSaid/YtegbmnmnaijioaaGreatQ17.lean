import Derived.Test.YtegbmnmnaijioaaGreatQ5
import Derived.Test.YtegbmnmnaijioaaGreatQ16
set_option linter.all false
set_option linter.defProp false
set_option maxHeartbeats 8000000
noncomputable section
namespace Go.Gl
def F2 {α β:Type} (R:α->β->Prop):List α->List β->Prop
 | [],l=>l= []
 | x::xs,l=> ∃y ys,R x y/\F2 R xs ys/\l=y::ys
section
variable {α β:Type} {R R':α->β->Prop}
def F2.nil:F2 R [] []:=rfl
def F2.cons {x:α} {y:β} {xs:List α} {ys:List β} (h:R x y) (h':F2 R xs ys):F2 R (x::xs) (y::ys):=⟨y,ys,h,h',rfl⟩
def F2.len: ∀ {xs:List α} {ys:List β},F2 R xs ys->ys.length=xs.length
 | [],_,h=>by cases h;rfl
 | _::_,_,⟨_,_,_,h,e⟩=>by subst e;simp[F2.len h]
def F2.get: ∀ {xs:List α} {ys:List β},F2 R xs ys-> ∀ {i:Nat} {x:α},xs[i]? =some x-> ∃y,ys[i]? =some y/\R x y
 | x::xs,_,⟨y,ys,h1,h2,e⟩,i,z,hi=>by
   subst e;cases i with
   | zero=>simp at hi;subst hi;exact⟨y,by simp,h1⟩
   | succ i=>simp at hi;simpa using F2.get h2 hi
def F2.mono (hm: ∀x y,R x y->R' x y): ∀ {xs:List α} {ys:List β},F2 R xs ys->F2 R' xs ys
 | [],_,h=>h
 | _::_,_,⟨y,ys,h1,h2,e⟩=>⟨y,ys,hm _ _ h1,F2.mono hm h2,e⟩
def F2.app: ∀ {xs xs':List α} {ys ys':List β},F2 R xs ys->F2 R xs' ys'->F2 R (xs++xs') (ys++ys')
 | [],_,_,_,h,h'=>by cases h;exact h'
 | _::_,_,_,_,⟨y,ys,h1,h2,e⟩,h'=>by subst e;exact⟨y,ys++_,h1,F2.app h2 h',rfl⟩
def F2.take: ∀ {xs:List α} {ys:List β},F2 R xs ys-> ∀n,F2 R (xs.take n) (ys.take n)
 | [],_,h,n=>by cases h;simp;rfl
 | _::_,_,⟨y,ys,h1,h2,e⟩,n=>by
   subst e;cases n with
   | zero=>exact rfl
   | succ n=>exact⟨y,_,h1,F2.take h2 n,rfl⟩
def F2.drop: ∀ {xs:List α} {ys:List β},F2 R xs ys-> ∀n,F2 R (xs.drop n) (ys.drop n)
 | [],_,h,n=>by cases h;simp;rfl
 | _::_,_,⟨y,ys,h1,h2,e⟩,n=>by
   subst e;cases n with
   | zero=>exact⟨y,ys,h1,h2,rfl⟩
   | succ n=>exact F2.drop h2 n
def F2.set: ∀ {xs:List α} {ys:List β},F2 R xs ys-> ∀(i:Nat) {x:α} {y:β},R x y->F2 R (xs.set i x) (ys.set i y)
 | [],_,h,i,_,_,_=>by cases h;simp;rfl
 | _::_,_,⟨y,ys,h1,h2,e⟩,i,_,_,h=>by
   subst e;cases i with
   | zero=>exact⟨_,_,h,h2,rfl⟩
   | succ i=>exact⟨_,_,h1,F2.set h2 i h,rfl⟩
def F2.rep {x:α} {y:β} (h:R x y): ∀n,F2 R (List.replicate n x) (List.replicate n y)
 | 0=>rfl
 | n+1=>⟨y,_,h,F2.rep h n,rfl⟩
def F2.mem: ∀ {xs:List α} {ys:List β},F2 R xs ys-> ∀ {y:β},y∈ys-> ∃x,x∈xs/\R x y
 | [],_,h,y,hy=>by cases h;cases hy
 | x ::_,_,⟨z,zs,h1,h2,e⟩,y,hy=>by
   subst e;rcases GR.1 hy with rfl|hy
   .exact⟨x,.head _,h1⟩
   .obtain⟨u,hu,hr⟩:=F2.mem h2 hy
    exact⟨u,.tail _ hu,hr⟩
def F2.fn (hf: ∀x y z,R x y->R x z->y=z): ∀ {xs:List α} {ys zs:List β},F2 R xs ys->F2 R xs zs->ys=zs
 | [],_,_,h,h'=>by cases h;cases h';rfl
 | _::_,_,_,⟨y,ys,h1,h2,e⟩,⟨z,zs,h3,h4,e'⟩=>by
   subst e;subst e';rw[hf _ _ _ h1 h3,F2.fn hf h2 h4]
end
abbrev Ren:=Nat->Option (Nat×Nat)
def Ren.le (Y Y':Ren):Prop:= ∀i m,Y i=some m->Y' i=some m
def Ren.le.refl (Y:Ren):Y.le Y:=fun _ _ h=>h
def Ren.le.trans {a b c:Ren} (h:a.le b) (k:b.le c):a.le c:=fun i m e=>k i m (h i m e)
def cY (Y:Ren):Fn->Fn->Prop
 | .yield i,f=> ∃m,Y i=some m/\f= .yield m.1
 | fn,f=>f=fn
mutual
def RV (Y:Ren):V->V->Prop
 | .p n off,v=> ∃m,Y n=some m/\v= .p m.1 off
 | .sl n len _,v=> ∃m,Y n=some m/\v= .sl m.1 len m.2
 | .sv n sz off len,v=> ∃m,Y n=some m/\v= .sv m.1 sz off len
 | .pe n sz i off,v=> ∃m,Y n=some m/\v= .pe m.1 sz i off
 | .m n,v=> ∃m,Y n=some m/\v= .m m.1
 | .rp cs,v=> ∃cs',RL Y cs cs'/\v= .rp cs'
 | .l es f,v=> ∃es',RR Y es es'/\v= .l es' f
 | .f fn first cap,v=> ∃fn' first' cap',cY Y fn fn'/\RL Y first first'/\RL Y cap cap'/\v= .f fn' first' cap'
 | .FO t x,v=> ∃x',RV Y x x'/\v= .FO t x'
 | .a cs,v=> ∃cs',RL Y cs cs'/\v= .a cs'
 | .t cs,v=> ∃cs',RL Y cs cs'/\v= .t cs'
 | .b x,v=>v= .b x
 | .i k n,v=>v= .i k n
 | .s x,v=>v= .s x
 | .pn,v=>v= .pn
 | .mn,v=>v= .mn
 | .L9,v=>v= .L9
 | .Dv,v=>v= .Dv
 | .any,v=>v= .any
def RL (Y:Ren):List V->List V->Prop
 | [],l=>l= []
 | x::xs,l=> ∃y ys,RV Y x y/\RL Y xs ys/\l=y::ys
def RR (Y:Ren):List (List V)->List (List V)->Prop
 | [],l=>l= []
 | x::xs,l=> ∃y ys,RL Y x y/\RR Y xs ys/\l=y::ys
end
def Bh {Y:Ren}: ∀ {xs ys:List V},RL Y xs ys↔F2 (RV Y) xs ys
 | [],_=>by simp only[RL,F2]
 | x::xs,l=>by
   simp only[RL,F2];constructor
   .rintro⟨y,ys,h1,h2,rfl⟩;exact⟨y,ys,h1,Bh.1 h2,rfl⟩
   .rintro⟨y,ys,h1,h2,rfl⟩;exact⟨y,ys,h1,Bh.2 h2,rfl⟩
def F1 {Y:Ren}: ∀ {xs ys:List (List V)},RR Y xs ys↔F2 (F2 (RV Y)) xs ys
 | [],_=>by simp only[RR,F2]
 | x::xs,l=>by
   simp only[RR,F2];constructor
   .rintro⟨y,ys,h1,h2,rfl⟩;exact⟨y,ys,Bh.1 h1,F1.1 h2,rfl⟩
   .rintro⟨y,ys,h1,h2,rfl⟩;exact⟨y,ys,Bh.2 h1,F1.2 h2,rfl⟩
def cY.mono {Y Y':Ren} (h:Y.le Y') {f g:Fn} (k:cY Y f g):cY Y' f g:=by
 cases f<;>first|exact k|exact⟨_,h _ _ k.choose_spec.1,k.choose_spec.2⟩
mutual
def RV.mono {Y Y':Ren} (h:Y.le Y'): ∀(v v':V),RV Y v v'->RV Y' v v'
 | .p _ _,_,k| .sl _ _ _,_,k| .sv _ _ _ _,_,k| .pe _ _ _ _,_,k| .m _,_,k=>by
   simp only[RV]at k ⊢;obtain⟨m,h1,h2⟩:=k;exact⟨m,h _ _ h1,h2⟩
 | .rp cs,_,k=>by
   simp only[RV]at k ⊢;obtain⟨c,h1,h2⟩:=k;exact⟨c,RL.mono h _ _ h1,h2⟩
 | .a cs,_,k=>by
   simp only[RV]at k ⊢;obtain⟨c,h1,h2⟩:=k;exact⟨c,RL.mono h _ _ h1,h2⟩
 | .t cs,_,k=>by
   simp only[RV]at k ⊢;obtain⟨c,h1,h2⟩:=k;exact⟨c,RL.mono h _ _ h1,h2⟩
 | .l es f,_,k=>by
   simp only[RV]at k ⊢;obtain⟨c,h1,h2⟩:=k;exact⟨c,RR.mono h _ _ h1,h2⟩
 | .f fn a b,_,k=>by
   simp only[RV]at k ⊢;obtain⟨g,c,d,h1,h2,h3,h4⟩:=k;exact⟨g,c,d,h1.mono h,RL.mono h _ _ h2,RL.mono h _ _ h3,h4⟩
 | .FO t x,_,k=>by
   simp only[RV]at k ⊢;obtain⟨c,h1,h2⟩:=k;exact⟨c,RV.mono h _ _ h1,h2⟩
 | .b _,_,k| .i _ _,_,k| .s _,_,k| .pn,_,k| .mn,_,k| .L9,_,k| .Dv,_,k| .any,_,k=>by
   simp only[RV]at k ⊢;exact k
def RL.mono {Y Y':Ren} (h:Y.le Y'): ∀(l l':List V),RL Y l l'->RL Y' l l'
 | [],_,k=>by simp only[RL]at k ⊢;exact k
 | x::xs,_,k=>by
   simp only[RL]at k ⊢;obtain⟨y,ys,h1,h2,h3⟩:=k;exact⟨y,ys,RV.mono h _ _ h1,RL.mono h _ _ h2,h3⟩
def RR.mono {Y Y':Ren} (h:Y.le Y'): ∀(l l':List (List V)),RR Y l l'->RR Y' l l'
 | [],_,k=>by simp only[RR]at k ⊢;exact k
 | x::xs,_,k=>by
   simp only[RR]at k ⊢;obtain⟨y,ys,h1,h2,h3⟩:=k;exact⟨y,ys,RL.mono h _ _ h1,RR.mono h _ _ h2,h3⟩
end
def cY.fn {Y:Ren} {f g g':Fn} (h:cY Y f g) (k:cY Y f g'):g=g':=by
 cases f<;>first|(simp only[cY]at h k;rw[h,k];done)|skip
 simp only[cY]at h k;obtain⟨m,h1,rfl⟩:=h;obtain⟨m',h2,rfl⟩:=k;rw[h1]at h2;cases h2;rfl
mutual
def RV.fn {Y:Ren}: ∀(v a b:V),RV Y v a->RV Y v b->a=b
 | .p _ _,_,_,k,k'| .sl _ _ _,_,_,k,k'| .sv _ _ _ _,_,_,k,k'| .pe _ _ _ _,_,_,k,k'| .m _,_,_,k,k'=>by
   simp only[RV]at k k';obtain⟨m,h1,rfl⟩:=k;obtain⟨m',h2,rfl⟩:=k';rw[h1]at h2;cases h2;rfl
 | .rp _,_,_,k,k'| .a _,_,_,k,k'| .t _,_,_,k,k'=>by
   simp only[RV]at k k';obtain⟨m,h1,rfl⟩:=k;obtain⟨m',h2,rfl⟩:=k';rw[RL.fn _ _ _ h1 h2]
 | .l _ _,_,_,k,k'=>by
   simp only[RV]at k k';obtain⟨m,h1,rfl⟩:=k;obtain⟨m',h2,rfl⟩:=k';rw[RR.fn _ _ _ h1 h2]
 | .f fn a b,_,_,k,k'=>by
   simp only[RV]at k k';obtain⟨g,c,d,h1,h2,h3,rfl⟩:=k;obtain⟨g',c',d',h1',h2',h3',rfl⟩:=k';rw[h1.fn h1',RL.fn _ _ _ h2 h2',RL.fn _ _ _ h3 h3']
 | .FO t x,_,_,k,k'=>by
   simp only[RV]at k k';obtain⟨m,h1,rfl⟩:=k;obtain⟨m',h2,rfl⟩:=k';rw[RV.fn _ _ _ h1 h2]
 | .b _,_,_,k,k'| .i _ _,_,_,k,k'| .s _,_,_,k,k'| .pn,_,_,k,k'| .mn,_,_,k,k'| .L9,_,_,k,k'| .Dv,_,_,k,k'| .any,_,_,k,k'=>by
   simp only[RV]at k k';rw[k,k']
def RL.fn {Y:Ren}: ∀(l a b:List V),RL Y l a->RL Y l b->a=b
 | [],_,_,k,k'=>by simp only[RL]at k k';rw[k,k']
 | x::xs,_,_,k,k'=>by
   simp only[RL]at k k';obtain⟨y,ys,h1,h2,rfl⟩:=k;obtain⟨z,zs,h3,h4,rfl⟩:=k';rw[RV.fn _ _ _ h1 h3,RL.fn _ _ _ h2 h4]
def RR.fn {Y:Ren}: ∀(l a b:List (List V)),RR Y l a->RR Y l b->a=b
 | [],_,_,k,k'=>by simp only[RR]at k k';rw[k,k']
 | x::xs,_,_,k,k'=>by
   simp only[RR]at k k';obtain⟨y,ys,h1,h2,rfl⟩:=k;obtain⟨z,zs,h3,h4,rfl⟩:=k';rw[RL.fn _ _ _ h1 h3,RR.fn _ _ _ h2 h4]
end
def Nn:Fn->Bool
 | .yield _=>false
 | _=>true
mutual
def BL:V->Bool
 | .p _ _=>false
 | .sl _ _ _=>false
 | .sv _ _ _ _=>false
 | .pe _ _ _ _=>false
 | .m _=>false
 | .rp cs=>CK cs
 | .a cs=>CK cs
 | .t cs=>CK cs
 | .l es _=>Sw es
 | .f fn a b=>Nn fn&&(CK a&&CK b)
 | .FO _ x=>BL x
 | _=>true
def CK:List V->Bool
 | []=>true
 | x::xs=>BL x&&CK xs
def Sw:List (List V)->Bool
 | []=>true
 | x::xs=>CK x&&Sw xs
end
mutual
def RV.pure {Y:Ren}: ∀(v:V),BL v=true->RV Y v v
 | .p _ _,h| .sl _ _ _,h| .sv _ _ _ _,h| .pe _ _ _ _,h| .m _,h=>by simp[BL]at h
 | .rp cs,h| .a cs,h| .t cs,h=>by simp only[BL]at h;simp only[RV];exact⟨_,RL.pure cs h,rfl⟩
 | .l es f,h=>by simp only[BL]at h;simp only[RV];exact⟨_,RR.pure es h,rfl⟩
 | .f fn a b,h=>by
   simp only[BL,A9]at h;simp only[RV];refine⟨fn,a,b,?_,RL.pure a h.2.1,RL.pure b h.2.2,rfl⟩;cases fn<;>first|rfl|(simp[Nn]at h)
 | .FO t x,h=>by simp only[BL]at h;simp only[RV];exact⟨_,RV.pure x h,rfl⟩
 | .b _,_| .i _ _,_| .s _,_| .pn,_| .mn,_| .L9,_| .Dv,_| .any,_=>by simp only[RV]
def RL.pure {Y:Ren}: ∀(v:List V),CK v=true->RL Y v v
 | [],_=>by simp only[RL]
 | x::xs,h=>by
   simp only[CK,A9]at h;simp only[RL];exact⟨x,xs,RV.pure x h.1,RL.pure xs h.2,rfl⟩
def RR.pure {Y:Ren}: ∀(v:List (List V)),Sw v=true->RR Y v v
 | [],_=>by simp only[RR]
 | x::xs,h=>by
   simp only[Sw,A9]at h;simp only[RR];exact⟨x,xs,RL.pure x h.1,RR.pure xs h.2,rfl⟩
end
def RV.nB {Y:Ren} {v v':V} (h:RV Y v v') (hp:BL v=true):v'=v:=RV.fn v _ _ h (RV.pure v hp)
mutual
def E6:V->V->Bool
 | .b x,.b y=>x==y
 | .i k n,.i k' n'=>decide (k=k')&&decide (n=n')
 | .s x,.s y=>decide (x=y)
 | .pn,.pn=>true
 | .p n o,.p n' o'=>Nat.beq n n'&&Nat.beq o o'
 | .rp a,.rp b=>Nh a b
 | .l a f,.l b g=>(f==g)&&dA a b
 | .sl n a b,.sl n' a' b'=>Nat.beq n n'&&(Nat.beq a a'&&Nat.beq b b')
 | .sv n a b c,.sv n' a' b' c'=>Nat.beq n n'&&(Nat.beq a a'&&(Nat.beq b b'&&Nat.beq c c'))
 | .pe n a b c,.pe n' a' b' c'=>Nat.beq n n'&&(Nat.beq a a'&&(Nat.beq b b'&&Nat.beq c c'))
 | .m n,.m n'=>Nat.beq n n'
 | .mn,.mn=>true
 | .f fn a b,.f fn' a' b'=>decide (fn=fn')&&(Nh a a'&&Nh b b')
 | .L9,.L9=>true
 | .FO t v,.FO t' v'=>Nat.beq t t'&&E6 v v'
 | .Dv,.Dv=>true
 | .a a,.a b=>Nh a b
 | .t a,.t b=>Nh a b
 | .any,.any=>true
 | _,_=>false
def Nh:List V->List V->Bool
 | [],[]=>true
 | x::xs,y::ys=>E6 x y&&Nh xs ys
 | _,_=>false
def dA:List (List V)->List (List V)->Bool
 | [],[]=>true
 | x::xs,y::ys=>Nh x y&&dA xs ys
 | _,_=>false
end
def C5 {a b:Nat} (h:Nat.beq a b=true):a=b:=Vj h
mutual
def Pw: ∀(a b:V),E6 a b=true->a=b
 | .b x,b,h=>by cases b<;>simp[E6]at h;rw[h]
 | .i _ _,b,h=>by cases b<;>simp[E6]at h;rw[h.1,h.2]
 | .s _,b,h=>by cases b<;>simp[E6]at h;rw[h]
 | .pn,b,h=>by cases b<;>simp[E6]at h;rfl
 | .p _ _,b,h=>by
   cases b<;>simp only[E6,A9]at h<;>first|(rw[C5 h.1,C5 h.2];done)|cases h
 | .rp _,b,h=>by
   cases b<;>simp only[E6]at h<;>first|(rw[HK _ _ h];done)|cases h
 | .l _ _,b,h=>by
   cases b<;>simp only[E6,A9,DD]at h<;>first|(rw[h.1,cB _ _ h.2];done)|cases h
 | .sl _ _ _,b,h=>by
   cases b<;>simp only[E6,A9]at h<;>first|(rw[C5 h.1,C5 h.2.1,C5 h.2.2];done)|cases h
 | .sv _ _ _ _,b,h=>by
   cases b<;>simp only[E6,A9]at h<;>first|(rw[C5 h.1,C5 h.2.1,C5 h.2.2.1,C5 h.2.2.2];done)|cases h
 | .pe _ _ _ _,b,h=>by
   cases b<;>simp only[E6,A9]at h<;>first|(rw[C5 h.1,C5 h.2.1,C5 h.2.2.1,C5 h.2.2.2];done)|cases h
 | .m _,b,h=>by
   cases b<;>simp only[E6]at h<;>first|(rw[C5 h];done)|cases h
 | .mn,b,h=>by cases b<;>simp[E6]at h;rfl
 | .f _ _ _,b,h=>by
   cases b<;>simp only[E6,A9,Cc]at h<;>first|(rw[h.1,HK _ _ h.2.1,HK _ _ h.2.2];done)|cases h
 | .L9,b,h=>by cases b<;>simp[E6]at h;rfl
 | .FO _ _,b,h=>by
   cases b<;>simp only[E6,A9]at h<;>first|(rw[C5 h.1,Pw _ _ h.2];done)|cases h
 | .Dv,b,h=>by cases b<;>simp[E6]at h;rfl
 | .a _,b,h=>by
   cases b<;>simp only[E6]at h<;>first|(rw[HK _ _ h];done)|cases h
 | .t _,b,h=>by
   cases b<;>simp only[E6]at h<;>first|(rw[HK _ _ h];done)|cases h
 | .any,b,h=>by cases b<;>simp[E6]at h;rfl
def HK: ∀(a b:List V),Nh a b=true->a=b
 | [],[],_=>rfl
 | x::xs,y::ys,h=>by
   simp only[Nh,A9]at h;rw[Pw _ _ h.1,HK _ _ h.2]
 | [],_::_,h=>by simp[Nh]at h
 | _::_,[],h=>by simp[Nh]at h
def cB: ∀(a b:List (List V)),dA a b=true->a=b
 | [],[],_=>rfl
 | x::xs,y::ys,h=>by
   simp only[dA,A9]at h;rw[HK _ _ h.1,cB _ _ h.2]
 | [],_::_,h=>by simp[dA]at h
 | _::_,[],h=>by simp[dA]at h
end
inductive EO where
 | cs (vs:List V)
 | arr (sz:Nat) (es:List (List V))
 | map (kvs:List (V×V))
 | loop (st:sX) (env:Env) (ps:List Nat) (a b:AV)
inductive Tr (α:Type) where
 | leaf
 | node (o:Option α) (l r:Tr α)
def Tr.get {α:Type}:Tr α->Nat->Option α
 | .leaf,_=>none
 | .node o l r,k=>match k with
   | 0=>o
   | k+1=>bif Nat.beq (k % 2) 0 then l.get (k / 2)else r.get (k / 2)
def Tr.put {α β:Type} (x:Option α):Nat->Tr α->Nat->(Tr α->β)->β
 | 0,t,_,K=>K t
 | d+1,t,k,K=>match k,t with
   | 0,.leaf=>K (.node x .leaf .leaf)
   | 0,.node _ l r=>K (.node x l r)
   | k+1,.leaf=>bif Nat.beq (k % 2) 0 then Tr.put x d .leaf (k / 2) fun l=>K (.node none l .leaf)else Tr.put x d .leaf (k / 2) fun r=>K (.node none .leaf r)
   | k+1,.node o l r=>bif Nat.beq (k % 2) 0 then Tr.put x d l (k / 2) fun l=>K (.node o l r)else Tr.put x d r (k / 2) fun r=>K (.node o l r)
def BD:Nat:=40
abbrev Tr.set {α:Type} (x:Option α) (d:Nat) (t:Tr α) (k:Nat):Tr α:=Tr.put x d t k id
def Tr.put_eq {α β:Type} {x:Option α}: ∀(d:Nat) (t:Tr α) (k:Nat) (K:Tr α->β),Tr.put x d t k K=K (Tr.set x d t k)
 | 0,t,k,K=>rfl
 | d + 1,t,k,K=>by
   unfold Tr.set;cases k with
   | zero=>cases t<;>rfl
   | succ k=>
     cases t<;>simp only[Tr.put]<;>cases Nat.beq (k % 2) 0<;>simp only[cond_true,cond_false]<;>rw[Tr.put_eq d,Tr.put_eq d _ _ (fun _=>_)]<;>rfl
def Tr.EE {α:Type} {x:Option α}: ∀(d:Nat) (t:Tr α) (k:Nat),k+1<2 ^ d-> ∀j,(Tr.set x d t k).get j=if j=k then x else t.get j
 | 0,_,k,h,_=>by simp at h
 | d + 1, t, k,h,j=>by
   have hp:2 ^ (d+1)=2*2 ^ d:=by rw[Nat.pow_succ];omega
   cases k with
   | zero=>cases t<;>cases j<;>simp[Tr.set,Tr.put,Tr.get]
   | succ k=>
     have hk:k / 2+1<2 ^ d:=by omega
     cases t with
     | leaf=>
       simp only[Tr.set,Tr.put];cases hb:Nat.beq (k % 2) 0 with
       | true=>
         simp only[cond_true];rw[Tr.put_eq];have hb':=C5 hb;cases j with
         | zero=>simp[Tr.get]
         | succ j=>
           simp only[Tr.get,id];cases hj:Nat.beq (j % 2) 0 with
           | true=>
             have hj':=C5 hj;simp only[cond_true];rw[Tr.EE d _ _ hk];simp only[Tr.get];by_cases e:j=k
             .simp[e]
             .rw[if_neg (by omega),if_neg (by omega)]
           | false=>
             simp only[cond_false];rw[if_neg (fun e=>by(have:j=k:=by omega);subst this;rw[hj]at hb;cases hb)]
       | false=>
         simp only[cond_false];rw[Tr.put_eq];have hb':=Nat.ne_of_beq_eq_false hb;cases j with
         | zero=>simp[Tr.get]
         | succ j=>
           simp only[Tr.get,id];cases hj:Nat.beq (j % 2) 0 with
           | false=>
             have hj':=Nat.ne_of_beq_eq_false hj;simp only[cond_false];rw[Tr.EE d _ _ hk];simp only[Tr.get];by_cases e:j=k
             .simp[e]
             .rw[if_neg (by omega),if_neg (by omega)]
           | true=>
             simp only[cond_true];rw[if_neg (fun e=>by(have:j=k:=by omega);subst this;rw[hj]at hb;cases hb)]
     | node o l r=>
       simp only[Tr.set,Tr.put];cases hb:Nat.beq (k % 2) 0 with
       | true=>
         simp only[cond_true];rw[Tr.put_eq];have hb':=C5 hb;cases j with
         | zero=>simp[Tr.get]
         | succ j=>
           simp only[Tr.get,id];cases hj:Nat.beq (j % 2) 0 with
           | true=>
             have hj':=C5 hj;simp only[cond_true];rw[Tr.EE d _ _ hk];by_cases e:j=k
             .simp[e]
             .rw[if_neg (by omega),if_neg (by omega)]
           | false=>
             simp only[cond_false];rw[if_neg (fun e=>by(have:j=k:=by omega);subst this;rw[hj]at hb;cases hb)]
       | false=>
         simp only[cond_false];rw[Tr.put_eq];have hb':=Nat.ne_of_beq_eq_false hb;cases j with
         | zero=>simp[Tr.get]
         | succ j=>
           simp only[Tr.get,id];cases hj:Nat.beq (j % 2) 0 with
           | false=>
             have hj':=Nat.ne_of_beq_eq_false hj;simp only[cond_false];rw[Tr.EE d _ _ hk];by_cases e:j=k
             .simp[e]
             .rw[if_neg (by omega),if_neg (by omega)]
           | true=>
             simp only[cond_true];rw[if_neg (fun e=>by(have:j=k:=by omega);subst this;rw[hj]at hb;cases hb)]
end Go.Gl
namespace Go.Gl
variable {P:Program} {Y Y':Ren} {Z:AE} {env env₀:Env}
structure St where
 nx:Nat
 t:Tr EO
def RK (Y:Ren) (a b:V×V):Prop:=RV Y a.1 b.1/\RV Y a.2 b.2
def RBe (Y:Ren) (a b:Nat×V):Prop:=b.1=a.1/\RV Y a.2 b.2
abbrev RE (Y:Ren):Env->Env->Prop:=F2 (RBe Y)
abbrev L4 (Y:Ren):List V->List V->Prop:=F2 (RV Y)
abbrev fp (Y:Ren):List (List V)->List (List V)->Prop:=F2 (F2 (RV Y))
def RO (P:Program) (Y:Ren) (cap:Nat):EO->O->Prop
 | .cs vs,o=> ∃vs',L4 Y vs vs'/\o= .cs vs'
 | .arr sz es,o=> ∃es',fp Y es es'/\o= .arr sz es' cap
 | .map kvs,o=> ∃kvs',F2 (RK Y) kvs kvs'/\o= .map kvs'
 | .loop st env ps a b,o=> ∃env',RE Y env env'/\o= .loop st env' (Bk P ps a b)
def Nd:Nat:=1000000000
structure SR (P:Program) (Y:Ren) (s:St) (Z:AE):Prop where
 get: ∀i o,s.t.get i=some o-> ∃m,Y i=some m/\ ∃o',Z m.1=some o'/\RO P Y m.2 o o'
 inj: ∀i j o o' m m',s.t.get i=some o->s.t.get j=some o'->Y i=some m->Y j=some m'->m.1=m'.1->i=j
 sU: ∀i,s.nx<=i->Y i=none
 lim:s.nx<=Nd+1
def L4.mono (h:Y.le Y') {a b:List V} (k:L4 Y a b):L4 Y' a b:=F2.mono (fun _ _=>RV.mono h _ _) k
def fp.mono (h:Y.le Y') {a b:List (List V)} (k:fp Y a b):fp Y' a b:=F2.mono (fun _ _=>L4.mono h) k
def RE.mono (h:Y.le Y') {a b:Env} (k:RE Y a b):RE Y' a b:=F2.mono (fun _ _ k=>⟨k.1,RV.mono h _ _ k.2⟩) k
def RO.mono (h:Y.le Y') {c:Nat} {a:EO} {b:O} (k:RO P Y c a b):RO P Y' c a b:=by
 cases a with
 | cs vs=>obtain⟨v,h1,h2⟩:=k;exact⟨v,h1.mono h,h2⟩
 | arr sz es=>obtain⟨v,h1,h2⟩:=k;exact⟨v,h1.mono h,h2⟩
 | map kvs=>obtain⟨v,h1,h2⟩:=k;exact⟨v,F2.mono (fun _ _ k=>⟨RV.mono h _ _ k.1,RV.mono h _ _ k.2⟩) h1,h2⟩
 | loop st env ps a b=>obtain⟨v,h1,h2⟩:=k;exact⟨v,h1.mono h,h2⟩
def cq {k:Nat} (h:k<=Nd):k+1<2 ^ BD:=by simp only[Nd,BD]at *;omega
def SR.lt {s:St} (hs:SR P Y s Z) {i:Nat} {m:Nat×Nat} (h:Y i=some m):i<=Nd:=by
 have h1:=hs.sU i;have h2:=hs.lim;rcases Nat.lt_or_ge i s.nx with h3|h3
 .omega
 .rw[h1 h3]at h;cases h
def SR.new {s:St} (hs:SR P Y s Z) (hl:s.nx<=Nd) {n:Nat} (hn:Z n=none) (cap:Nat) {o:EO} {o':O} (ho:RO P Y cap o o') :
    ∃Y',Y.le Y'/\Y' s.nx=some (n,cap)/\SR P Y' ⟨s.nx+1,Tr.set (some o) BD s.t s.nx⟩ (B3 Z n o'):=by
 have hle:Y.le (fun i=>if i=s.nx then some (n,cap)else Y i):=fun i m h=>by
  have:i≠s.nx:=fun e=>by rw[hs.sU i (by omega)]at h;cases h
  simp[this,h]
 refine⟨_,hle,by simp,⟨fun i o1 h1=>?_,fun i j o1 o2 m m' h1 h2 h3 h4 h5=>?_,fun i hi=>?_,by show s.nx+1<=_;omega⟩⟩
 .rw[Tr.EE _ _ _ (cq hl)]at h1
  by_cases e:i=s.nx
  .rw[if_pos e]at h1
   cases h1;exact⟨(n,cap),by simp[e],o',DJ _ _ _,ho.mono hle⟩
  .rw[if_neg e]at h1
   obtain⟨m,h2,o2,h3,h4⟩:=hs.get i o1 h1;refine⟨m,by simp[e,h2],o2,?_,h4.mono hle⟩;rw[Cm _ _ (fun e'=>by rw[e',hn]at h3;cases h3)];exact h3
 .rw[Tr.EE _ _ _ (cq hl)]at h1 h2
  by_cases e:i=s.nx<;>by_cases e':j=s.nx
  .omega
  .exfalso
   rw[if_neg e']at h2;simp only[e,if_true,JD]at h3;simp only[e',if_false]at h4;obtain⟨m2,h6,o3,h7,_⟩:=hs.get j o2 h2;rw[h6]at h4;cases h4;rw[<-h5,<-h3,hn]at h7;cases h7
  .exfalso
   rw[if_neg e]at h1;simp only[e',if_true,JD]at h4;simp only[e,if_false]at h3;obtain⟨m2,h6,o3,h7,_⟩:=hs.get i o1 h1;rw[h6]at h3;cases h3;rw[h5,<-h4,hn]at h7;cases h7
  .rw[if_neg e]at h1
   rw[if_neg e']at h2;simp only[e,if_false]at h3;simp only[e',if_false]at h4;exact hs.inj i j o1 o2 m m' h1 h2 h3 h4 h5
 .have hi':s.nx+1<=i:=hi
  have:i≠s.nx:=by omega
  simp only[this,if_false];exact hs.sU i (by omega)
def SR.B3 {s:St} (hs:SR P Y s Z) {i:Nat} {m:Nat×Nat} {o:EO} (hi:s.t.get i=some o) (hm:Y i=some m) {o1:EO} {o1':O} (ho:RO P Y m.2 o1 o1') :
    SR P Y ⟨s.nx,Tr.set (some o1) BD s.t i⟩ (Gl.B3 Z m.1 o1'):=by
 have hl:=cq (hs.lt hm);refine⟨fun j o2 h1=>?_,fun j j' o2 o3 m1 m2 h1 h2 h3 h4 h5=>?_,hs.sU,hs.lim⟩
 .rw[Tr.EE _ _ _ hl]at h1
  by_cases e:j=i
  .subst e
   rw[if_pos rfl]at h1;cases h1;exact⟨m,hm,o1',DJ _ _ _,ho⟩
  .rw[if_neg e]at h1
   obtain⟨m1,h2,o3,h3,h4⟩:=hs.get j o2 h1;refine⟨m1,h2,o3,?_,h4⟩;rw[Cm _ _ (fun e'=>e (hs.inj j i o2 o m1 m h1 hi h2 hm e'))];exact h3
 .rw[Tr.EE _ _ _ hl]at h1 h2
  have g1: ∃q,s.t.get j=some q:=by
   by_cases e:j=i
   .exact⟨o,e ▸ hi⟩
   .rw[if_neg e]at h1;exact⟨_,h1⟩
  have g2: ∃q,s.t.get j'=some q:=by
   by_cases e:j'=i
   .exact⟨o,e ▸ hi⟩
   .rw[if_neg e]at h2;exact⟨_,h2⟩
  obtain⟨q1,g1⟩:=g1;obtain⟨q2,g2⟩:=g2;exact hs.inj j j' q1 q2 m1 m2 g1 g2 h3 h4 h5
def SR.del {s:St} (hs:SR P Y s Z) {i:Nat} {m:Nat×Nat} {o:EO} (hi:s.t.get i=some o) (hm:Y i=some m) :
    SR P Y ⟨s.nx,Tr.set none BD s.t i⟩ (Gl.del Z m.1):=by
 have hl:=cq (hs.lt hm)
 have sub: ∀j q,(Tr.set none BD s.t i).get j=some q->j≠i/\s.t.get j=some q:=fun j q h=>by
  rw[Tr.EE _ _ _ hl]at h;by_cases e:j=i
  .rw[if_pos e]at h;cases h
  .rw[if_neg e]at h;exact⟨e,h⟩
 refine⟨fun j o2 h1=>?_,fun j j' o2 o3 m1 m2 h1 h2 h3 h4 h5=>?_,hs.sU,hs.lim⟩
 .obtain⟨e,h1⟩:=sub j o2 h1
  obtain⟨m1,h2,o3,h3,h4⟩:=hs.get j o2 h1;refine⟨m1,h2,o3,?_,h4⟩;have:m1.1≠m.1:=fun e'=>e (hs.inj j i o2 o m1 m h1 hi h2 hm e')
  simp[Gl.del,this,h3]
 .exact hs.inj j j' o2 o3 m1 m2 (sub _ _ h1).2 (sub _ _ h2).2 h3 h4 h5
def SR.at {s:St} (hs:SR P Y s Z) {i:Nat} {m:Nat×Nat} {o:EO} (hi:s.t.get i=some o) (hm:Y i=some m): ∃o',Z m.1=some o'/\RO P Y m.2 o o':=by
 obtain⟨m',h1,h2⟩:=hs.get i o hi;rw[hm]at h1;cases h1;exact h2
def RE.get: ∀ {env env₀:Env},RE Y env env₀-> ∀ {k:Nat} {v:V},Gl.get k env=some v-> ∃v',Gl.get k env₀=some v'/\RV Y v v'
 | (j,u)::r,_,⟨y,ys,h1,h2,e⟩,k,v,h=>by
   subst e;obtain⟨j',u'⟩:=y;have e1:j'=j:=h1.1;subst e1;simp only[Gl.get]at h ⊢;cases hb:Nat.beq j' k with
   | true=>rw[hb]at h;simp only[cond_true]at h ⊢;cases h;exact⟨u',rfl,h1.2⟩
   | false=>rw[hb]at h;simp only[cond_false]at h ⊢;exact RE.get h2 h
def RE.AAA: ∀ {env env₀:Env},RE Y env env₀-> ∀ {k:Nat},Gl.get k env=none->Gl.get k env₀=none
 | [],_,h,k,_=>by cases h;rfl
 | (j,u)::r,_,⟨y,ys,h1,h2,e⟩,k,h=>by
   subst e;obtain⟨j',u'⟩:=y;have e1:j'=j:=h1.1;subst e1;simp only[Gl.get]at h ⊢;cases hb:Nat.beq j' k with
   | true=>rw[hb]at h;simp only[cond_true]at h;cases h
   | false=>rw[hb]at h;simp only[cond_false]at h ⊢;exact RE.AAA h2 h
def De (env:Env):Bn->Option V
 | .t n=>get n env
 | .c v=>bif BL v then some v else none
def Av (he:RE Y env env₀) {x:Bn} {v:V} (h:De env x=some v): ∃v',ev env₀ x=some v'/\RV Y v v':=by
 cases x with
 | t n=>exact he.get h
 | c u=>
   simp only[De]at h;cases hb:BL u with
   | true=>rw[hb]at h;cases h;exact⟨_,rfl,RV.pure _ hb⟩
   | false=>rw[hb]at h;cases h
def PH (env:Env):List Bn->Option (List V)
 | []=>some []
 | x ::r=>match De env x with
   | some v=>match PH env r with
     | some vs=>some (v::vs)
     | none=>none
   | none=>none
def Is (he:RE Y env env₀): ∀ {l:List Bn} {vs:List V},PH env l=some vs-> ∃vs',Vl env₀ l=some vs'/\L4 Y vs vs'
 | [],_,h=>by cases h;exact⟨[],rfl,rfl⟩
 | x ::r,vs,h=>by
   simp only[PH]at h;split at h
   .rename_i v hv
    split at h
    .rename_i us hu
     cases h;obtain⟨v',h1,h2⟩:=Av he hv;obtain⟨vs',h3,h4⟩:=Is he hu;exact⟨v'::vs',by simp only[Vl,h1,h3],F2.cons h2 h4⟩
    .cases h
   .cases h
def JE (k:IntKind) (n:Int):Int:=
 match k,n with
 | .i64,.ofNat m=>bif Nat.ble m 9223372036854775807 then .ofNat m else IntKind.i64.wrap (.ofNat m)
 | .u64,.ofNat m=>bif Nat.ble m 18446744073709551615 then .ofNat m else IntKind.u64.wrap (.ofNat m)
 | k,n=>k.wrap n
def wrap_u64 {n:Int} (h1:0<=n) (h2:n<=18446744073709551615):IntKind.u64.wrap n=n:=by
 have e:IntKind.u64.wrap n=n % 18446744073709551616:=by simp[IntKind.wrap,IntKind.bits,IntKind.signed]
 rw[e];omega
def ofNat_eq (m:Nat):Int.ofNat m=(m:Int):=rfl
def J0 (k:IntKind) (n:Int):JE k n=k.wrap n:=by
 unfold JE;split
 .rename_i m
  cases h:Nat.ble m 9223372036854775807 with
  | true=>
    have h':m<=9223372036854775807:=by rw[Nat.ble_eq]at h;exact h
    rw[cond_true,ofNat_eq];exact(wrap64 (by omega) (by omega)).symm
  | false=>rfl
 .rename_i m
  cases h:Nat.ble m 18446744073709551615 with
  | true=>
    have h':m<=18446744073709551615:=by rw[Nat.ble_eq]at h;exact h
    rw[cond_true,ofNat_eq];exact(wrap_u64 (by omega) (by omega)).symm
  | false=>rfl
 .rfl
def NX (a b:Int):Bool:=
 match a,b with
 | .ofNat m,.ofNat n=>Nat.ble (m+1) n
 | .negSucc _,.ofNat _=>true
 | .ofNat _,.negSucc _=>false
 | .negSucc m,.negSucc n=>Nat.ble (n+1) m
def Qb (a b:Int):NX a b=decide (a<b):=by
 cases a<;>cases b<;>simp only[NX]
 .rename_i m n
  rw[IZ,Nat.ble_eq,Cc];simp;omega
 .rename_i m n
  symm;rw[decide_eq_false_iff_not];simp;omega
 .rename_i m n
  symm;rw[Cc];simp;omega
 .rename_i m n
  rw[IZ,Nat.ble_eq,Cc];omega
def P5 (a b:Int):Bool:= !NX b a
def ik (a b:Int):P5 a b=decide (a<=b):=by
 rw[P5,Qb,IZ];simp
def cV (a b:Int):Bool:=
 match a,b with
 | .ofNat m,.ofNat n=>Nat.beq m n
 | .negSucc m,.negSucc n=>Nat.beq m n
 | _,_=>false
def Up (a b:Int):cV a b=(a==b):=by
 cases a<;>cases b<;>simp only[cV]
 .rename_i m n
  rw[IZ,Nat.beq_eq,DD];exact⟨fun e=>by rw[e],fun e=>by cases e;rfl⟩
 .rename_i m n
  rw[IZ,DD];exact⟨fun e=>(by cases e),fun e=>by cases e⟩
 .rename_i m n
  rw[IZ,DD];exact⟨fun e=>(by cases e),fun e=>by cases e⟩
 .rename_i m n
  rw[IZ,Nat.beq_eq,DD];exact⟨fun e=>by rw[e],fun e=>by cases e;rfl⟩
def Eg {a b:Int} (h:P5 a b=true):a<=b:=by rw[ik]at h;exact of_decide_eq_true h
def Np {a b:Int} (h:NX a b=true):a<b:=by rw[Qb]at h;exact of_decide_eq_true h
def QS (op:BinOp) (k:IntKind) (x y:Int):Int:=
 match k,x,y with
 | .u64,.ofNat a,.ofNat b=>bif Nat.ble a 18446744073709551615&&Nat.ble b 18446744073709551615 then
  match op with
  | .and=> .ofNat (Nat.land a b)
  | .or=> .ofNat (Nat.lor a b)
  | op=>bits op .u64 (.ofNat a) (.ofNat b)
   else bits op .u64 (.ofNat a) (.ofNat b)
 | k,x,y=>bits op k x y
def mU (op:BinOp) (k:IntKind) (x y:Int):QS op k x y=bits op k x y:=by
 unfold QS;split
 .rename_i a b
  cases h:Nat.ble a 18446744073709551615&&Nat.ble b 18446744073709551615 with
  | false=>rfl
  | true=>
    simp only[A9]at h;have h1:=Nat.le_of_ble_eq_true h.1;have h2:=Nat.le_of_ble_eq_true h.2
    have e1:(BitVec.ofInt 64 (Int.ofNat a)).toNat=a:=by
     rw[show Int.ofNat a=(a:Int) from rfl,BitVec.ofInt_natCast,BitVec.toNat_ofNat];omega
    have e2:(BitVec.ofInt 64 (Int.ofNat b)).toNat=b:=by
     rw[show Int.ofNat b=(b:Int) from rfl,BitVec.ofInt_natCast,BitVec.toNat_ofNat];omega
    simp only[cond_true];split
    .have e3:bits .and .u64 (Int.ofNat a) (Int.ofNat b)=IntKind.u64.wrap (((BitVec.ofInt 64 (Int.ofNat a))&&&(BitVec.ofInt 64 (Int.ofNat b))).toNat:Int):=rfl
     rw[e3,BitVec.toNat_and,e1,e2];have:a&&&b<2 ^ 64:=Nat.and_lt_two_pow _ (by omega);rw[wrap_u64 (by omega) (by omega)];rfl
    .have e3:bits .or .u64 (Int.ofNat a) (Int.ofNat b)=IntKind.u64.wrap (((BitVec.ofInt 64 (Int.ofNat a))|||(BitVec.ofInt 64 (Int.ofNat b))).toNat:Int):=rfl
     rw[e3,BitVec.toNat_or,e1,e2];have:a|||b<2 ^ 64:=Nat.or_lt_two_pow (by omega) (by omega)
     rw[wrap_u64 (by omega) (by omega)];rfl
    .rfl
 .rfl
def V4 (op:BinOp) (x y:V):Option V:=
 match x,y with
 | .i ka a,.i kb b=>
   match op with
   | .add=>bif decide (ka=kb)then some (.i ka (JE ka (a+b)))else none
   | .sub=>bif decide (ka=kb)then some (.i ka (JE ka (a - b)))else none
   | .mul=>bif decide (ka=kb)then some (.i ka (JE ka (a*b)))else none
   | .quo=>bif decide (ka=kb)&& !cV b 0 then some (.i ka (JE ka (a.tdiv b)))else none
   | .rem=>bif decide (ka=kb)&& !cV b 0 then some (.i ka (a.tmod b))else none
   | .eql=>bif decide (ka=kb)then some (.b (cV a b))else none
   | .neq=>bif decide (ka=kb)then some (.b (!cV a b))else none
   | .lss=>bif decide (ka=kb)then some (.b (NX a b))else none
   | .leq=>bif decide (ka=kb)then some (.b (P5 a b))else none
   | .gtr=>bif decide (ka=kb)then some (.b (NX b a))else none
   | .geq=>bif decide (ka=kb)then some (.b (P5 b a))else none
   | .shl=>bif P5 0 b then some (.i ka (JE ka (a*2 ^ (min b.toNat ka.bits))))else none
   | .shr=>bif P5 0 b then some (.i ka (a.fdiv (2 ^ (min b.toNat ka.bits))))else none
   | op=>bif decide (ka=kb)then some (.i ka (QS op ka a b))else none
 | _,_=>none
def AW {α:Type} {c:Bool} {x:Option α} {v:α} (h:(bif c then x else none)=some v):c=true/\x=some v:=by
 cases c with
 | true=>exact⟨rfl,h⟩
 | false=>cases h
def qS {op:BinOp} {x y v:V} (h:V4 op x y=some v):BL x=true/\BL y=true/\BL v=true/\ ∀K:V->Prop,K v->Vv op x y K:=by
 unfold V4 at h;split at h
 .rename_i ka a kb b
  refine⟨rfl,rfl,?_⟩
  cases op<;>simp only at h<;>obtain⟨h1,h2⟩:=AW h<;>cases h2<;>refine⟨rfl,fun K U=>?_⟩<;>
   (try simp only[A9,Cc,Bool.not_eq_true',Up,beq_eq_false_iff_ne]at h1)<;>
   (try simp only[J0,Qb,ik,Up,mU]at U)<;>simp only[Vv]
  all_goals first
   | exact⟨h1,U⟩
   | exact⟨h1.1,h1.2,U⟩
   | exact⟨Eg h1,U⟩
 .cases h
def Gy {v v':V} {cs:List V} (h:cellsOf v=some cs) (hv:RV Y v v'): ∃cs',cellsOf v'=some cs'/\L4 Y cs cs':=by
 cases v with
 | a cs0=>
   cases h;obtain⟨c,h1,rfl⟩:=hv;exact⟨c,rfl,Bh.1 h1⟩
 | t _=>cases h
 | any=>cases h
 | _ =>
   cases h
   have:cellsOf v'=some [v']:=by
    simp only[RV]at hv
    first
     | (rw[hv];rfl)
     | (obtain⟨_,_,hv⟩:=hv;rw[hv];rfl)
     | (obtain⟨_,_,_,_,_,_,hv⟩:=hv;rw[hv];rfl)
   exact⟨[v'],this,F2.cons hv F2.nil⟩
def oo {v v':V} (hv:RV Y v v'):CO v'=CO v:=by
 cases v<;>simp only[RV]at hv<;>first
  | (rw[hv];done)
  | (obtain⟨_,_,hv⟩:=hv;rw[hv];rfl)
  | (obtain⟨_,_,_,_,_,_,hv⟩:=hv;rw[hv];rfl)
def cC {vs vs':List V} (h:vs.all CO=true) (hv:L4 Y vs vs'):vs'.all CO=true:=by
 rw[EB]at *;intro v hm;obtain⟨u,hu,hr⟩:=F2.mem hv hm;rw[oo hr];exact h u hu
def M9 {vs vs':List (List V)} (h:(vs.all fun e=>e.all CO)=true) (hv:fp Y vs vs'): ∀e∈vs',∀v∈e,CO v=true:=by
 rw[EB]at h;intro e he;obtain⟨u,hu,hr⟩:=F2.mem hv he;have:=cC (h u hu) hr
 rwa [EB]at this
def Py {sz:Nat} {vs vs':List (List V)} (h:(vs.all fun e=>Nat.beq e.length sz)=true) (hv:fp Y vs vs'): ∀e∈vs',e.length=sz:=by
 rw[EB]at h;intro e he;obtain⟨u,hu,hr⟩:=F2.mem hv he;rw[hr.len];exact C5 (h u hu)
def Mq: ∀ {vc vc':List V} {cs cs':List V} {off:Nat},L4 Y cs cs'->L4 Y vc vc'->L4 Y (putAt cs off vc) (putAt cs' off vc')
 | [],_,_,_,_,h,h'=>by cases h';exact h
 | _::_,_,_,_,off,h,⟨y,ys,h1,h2,e⟩=>by
   subst e;simp only[putAt];exact Mq (h.set off h1) h2
def V2 (agg:Option Nat) (cs:List V) (off:Nat):Option V:=
 match agg with
 | none=>cs[off]?
 | some n=>bif Nat.ble (off+n) cs.length then some (.a ((cs.drop off).take n))else none
def Mb {agg:Option Nat} {cs cs':List V} {off:Nat} {v:V} (h:V2 agg cs off=some v) (hc:L4 Y cs cs') {K:V->Prop} (U: ∀v',RV Y v v'->K v'):cut agg cs' off K:=by
 cases agg with
 | none=>
   obtain⟨y,h1,h2⟩:=hc.get h;simp only[cut,h1];exact U _ h2
 | some n=>
   obtain⟨h1,h2⟩:=AW h;cases h2;refine⟨by rw[hc.len];exact Nat.le_of_ble_eq_true h1,U _ ?_⟩;simp only[RV];exact⟨_,Bh.2 ((hc.drop off).take n),rfl⟩
def Oo (s:St) (agg:Option Nat) (x:V):Option V:=
 match x with
 | .rp cs=>V2 agg cs 0
 | .p n off=>match s.t.get n with
   | some (.cs vs)=>V2 agg vs off
   | _=>none
 | .pe n sz i off=>match s.t.get n with
   | some (.arr sz' es)=>bif Nat.beq sz sz' then(match es[i]? with|some e=>V2 agg e off|none=>none)else none
   | _=>none
 | _=>none
def XM {s:St} (hs:SR P Y s Z) {agg:Option Nat} {x x' v:V} (h:Oo s agg x=some v) (hx:RV Y x x') {K:V->Prop} (U: ∀v',RV Y v v'->K v'):AU Z agg x' K:=by
 unfold Oo at h;split at h
 .obtain⟨c,h1,rfl⟩:=hx
  exact Mb h (Bh.1 h1) U
 .obtain⟨m,h1,rfl⟩:=hx
  split at h
  .rename_i vs hg
   obtain⟨o',h2,vs',h3,rfl⟩:=hs.at hg h1;simp only[AU,QI,h2];exact Mb h h3 U
  .cases h
 .obtain⟨m,h1,rfl⟩:=hx
  split at h
  .rename_i es hg
   obtain⟨o',h2,es',h3,rfl⟩:=hs.at hg h1;obtain⟨h4,h5⟩:=AW h;split at h5
   .rename_i e he
    obtain⟨e',h6,h7⟩:=h3.get he;simp only[AU,QJ,h2,h6];exact⟨C5 h4,Mb h5 h7 U⟩
   .cases h5
  .cases h
 .cases h
def Qd (s : St) (sz:Nat) (a x:V):Option St:=
 match cellsOf x with
 | some vc =>bif Nat.beq vc.length sz&&vc.all CO then
  match a with
  | .p n off=>match s.t.get n with
    | some (.cs vs)=>bif Nat.ble (off+sz) vs.length then Tr.put (some (.cs (putAt vs off vc))) BD s.t n fun t=>some ⟨s.nx,t⟩else none
    | _=>none
  | .pe n s' i off=>match s.t.get n with
    | some (.arr s1 es)=>bif Nat.beq s' s1&&Nat.ble (off+sz) s' then
     (match es[i]? with|some e=>Tr.put (some (.arr s1 (es.set i (putAt e off vc)))) BD s.t n fun t=>some ⟨s.nx,t⟩|none=>none)else none
    | _=>none
  | _=>none
   else none
 | none=>none
def er {s s':St} (hs:SR P Y s Z) {sz:Nat} {a a' x x':V} (h:Qd s sz a x=some s') (ha:RV Y a a') (hx:RV Y x x') {K:AE->Prop} (U: ∀Z',SR P Y s' Z'->K Z'):AS Z sz a' x' K:=by
 unfold Qd at h;split at h
 .rename_i vc hvc
  obtain⟨vc',e1,e2⟩:=Gy hvc hx;obtain⟨h1,h2⟩:=AW h;simp only[A9]at h1;simp only[AS,e1];refine⟨by rw[e2.len];exact C5 h1.1,cC h1.2 e2,?_⟩;split at h2
  .obtain⟨m,g1,rfl⟩:=ha
   split at h2
   .rename_i vs hg
    obtain⟨o',g2,vs',g3,rfl⟩:=hs.at hg g1;obtain⟨h3,h4⟩:=AW h2;rw[Tr.put_eq]at h4;cases h4;simp only[g2];exact⟨by rw[g3.len];exact Nat.le_of_ble_eq_true h3,U _ (hs.B3 hg g1 ⟨_,Mq g3 e2,rfl⟩)⟩
   .cases h2
  .obtain⟨m,g1,rfl⟩:=ha
   split at h2
   .rename_i es hg
    obtain⟨o',g2,vs',g3,rfl⟩:=hs.at hg g1;obtain⟨h3,h4⟩:=AW h2;simp only[A9]at h3;split at h4
    .rename_i e he
     rw[Tr.put_eq]at h4;cases h4;obtain⟨e',g4,g5⟩:=g3.get he;simp only[g2,g4];have e:=C5 h3.1;subst e;exact⟨rfl,Nat.le_of_ble_eq_true h3.2,U _ (hs.B3 hg g1 ⟨_,g3.set _ (Mq g5 e2),rfl⟩)⟩
    .cases h4
   .cases h2
  .cases h2
 .cases h
def Uq (off:Nat) (x:V):Option V:=
 match x with
 | .rp cs=>some (.rp (cs.drop off))
 | .p n o=>some (.p n (o+off))
 | .pe n sz i o=>some (.pe n sz i (o+off))
 | _=>none
def fC {off:Nat} {x x' v:V} (h:Uq off x=some v) (hx:RV Y x x') {K:V->Prop} (U: ∀v',RV Y v v'->K v'):LZ off x' K:=by
 unfold Uq at h;split at h
 .obtain⟨c,h1,rfl⟩:=hx
  cases h;exact U _ (by simp only[RV];exact⟨_,Bh.2 ((Bh.1 h1).drop off),rfl⟩)
 .obtain⟨m,h1,rfl⟩:=hx
  cases h;exact U _ (by simp only[RV];exact⟨m,h1,rfl⟩)
 .obtain⟨m,h1,rfl⟩:=hx
  cases h;exact U _ (by simp only[RV];exact⟨m,h1,rfl⟩)
 .cases h
def Nv (sz:Nat) (arr:Option Nat) (x i:V):Option V:=
 match i with
 | .i _ j=>bif P5 0 j then
  match arr,x with
  | none,.l es _=>match es[j.toNat]? with|some e=>bif Nat.beq e.length sz then some (.rp e)else none|none=>none
  | none,.sl n len _=>bif NX j len then some (.pe n sz j.toNat 0)else none
  | none,.sv n s off len=>bif Nat.beq s sz&&NX j len then some (.pe n sz (off+j.toNat) 0)else none
  | some m,.rp cs=>bif NX j m then some (.rp (cs.drop (j.toNat*sz)))else none
  | some m,.p n o=>bif NX j m then some (.p n (o+j.toNat*sz))else none
  | some m,.pe n s q o=>bif NX j m then some (.pe n s q (o+j.toNat*sz))else none
  | _,_=>none
   else none
 | _=>none
def fB {sz:Nat} {arr:Option Nat} {x x' i i' v:V} (h:Nv sz arr x i=some v) (hx:RV Y x x') (hi:RV Y i i') {K:V->Prop} (U: ∀v',RV Y v v'->K v'):AR sz arr x' i' K:=by
 unfold Nv at h;split at h
 .rename_i kj j
  simp only[RV]at hi;subst hi;obtain⟨h0,h⟩:=AW h;have h0:=Eg h0;split at h
  .obtain⟨es',h1,rfl⟩:=hx
   split at h
   .rename_i e he
    obtain⟨h2,h3⟩:=AW h;cases h3;obtain⟨e',h4,h5⟩:=(F1.1 h1).get he;exact⟨h0,e',h4,by rw[h5.len];exact C5 h2,U _ (by simp only[RV];exact⟨e',Bh.2 h5,rfl⟩)⟩
   .cases h
  .obtain⟨m,h1,rfl⟩:=hx
   obtain⟨h2,h3⟩:=AW h;cases h3;exact⟨h0,Np h2,U _ (by simp only[RV];exact⟨m,h1,rfl⟩)⟩
  .obtain⟨m,h1,rfl⟩:=hx
   obtain⟨h2,h3⟩:=AW h;simp only[A9]at h2;cases h3;exact⟨C5 h2.1,h0,Np h2.2,U _ (by simp only[RV];exact⟨m,h1,rfl⟩)⟩
  .obtain⟨c,h1,rfl⟩:=hx
   obtain⟨h2,h3⟩:=AW h;cases h3;exact⟨h0,Np h2,U _ (by simp only[RV];exact⟨_,Bh.2 ((Bh.1 h1).drop _),rfl⟩)⟩
  .obtain⟨m,h1,rfl⟩:=hx
   obtain⟨h2,h3⟩:=AW h;cases h3;exact⟨h0,Np h2,U _ (by simp only[RV];exact⟨m,h1,rfl⟩)⟩
  .obtain⟨m,h1,rfl⟩:=hx
   obtain⟨h2,h3⟩:=AW h;cases h3;exact⟨h0,Np h2,U _ (by simp only[RV];exact⟨m,h1,rfl⟩)⟩
  .cases h
 .cases h
def Qf (len sz:Nat) (agg:Option Nat) (x i:V):Option V:=
 match x,i with
 | .a cs,.i _ j=>bif P5 0 j&&NX j len then V2 agg cs (j.toNat*sz)else none
 | _,_=>none
def fA {len sz:Nat} {agg:Option Nat} {x x' i i' v:V} (h:Qf len sz agg x i=some v) (hx:RV Y x x') (hi:RV Y i i') {K:V->Prop} (U: ∀v',RV Y v v'->K v'):LY len sz agg x' i' K:=by
 unfold Qf at h;split at h
 .simp only[RV]at hi
  subst hi;obtain⟨c,h1,rfl⟩:=hx;obtain⟨h2,h3⟩:=AW h;simp only[A9]at h2;exact⟨Eg h2.1,Np h2.2,Mb h3 (Bh.1 h1) U⟩
 .cases h
def WR (x i:V):Option V:=
 match x,i with
 | .s b,.i _ j=>bif P5 0 j then(match b.data.toList[j.toNat]? with|some c=>some (.i .u8 (.ofNat c.toNat))|none=>none)else none
 | _,_=>none
def l7 {x x' i i' v:V} (h:WR x i=some v) (hx:RV Y x x') (hi:RV Y i i') {K:V->Prop} (U: ∀v',RV Y v v'->K v'):QM x' i' K:=by
 unfold WR at h;split at h
 .simp only[RV]at hi hx
  subst hi;subst hx;obtain⟨h2,h3⟩:=AW h;refine⟨Eg h2,?_⟩;split at h3
  .rename_i c hc
   cases h3;rw[hc];exact U _ (by simp only[RV];rfl)
  .cases h3
 .cases h
def cw (x:V):Option V:=
 match x with
 | .l es _=>some (.i .i64 (.ofNat es.length))
 | .sl _ len _=>bif Nat.ble len AZ then some (.i .i64 (.ofNat len))else none
 | .sv _ _ _ len=>bif Nat.ble len AZ then some (.i .i64 (.ofNat len))else none
 | _=>none
def qP {x x' v:V} (h:cw x=some v) (hx:RV Y x x') {K:V->Prop} (U: ∀v',RV Y v v'->K v'):Ax x' K:=by
 unfold cw at h;split at h
 .obtain⟨es',h1,rfl⟩:=hx
  cases h;have:=(F1.1 h1).len;exact U _ (by simp only[RV];rw[this];rfl)
 .obtain⟨m,h1,rfl⟩:=hx
  obtain⟨h2,h3⟩:=AW h;cases h3;exact⟨Nat.le_of_ble_eq_true h2,U _ (by simp only[RV];rfl)⟩
 .obtain⟨m,h1,rfl⟩:=hx
  obtain⟨h2,h3⟩:=AW h;cases h3;exact⟨Nat.le_of_ble_eq_true h2,U _ (by simp only[RV];rfl)⟩
 .cases h
def WS (s:St) (x:V):Option V:=
 match x with
 | .m n=>match s.t.get n with
   | some (.map kvs)=>bif Nat.ble kvs.length AZ then some (.i .i64 (.ofNat kvs.length))else none
   | _=>none
 | .mn=>some (.i .i64 0)
 | _=>none
def l8 {s:St} (hs:SR P Y s Z) {x x' v:V} (h:WS s x=some v) (hx:RV Y x x') {K:V->Prop} (U: ∀v',RV Y v v'->K v'):K7 Z x' K:=by
 unfold WS at h;split at h
 .obtain⟨m,h1,rfl⟩:=hx
  split at h
  .rename_i kvs hg
   obtain⟨h2,h3⟩:=AW h;cases h3;obtain⟨o',g2,kvs',g3,rfl⟩:=hs.at hg h1;simp only[K7,g2];have:=g3.len;exact⟨by rw[this];exact Nat.le_of_ble_eq_true h2,U _ (by simp only[RV];rw[this];rfl)⟩
  .cases h
 .cases h
  simp only[RV]at hx;subst hx;exact U _ (by simp only[RV])
 .cases h
def JP (s:St) (sz:Nat) (y:V):Option (List (List V)):=
 match y with
 | .l ys _=>bif ys.all (fun e=>Nat.beq e.length sz)then some ys else none
 | .sl m len _=>match s.t.get m with
   | some (.arr s' ys)=>bif Nat.beq s' sz&&Nat.ble len ys.length then some (ys.take len)else none
   | _=>none
 | .sv m s1 off len=>match s.t.get m with
   | some (.arr s' ys)=>bif Nat.beq s1 sz&&(Nat.beq s' sz&&Nat.ble (off+len) ys.length)then some ((ys.drop off).take len)else none
   | _=>none
 | _=>none
def IE {s:St} (hs:SR P Y s Z) {sz:Nat} {y y':V} {ys:List (List V)} (h:JP s sz y=some ys) (hy:RV Y y y') {K:List (List V)->Prop} (U: ∀ys',fp Y ys ys'->K ys'):rowsOf Z sz y' K:=by
 unfold JP at h;split at h
 .obtain⟨es',h1,rfl⟩:=hy
  obtain⟨h2,h3⟩:=AW h;cases h3;exact⟨Py h2 (F1.1 h1),U _ (F1.1 h1)⟩
 .obtain⟨m,h1,rfl⟩:=hy
  split at h
  .rename_i es hg
   obtain⟨o',g2,es',g3,rfl⟩:=hs.at hg h1;obtain⟨h2,h3⟩:=AW h;simp only[A9]at h2;cases h3;simp only[rowsOf,g2];exact⟨C5 h2.1,by rw[g3.len];exact Nat.le_of_ble_eq_true h2.2,U _ (g3.take _)⟩
  .cases h
 .obtain⟨m,h1,rfl⟩:=hy
  split at h
  .rename_i es hg
   obtain⟨o',g2,es',g3,rfl⟩:=hs.at hg h1;obtain⟨h2,h3⟩:=AW h;simp only[A9]at h2;cases h3;simp only[rowsOf,g2];exact⟨C5 h2.1,C5 h2.2.1,by rw[g3.len];exact Nat.le_of_ble_eq_true h2.2.2,U _ ((g3.drop _).take _)⟩
  .cases h
 .cases h
def St.new {β:Type} (s:St) (o:EO) (K:Nat->St->Option β):Option β:=
 match s.nx with
 | 0=>Tr.put (some o) BD s.t 0 fun t=>K 0 ⟨1,t⟩
 | n+1=>bif Nat.ble (n+1) Nd then Tr.put (some o) BD s.t (n+1) fun t=>K (n+1) ⟨n+2,t⟩else none
def St.Ig {β:Type} {s:St} {o:EO} {K:Nat->St->Option β} {x:β} (h:s.new o K=some x):s.nx<=Nd/\K s.nx ⟨s.nx+1,Tr.set (some o) BD s.t s.nx⟩=some x:=by
 obtain⟨n,t⟩:=s;cases n with
 | zero=>simp only[St.new]at h;rw[Tr.put_eq]at h;exact⟨by simp[Nd],h⟩
 | succ n=>
   simp only[St.new]at h;obtain⟨h1,h2⟩:=AW h;rw[Tr.put_eq]at h2;exact⟨Nat.le_of_ble_eq_true h1,h2⟩
def TU: ∀ {ys ys':List (List V)} {ns:List Int},Fb ys=some ns->fp Y ys ys'->Fb ys'=some ns
 | [],ys',ns,h,hr=>by obtain rfl:ys'= []:=hr;exact h
 | e ::r,ys',ns,h,hr=>by
   unfold Fb at h;split at h
   .cases ‹_= []›
   .rename_i n r' he
    cases he;obtain⟨e',r'',h1,h2,rfl⟩:=hr;obtain⟨v',l',h3,h4,rfl⟩:=h1;obtain rfl:l'= []:=h4;simp only[RV]at h3;subst h3;split at h
    .rename_i l hl
     cases h;simp only[Fb,TU hl h2]
    .cases h
   .cases h
def gT (s:St) (x:V):Option V:=
 match JP s 1 x with
 | some ys=>match Fb ys with
   | some ns=>some (.s ⟨(ns.map fun n=>UInt8.ofNat n.toNat).toArray⟩)
   | none=>none
 | none=>none
def qO {s:St} (hs:SR P Y s Z) {x x' v:V} (h:gT s x=some v) (hx:RV Y x x') {K:V->Prop} (U: ∀v',RV Y v v'->K v'):gP Z x' K:=by
 unfold gT at h;split at h
 .rename_i ys hys
  split at h
  .rename_i ns hn
   cases h;refine IE hs hys hx fun ys' hr=>?_
   rw[TU hn hr];exact U _ (by simp only[RV])
  .cases h
 .cases h
def zD (b L:Nat):Bool:=Nat.ble L 1073741824&&Nat.ble b 131072
def Ua {b L:Nat} (h:zD b L=true):L<=AZ/\L*b<=140737488355328:=by
 simp only[zD,A9]at h;have h1:=Nat.le_of_ble_eq_true h.1;have h2:=Nat.le_of_ble_eq_true h.2;have h3:L*b<=1073741824*131072:=Nat.mul_le_mul h1 h2;exact⟨by unfold AZ;omega,by omega⟩
def Mc (b : Nat) (s:St) (sz:Nat) (x y:V):Option (V×St):=
 match JP s sz y with
 | some ys =>bif ys.all (fun e=>e.all CO)then
  match x with
  | .l es full=>bif es.all (fun e=>Nat.beq e.length sz)&&zD b (es.length+ys.length)then
   match ys with
   | []=>some (.l es full,s)
   | z::zs=>bif full then s.new (.arr sz (es++z::zs)) fun i s'=>some (.sl i (es.length+(z::zs).length) 0,s')else none
    else none
  | .sl n len _=>match s.t.get n with
    | some (.arr s1 es)=>bif Nat.beq s1 sz&&(Nat.beq len es.length&&zD b (es.length+ys.length))then
     Tr.put none BD s.t n fun t=>St.new ⟨s.nx,t⟩ (.arr sz (es++ys)) fun i s'=>some (.sl i (es.length+ys.length) 0,s')else none
    | _=>none
  | _=>none
   else none
 | none=>none
def Zg {b : Nat} {s s':St} (hs:SR P Y s Z) {sz:Nat} {x x' y y' v:V} (h:Mc b s sz x y=some (v,s')) (hx:RV Y x x') (hy:RV Y y y') {K:V->AE->Prop}
    (U: ∀Y' v' Z',Y.le Y'->RV Y' v v'->SR P Y' s' Z'->K v' Z'):AK b Z sz x' y' K:=by
 unfold Mc at h;split at h
 .rename_i ys hys
  obtain⟨h1,h2⟩:=AW h;refine IE hs hys hy fun ys' hr=>⟨M9 h1 hr,?_⟩
  split at h2
  .rename_i es full
   obtain⟨es',g1,rfl⟩:=hx;have g1:=F1.1 g1;obtain⟨h3,h4⟩:=AW h2;simp only[A9]at h3;refine⟨Py h3.1 g1,by rw[g1.len,hr.len];exact Ua h3.2,fun e=>?_,fun e=>?_⟩
   .split at h4
    .cases h4
     exact U Y _ _ (.refl _) (by simp only[RV];exact⟨es',F1.2 g1,rfl⟩) hs
    .subst e
     have:=hr.len;simp at this
   .split at h4
    .cases hr
     exact absurd rfl e
    .rename_i z zs
     obtain⟨h5,h6⟩:=AW h4;obtain⟨h7,h8⟩:=St.Ig h6;cases h8;refine⟨h5,fun n cap hn hc=>?_⟩;obtain⟨Y',q1,q2,q3⟩:=hs.new h7 hn cap (o:= .arr sz (es++z::zs)) (o':= .arr sz (es'++ys') cap) ⟨_,g1.app hr,rfl⟩;exact U Y' _ _ q1 (by simp only[RV];exact⟨_,q2,by rw[g1.len,hr.len]⟩) q3
  .rename_i n len
   obtain⟨m,g1,rfl⟩:=hx;split at h2
   .rename_i s1 es hg
    obtain⟨o',g2,es',g3,rfl⟩:=hs.at hg g1;obtain⟨h3,h4⟩:=AW h2;simp only[A9]at h3;rw[Tr.put_eq]at h4;obtain⟨h5,h6⟩:=St.Ig h4;cases h6;have e1:=C5 h3.1;subst e1;simp only[g2];refine⟨trivial,trivial,by rw[g3.len];exact C5 h3.2.1,by rw[g3.len,hr.len];exact Ua h3.2.2,fun n' cap' hn hc=>?_⟩;obtain⟨Y',q1,q2,q3⟩:=(hs.del hg g1).new h5 hn cap' (o:= .arr s1 (es++ys)) (o':= .arr s1 (es'++ys') cap') ⟨_,g3.app hr,rfl⟩;exact U Y' _ _ q1 (by simp only[RV];exact⟨_,q2,by rw[g3.len,hr.len]⟩) q3
   .cases h2
  .cases h2
 .cases h
def WV (b:Nat) (s:St) (sz:Nat) (x y:V):Option V:=
 match JP s sz y with
 | some ys=>bif ys.all (fun e=>e.all CO)then
  match x with
  | .l es full=>bif es.all (fun e=>Nat.beq e.length sz)&&(zD b (es.length+ys.length)&&(full||ys.isEmpty))then some (.l (es++ys) false)else none
  | _=>none
   else none
 | none=>none
def mA {b:Nat} {s:St} (hs:SR P Y s Z) {sz:Nat} {x x' y y' v:V} (h:WV b s sz x y=some v) (hx:RV Y x x') (hy:RV Y y y') {K:V->Prop} (U: ∀v',RV Y v v'->K v'):AY b Z sz x' y' K:=by
 unfold WV at h;split at h
 .rename_i ys hys
  obtain⟨h1,h2⟩:=AW h;refine IE hs hys hy fun ys' hr=>⟨M9 h1 hr,?_⟩
  split at h2
  .rename_i es full
   obtain⟨es',g1,rfl⟩:=hx;have g1:=F1.1 g1;obtain⟨h3,h4⟩:=AW h2;simp only[A9,Fm]at h3;cases h4;refine⟨Py h3.1 g1,by rw[g1.len,hr.len];exact Ua h3.2.1,fun e=>?_,U _ (by simp only[RV];exact⟨_,F1.2 (g1.app hr),rfl⟩)⟩;rcases h3.2.2 with h|h
   .exact h
   .have:ys= []:=by simpa using h
    subst this;cases hr;exact absurd rfl e
  .cases h2
 .cases h
def nc (s:St) (sz:Nat) (ys:List (List V)) (n off len:Nat):Option (V×St):=
 match s.t.get n with
 | some (.arr s1 es)=>bif Nat.beq s1 sz&&Nat.ble (off+len) es.length then
  Tr.put (some (.arr s1 (es.take off++(ys.take (min ys.length len)++es.drop (off+min ys.length len))))) BD s.t n fun t=>some (.i .i64 (.ofNat (min ys.length len)),⟨s.nx,t⟩)else none
 | _=>none
def bn {s s':St} (hs:SR P Y s Z) {sz n off len:Nat} {ys ys':List (List V)} (hr:fp Y ys ys') {m:Nat×Nat} (hm:Y n=some m) {v:V} (h:nc s sz ys n off len=some (v,s')) {K:V->AE->Prop}
    (U: ∀v' Z',RV Y v v'->SR P Y s' Z'->K v' Z'):QA Z sz ys' m.1 off len K:=by
 unfold nc at h;split at h
 .rename_i s1 es hg
  obtain⟨o',g2,es',g3,rfl⟩:=hs.at hg hm;obtain⟨h3,h4⟩:=AW h;simp only[A9]at h3;rw[Tr.put_eq]at h4;cases h4;simp only[QA,g2];refine⟨C5 h3.1,by rw[g3.len];exact Nat.le_of_ble_eq_true h3.2,?_⟩;rw[hr.len];exact U _ _ (by simp only[RV];rfl) (hs.B3 hg hm ⟨_,((g3.take off).app ((hr.take _).app (g3.drop _))),rfl⟩)
 .cases h
def WU (s:St) (sz:Nat) (x y:V):Option (V×St):=
 match JP s sz y with
 | some ys=>bif ys.all (fun e=>e.all CO)then
  match x with
  | .sl n len _=>nc s sz ys n 0 len
  | .sv n s1 off len=>bif Nat.beq s1 sz then nc s sz ys n off len else none
  | _=>none
   else none
 | none=>none
def l9 {s s':St} (hs:SR P Y s Z) {sz:Nat} {x x' y y' v:V} (h:WU s sz x y=some (v,s')) (hx:RV Y x x') (hy:RV Y y y') {K:V->AE->Prop}
    (U: ∀v' Z',RV Y v v'->SR P Y s' Z'->K v' Z'):AX Z sz x' y' K:=by
 unfold WU at h;split at h
 .rename_i ys hys
  obtain⟨h1,h2⟩:=AW h;refine IE hs hys hy fun ys' hr=>⟨M9 h1 hr,?_⟩
  split at h2
  .obtain⟨m,g1,rfl⟩:=hx
   exact bn hs hr g1 h2 U
  .obtain⟨m,g1,rfl⟩:=hx
   obtain⟨h3,h4⟩:=AW h2;exact⟨C5 h3,bn hs hr g1 h4 U⟩
  .cases h2
 .cases h
def V3 (o:Option V) (d:Int):Option Int:=
 match o with
 | none=>some d
 | some (.i _ n)=>some n
 | _=>none
def rG (Y:Ren):Option V->Option V->Prop
 | none,o=>o=none
 | some v,o=> ∃v',RV Y v v'/\o=some v'
def KV {o o':Option V} {d n:Int} (h:V3 o d=some n) (ho:rG Y o o') {K:Int->Prop} (U:K n):Of o' d K:=by
 unfold V3 at h;split at h
 .cases h;cases ho;exact U
 .obtain⟨v',h1,rfl⟩:=ho
  simp only[RV]at h1;subst h1;cases h;exact U
 .cases h
def Qe (s : St) (sz:Nat) (x:V) (lo hi mx:Option V):Option (V×St):=
 match x with
 | .l es full=>match V3 hi (.ofNat es.length),V3 lo 0 with
   | some h,some l=>bif es.all (fun e=>Nat.beq e.length sz)&&(P5 0 l&&(P5 l h&&P5 h (.ofNat es.length)))then
    match mx with
    | none=>some (.l ((es.take h.toNat).drop l.toNat) (full&&cV h (.ofNat es.length)),s)
    | some (.i _ m)=>bif cV m h then some (.l ((es.take h.toNat).drop l.toNat) true,s)else none
    | _=>none
     else none
   | _,_=>none
 | .sl n len _=>match V3 hi (.ofNat len),V3 lo 0 with
   | some h,some l=>bif P5 0 l&&(P5 l h&&P5 h (.ofNat len))then
    match mx with
    | none=>some (.sv n sz l.toNat (h - l).toNat,s)
    | some (.i _ m)=>match s.t.get n with
      | some (.arr s1 es)=>bif cV m h&&(cV h (.ofNat len)&&(cV l 0&&(Nat.beq s1 sz&&Nat.beq len es.length)))then Tr.put none BD s.t n fun t=>St.new ⟨s.nx,t⟩ (.arr s1 es) fun i s'=>some (.sl i len 0,s')else none
      | _=>none
    | _=>none
     else none
   | _,_=>none
 | .sv n s1 off len=>match V3 hi (.ofNat len),V3 lo 0,mx with
   | some h,some l,none=>bif Nat.beq s1 sz&&(P5 0 l&&(P5 l h&&P5 h (.ofNat len)))then some (.sv n sz (off+l.toNat) (h - l).toNat,s)else none
   | _,_,_=>none
 | _=>none
def Uo {a b:Int} (h:cV a b=true):a=b:=by rw[Up]at h;simpa using h
def ew {s s':St} (hs:SR P Y s Z) {sz:Nat} {x x' v:V} {lo hi mx lo' hi' mx':Option V} (h:Qe s sz x lo hi mx=some (v,s')) (hx:RV Y x x') (h1:rG Y lo lo') (h2:rG Y hi hi') (h3:rG Y mx mx') {K:V->AE->Prop}
    (U: ∀Y' v' Z',Y.le Y'->RV Y' v v'->SR P Y' s' Z'->K v' Z'):AQ Z sz x' lo' hi' mx' K:=by
 unfold Qe at h;split at h
 .rename_i es full
  obtain⟨es',g1,rfl⟩:=hx;have g1:=F1.1 g1;split at h
  .rename_i hh ll e1 e2
   obtain⟨h4,h5⟩:=AW h;simp only[A9]at h4;refine⟨Py h4.1 g1,?_⟩;rw[g1.len];refine KV e1 h2 ?_;refine KV e2 h1 ?_;refine⟨Eg h4.2.1,Eg h4.2.2.1,Eg h4.2.2.2,?_⟩;split at h5
   .cases h3
    cases h5;refine U Y _ _ (.refl _) ?_ hs;simp only[RV];refine⟨_,F1.2 ((g1.take _).drop _),?_⟩;congr 1;rw[Up];congr 1
   .obtain⟨v',q1,rfl⟩:=h3
    simp only[RV]at q1;subst q1;obtain⟨h6,h7⟩:=AW h5;cases h7;exact⟨Uo h6,U Y _ _ (.refl _) (by simp only[RV];exact⟨_,F1.2 ((g1.take _).drop _),rfl⟩) hs⟩
   .cases h5
  .cases h
 .rename_i n len
  obtain⟨m,g1,rfl⟩:=hx;split at h
  .rename_i hh ll e1 e2
   obtain⟨h4,h5⟩:=AW h;simp only[A9]at h4;simp only[AQ];refine KV e1 h2 ?_;refine KV e2 h1 ?_;refine⟨Eg h4.1,Eg h4.2.1,Eg h4.2.2,?_⟩;split at h5
   .cases h3
    cases h5;exact U Y _ _ (.refl _) (by simp only[RV];exact⟨m,g1,rfl⟩) hs
   .obtain⟨v',q1,rfl⟩:=h3
    simp only[RV]at q1;subst q1;split at h5
    .rename_i s1 es hg
     obtain⟨o',g2,es',g3,rfl⟩:=hs.at hg g1;obtain⟨h6,h7⟩:=AW h5;simp only[A9]at h6;rw[Tr.put_eq]at h7;obtain⟨h8,h9⟩:=St.Ig h7;cases h9;simp only[g2];have h10:=C5 h6.2.2.2.2;refine⟨Uo h6.1,Uo h6.2.1,Uo h6.2.2.1,C5 h6.2.2.2.1,trivial,by rw[g3.len];exact h10,.inr ?_⟩;obtain⟨Y',q1,q2,q3⟩:=(hs.del hg g1).new h8 (Dc Z m.1) n (o:= .arr s1 es) (o':= .arr s1 es' n) ⟨es',g3,rfl⟩
     have e:Gl.B3 (Gl.del Z m.1) m.1 (.arr s1 es' n)=Gl.B3 Z m.1 (.arr s1 es' n):=by
      funext k;by_cases hk:k=m.1
      .simp[Gl.B3,hk]
      .simp[Gl.B3,Gl.del,hk]
     rw[e]at q3;exact U Y' _ _ q1 (by simp only[RV];exact⟨_,q2,rfl⟩) q3
    .cases h5
   .cases h5
  .cases h
 .obtain⟨m,g1,rfl⟩:=hx
  split at h
  .rename_i hh ll e1 e2
   cases h3;obtain⟨h4,h5⟩:=AW h;simp only[A9]at h4;cases h5;simp only[AQ];refine KV e1 h2 ?_;refine KV e2 h1 ?_;exact⟨Eg h4.2.1,Eg h4.2.2.1,Eg h4.2.2.2,C5 h4.1,trivial,U Y _ _ (.refl _) (by simp only[RV];exact⟨m,g1,rfl⟩) hs⟩
  .cases h
 .cases h
def NP: ∀ {cs ds:List V} {t:Bool},Bv cs ds=some t->CK cs=true/\CK ds=true
 | [],[],_,_=>⟨rfl,rfl⟩
 | x ::xs,y::ys,t,h=>by
   cases x<;>cases y<;>simp only[Bv]at h<;>first|cases h|skip
   split at h
   .obtain⟨a,h1,_⟩:=Aj h
    obtain⟨h2,h3⟩:=NP h1;exact⟨by simp[CK,BL,h2],by simp[CK,BL,h3]⟩
   .cases h
 | [],_::_,_,h=>by simp[Bv]at h
 | x::xs,[],_,h=>by cases x<;>simp[Bv]at h
def na {cs cs':List V} (h:L4 Y cs cs') (hp:CK cs=true):cs'=cs:=RL.fn cs _ _ (Bh.2 h) (RL.pure cs hp)
def gV (len:Nat) (neg:Bool) (x y:V):Option V:=
 match x,y with
 | .a cs,.a ds=>bif Nat.beq cs.length len then(match Bv cs ds with|some t=>some (.b (bif neg then !t else t))|none=>none)else none
 | _,_=>none
def qR {len:Nat} {neg:Bool} {x x' y y' v:V} (h:gV len neg x y=some v) (hx:RV Y x x') (hy:RV Y y y') {K:V->Prop} (U: ∀v',RV Y v v'->K v'):UO len neg x' y' K:=by
 unfold gV at h;split at h
 .rename_i cs ds
  obtain⟨cs',g1,rfl⟩:=hx;obtain⟨ds',g2,rfl⟩:=hy;obtain⟨h1,h2⟩:=AW h;split at h2
  .rename_i t ht
   cases h2;obtain⟨p1,p2⟩:=NP ht;have e1:=na (Bh.1 g1) p1;have e2:=na (Bh.1 g2) p2;subst e1;subst e2;simp only[UO,h1,ht];exact U _ (by simp only[RV])
  .cases h2
 .cases h
def gU (kind:Nat) (neg:Bool) (x:V):Option V:=
 match kind,x with
 | 0,.pn=>some (.b (!neg))
 | 0,.rp _=>some (.b neg)
 | 0,.p _ _=>some (.b neg)
 | 0,.pe _ _ _ _=>some (.b neg)
 | 1,.sl _ _ _=>some (.b neg)
 | 1,.l (_::_) _=>some (.b neg)
 | 2,.Dv=>some (.b (!neg))
 | 2,.FO _ _=>some (.b neg)
 | 3,.mn=>some (.b (!neg))
 | 3,.m _=>some (.b neg)
 | 4,.L9=>some (.b (!neg))
 | 4,.f _ _ _=>some (.b neg)
 | _,_=>none
def qQ {kind:Nat} {neg:Bool} {x x' v:V} (h:gU kind neg x=some v) (hx:RV Y x x') {K:V->Prop} (U: ∀v',RV Y v v'->K v'):Ji kind neg x' K:=by
 unfold gU at h;split at h
 .simp only[RV]at hx;subst hx;cases h;exact U _ (by simp only[RV])
 .obtain⟨_,_,rfl⟩:=hx;cases h;exact U _ (by simp only[RV])
 .obtain⟨_,_,rfl⟩:=hx;cases h;exact U _ (by simp only[RV])
 .obtain⟨_,_,rfl⟩:=hx;cases h;exact U _ (by simp only[RV])
 .obtain⟨_,_,rfl⟩:=hx;cases h;exact U _ (by simp only[RV])
 .obtain⟨es',g1,rfl⟩:=hx
  cases h;obtain⟨y,ys,_,_,rfl⟩:=F1.1 g1;exact⟨fun e=>(by cases e),fun _=>U _ (by simp only[RV])⟩
 .simp only[RV]at hx;subst hx;cases h;exact U _ (by simp only[RV])
 .obtain⟨_,_,rfl⟩:=hx;cases h;exact U _ (by simp only[RV])
 .simp only[RV]at hx;subst hx;cases h;exact U _ (by simp only[RV])
 .obtain⟨_,_,rfl⟩:=hx;cases h;exact U _ (by simp only[RV])
 .simp only[RV]at hx;subst hx;cases h;exact U _ (by simp only[RV])
 .obtain⟨_,_,_,_,_,_,rfl⟩:=hx;cases h;exact U _ (by simp only[RV])
 .cases h
def J6 (s:St) (sz:Nat) (z:List V) (x y:V):Option (V×St):=
 match x,y with
 | .i _ n,.i _ m=>bif P5 0 n&&(P5 n m&&(Nat.ble m.toNat 1073741824&&CK z))then s.new (.arr sz (List.replicate n.toNat z)) fun i s'=>some (.sl i n.toNat 0,s')else none
 | _,_=>none
def X8 {s s':St} (hs:SR P Y s Z) {sz:Nat} {z:List V} {x x' y y' v:V} (h:J6 s sz z x y=some (v,s')) (hx:RV Y x x') (hy:RV Y y y') {K:V->AE->Prop}
    (U: ∀Y' v' Z',Y.le Y'->RV Y' v v'->SR P Y' s' Z'->K v' Z'):AJ Z sz z x' y' K:=by
 unfold J6 at h;split at h
 .rename_i k1 n k2 m
  simp only[RV]at hx hy;subst hx;subst hy;obtain⟨h1,h2⟩:=AW h;simp only[A9]at h1;obtain⟨h3,h4⟩:=St.Ig h2;cases h4;have h5:=Eg h1.1;have h7:=Eg h1.2.1;have h6:m.toNat<=1073741824:=Nat.le_of_ble_eq_true h1.2.2.1;refine⟨h5,h7,by omega,fun id hid=>?_⟩;obtain⟨Y',q1,q2,q3⟩:=hs.new h3 hid m.toNat (o:= .arr sz (List.replicate n.toNat z)) (o':= .arr sz (List.replicate n.toNat z) m.toNat) ⟨_,F2.rep (Bh.1 (RL.pure z h1.2.2.2)) _,rfl⟩;exact U Y' _ _ q1 (by simp only[RV];exact⟨_,q2,rfl⟩) q3
 .cases h
def O4: ∀ {l:List IntKind} {cs:List V},Dl l cs=true->CK cs=true
 | [],[],_=>rfl
 | q::l,x::cs,h=>by
   cases x<;>simp only[Dl]at h<;>first|cases h|skip
   simp only[A9]at h;simp[CK,BL,O4 h.2]
 | [],_::_,h=>by simp[Dl]at h
 | _::_,[],h=>by simp[Dl]at h
def Fk {ks:KS} {v:V} (h:BW ks v=true):BL v=true:=by
 unfold BW at h;split at h
 .rfl
 .exact O4 h
 .rfl
 .cases h
def TY {ks:KS} {key:V}: ∀ {kvs kvs':List (V×V)},(kvs.all fun kv=>BW ks kv.1)=true->F2 (RK Y) kvs kvs'->rG Y (Cn key kvs) (Cn key kvs')
 | [],_,_,h=>by cases h;rfl
 | (k,v)::r,_,ha,⟨y,ys,h1,h2,e⟩=>by
   subst e;obtain⟨k',v'⟩:=y;simp only[KE,A9]at ha;have e1:k'=k:=RV.nB h1.1 (Fk ha.1);subst e1;simp only[Cn];cases D0 key k' with
   | true=>exact⟨v',h1.2,rfl⟩
   | false=>exact TY ha.2 h2
def W6 {ks:KS} {key x x':V} (hp:BL key=true) (hx:RV Y x x'): ∀ {kvs kvs':List (V×V)},(kvs.all fun kv=>BW ks kv.1)=true->F2 (RK Y) kvs kvs'->F2 (RK Y) (DX key x kvs) (DX key x' kvs')
 | [],_,_,h=>by cases h;exact F2.cons ⟨RV.pure key hp,hx⟩ F2.nil
 | (k,v)::r,_,ha,⟨y,ys,h1,h2,e⟩=>by
   subst e;obtain⟨k',v'⟩:=y;simp only[KE,A9]at ha;have e1:k'=k:=RV.nB h1.1 (Fk ha.1);subst e1;simp only[DX];cases D0 key k' with
   | true=>exact F2.cons ⟨RV.pure key hp,hx⟩ h2
   | false=>exact F2.cons h1 (W6 hp hx ha.2 h2)
def bH {ks:KS} {kvs kvs':List (V×V)} (ha:(kvs.all fun kv=>BW ks kv.1)=true) (h:F2 (RK Y) kvs kvs'): ∀kv∈kvs',BW ks kv.1=true:=fun kv hm=>by
 obtain⟨u,hu,hr⟩:=F2.mem h hm;rw[EB]at ha;have h1:=ha u hu;rw[RV.nB hr.1 (Fk h1)];exact h1
def Ma (s:St) (ks:KS) (z:V) (ok:Bool) (vm vk:V):Option V:=
 bif BW ks vk&&BL z then
  match vm with
  | .m n=>match s.t.get n with
    | some (.map kvs)=>bif kvs.all (fun kv=>BW ks kv.1)then some (found z ok (Cn vk kvs))else none
    | _=>none
  | .mn=>some (found z ok none)
  | _=>none
 else none
def XG {z:V} {ok:Bool} (hz:BL z=true) {o o':Option V} (h:rG Y o o'):RV Y (found z ok o) (found z ok o'):=by
 cases o with
 | none=>
   cases h;cases ok with
   | true=>simp only[found,cond_true,RV];exact⟨_,Bh.2 (F2.cons (RV.pure z hz) (F2.cons (RV.pure _ rfl) F2.nil)),rfl⟩
   | false=>exact RV.pure z hz
 | some v=>
   obtain⟨v',h1,rfl⟩:=h;cases ok with
   | true=>simp only[found,cond_true,RV];exact⟨_,Bh.2 (F2.cons h1 (F2.cons (RV.pure _ rfl) F2.nil)),rfl⟩
   | false=>exact h1
def Zf {s:St} (hs:SR P Y s Z) {ks:KS} {z:V} {ok:Bool} {vm vm' vk vk' v:V} (h:Ma s ks z ok vm vk=some v) (hm:RV Y vm vm') (hk:RV Y vk vk') {K:V->Prop} (U: ∀v',RV Y v v'->K v'):AN Z ks z ok vm' vk' K:=by
 unfold Ma at h;obtain⟨h1,h2⟩:=AW h;simp only[A9]at h1;have e:=RV.nB hk (Fk h1.1);subst e;refine⟨h1.1,?_⟩;split at h2
 .obtain⟨m,g1,rfl⟩:=hm
  split at h2
  .rename_i kvs hg
   obtain⟨o',g2,kvs',g3,rfl⟩:=hs.at hg g1;obtain⟨h3,h4⟩:=AW h2;cases h4;simp only[g2];exact⟨bH h3 g3,U _ (XG h1.2 (TY h3 g3))⟩
  .cases h2
 .simp only[RV]at hm
  subst hm;cases h2;exact U _ (XG h1.2 rfl)
 .cases h2
def MZ (s:St) (ks:KS) (vm vk vv:V):Option St:=
 bif BW ks vk then
  match vm with
  | .m n=>match s.t.get n with
    | some (.map kvs)=>bif kvs.all (fun kv=>BW ks kv.1)then Tr.put (some (.map (DX vk vv kvs))) BD s.t n fun t=>some ⟨s.nx,t⟩else none
    | _=>none
  | _=>none
 else none
def Ze {s s':St} (hs:SR P Y s Z) {ks:KS} {vm vm' vk vk' vv vv':V} (h:MZ s ks vm vk vv=some s') (hm:RV Y vm vm') (hk:RV Y vk vk') (hv:RV Y vv vv') {K:AE->Prop} (U: ∀Z',SR P Y s' Z'->K Z') :
    AP Z ks vm' vk' vv' K:=by
 unfold MZ at h;obtain⟨h1,h2⟩:=AW h;have e:=RV.nB hk (Fk h1);subst e;refine⟨h1,?_⟩;split at h2
 .obtain⟨m,g1,rfl⟩:=hm
  split at h2
  .rename_i kvs hg
   obtain⟨o',g2,kvs',g3,rfl⟩:=hs.at hg g1;obtain⟨h3,h4⟩:=AW h2;rw[Tr.put_eq]at h4;cases h4;simp only[g2];exact⟨bH h3 g3,U _ (hs.B3 hg g1 ⟨_,W6 (Fk h1) hv h3 g3,rfl⟩)⟩
  .cases h2
 .cases h2
def Nw (env:Env):List V->List (Nat×Nat×Bn)->Option (List V)
 | cs,[]=>some cs
 | cs,(off,sz,x)::r=>
   match De env x with
   | some v=>match cellsOf v with
     | some vc=>bif Nat.beq vc.length sz&&Nat.ble (off+sz) cs.length then Nw env (putAt cs off vc) r else none
     | none=>none
   | none=>none
def Tw (he:RE Y env env₀): ∀ {ps:List (Nat×Nat×Bn)} {cs cs' cs1:List V},Nw env cs ps=some cs1->L4 Y cs cs'-> ∃cs1',K9 env₀ cs' ps=some cs1'/\L4 Y cs1 cs1'
 | [],_,cs',_,h,hc=>by cases h;exact⟨cs',rfl,hc⟩
 | (off,sz,x)::r,cs,cs',cs1,h,hc=>by
   simp only[Nw]at h;split at h
   .rename_i v hv
    split at h
    .rename_i vc hvc
     obtain⟨h1,h2⟩:=AW h;obtain⟨v',e1,e2⟩:=Av he hv;obtain⟨vc',e3,e4⟩:=Gy hvc e2;obtain⟨c,e5,e6⟩:=Tw he h2 (Mq hc e4);refine⟨c,?_,e6⟩;simp only[K9,e1,e3];rw[e4.len,hc.len,h1];exact e5
    .cases h
   .cases h
def Nx (env:Env) (sz:Nat):List (List V)->List (Nat×Bn)->Option (List (List V))
 | es,[]=>some es
 | es,(i,x)::r=>
   match De env x with
   | some v=>match cellsOf v with
     | some vc=>bif Nat.beq vc.length sz&&Nat.blt i es.length then Nx env sz (es.set i vc) r else none
     | none=>none
   | none=>none
def Tx (he:RE Y env env₀) {sz:Nat}: ∀ {ps:List (Nat×Bn)} {cs cs' cs1:List (List V)},Nx env sz cs ps=some cs1->fp Y cs cs'-> ∃cs1',Jv env₀ sz cs' ps=some cs1'/\fp Y cs1 cs1'
 | [],_,cs',_,h,hc=>by cases h;exact⟨cs',rfl,hc⟩
 | (i, x)::r,cs,cs',cs1,h,hc=>by
   simp only[Nx]at h;split at h
   .rename_i v hv
    split at h
    .rename_i vc hvc
     obtain⟨h1,h2⟩:=AW h;obtain⟨v',e1,e2⟩:=Av he hv;obtain⟨vc',e3,e4⟩:=Gy hvc e2;obtain⟨c,e5,e6⟩:=Tx he h2 (hc.set i e4);refine⟨c,?_,e6⟩;simp only[Jv,e1,e3];rw[e4.len,hc.len,h1];exact e5
    .cases h
   .cases h
end Go.Gl
