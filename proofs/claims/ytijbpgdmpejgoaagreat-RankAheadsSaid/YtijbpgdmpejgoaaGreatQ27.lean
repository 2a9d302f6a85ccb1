import Derived.Test.YtijbpgdmpejgoaaGreatProg
import Derived.KernelRfl
import Derived.Test.YtijbpgdmpejgoaaGreatQ10
import Derived.Test.YtijbpgdmpejgoaaGreatQ26
set_option linter.all false
set_option linter.unusedVariables false
set_option linter.unusedSimpArgs false
namespace Go.Gl
variable {P:Program}
abbrev Ns (sz b:Nat):AK:=(.seq [0] (.Am [⟨(some 2),.mv (.c (.l [] true)),none⟩])
 (.seq [0] (.seq [0,4] (.Am [⟨(some 3),.mv (.t 0),none⟩,
  ⟨(some 4),.U0 1 false (.t 3),none⟩])
 (.cond (.t 4)
 (.seq [2] (.Am [⟨(some 2),.mv (.c (.l [] true)),none⟩])
 .ret)
 .skip))
 (.seq [2] (.Am [⟨(some 5),.Ab 1 0 [] [],none⟩,
  ⟨(some 6),.mv (.t 0),none⟩,
  ⟨(some 7),.append sz b (.t 5) (.t 6),none⟩,
  ⟨(some 2),.mv (.t 7),none⟩])
 .ret)))
theorem Yh {q:Nat} {neg:Bool} {x:V} {k k':V→Prop} (h:Ij q neg x k) (hm: ∀t,k (.b t)→k' (.b t)):Ij q neg x k':=by
 unfold Ij at *;split at h<;>first|exact hm _ h|exact⟨fun e t=>hm _ (h.1 e t),fun e=>hm _ (h.2 e)⟩|exact h.elim
theorem Mi {v:V} {σ:AH} {Q:R→AH→Prop} (h:Q (.ret v) σ):Bf σ v Q:=⟨v,σ,fun _ _ h=>h,.refl _,h⟩
theorem bR {ρ:Ren} {f:Bool}:RV ρ (.l [] f) (.l [] f):=by simp only[RV];exact⟨[],rfl,rfl⟩
section
attribute [local irreducible] Bj Bf Ba Al Aa BS Ao Aq Ac BO Ah Ap Bz CA A7 B8 Be W Ij
theorem kU {sz b:Nat} {v:V} {σ:AH} {Q:R→AH→Prop} (h1:Ij 1 false v fun t=>(t= .b true→Bf σ (.l [] true) Q)∧(t= .b false→Aa b σ sz (.l [] true) v fun v' σ'=>Bf σ' v' Q)) :
 W P (Ns sz b) (S8 [.t 2] Q) [(0,v)] σ:=by
 try(conv=>whnf)
 repeat((first|refine⟨rfl,?_⟩|refine⟨nb,?_⟩|refine GF ?_|refine Hs ?_|refine Gm ?_|refine Hz ?_|refine Bl ?_|refine Dx ?_|(refine Ar ?_;intro K U)|(refine AX ?_;intro I C G F)|(refine G _ _ ?_;clear F;clear C;clear G;clear I)|(refine F _ _ _ ?_;clear F;clear C;clear G;clear I)|refine Bm ?_|refine Ct ?_|refine DI ?_|refine Bt ?_|refine BT ?_|refine Cs ?_|(refine JL ?_;intro I C G F)|(refine F _ _ fun σ hsub=>?_;clear F;clear C;clear G;clear I)|refine HT ?_|refine HU ?_|(refine U _ _ ?_;clear U;clear K)|(clear U;clear K));try(conv=>whnf))
 refine Yh h1 fun t ht=>?_
 try(conv=>whnf)
 repeat((first|refine⟨rfl,?_⟩|refine⟨nb,?_⟩|refine GF ?_|refine Hs ?_|refine Gm ?_|refine Hz ?_|refine Bl ?_|refine Dx ?_|(refine Ar ?_;intro K U)|(refine AX ?_;intro I C G F)|(refine G _ _ ?_;clear F;clear C;clear G;clear I)|(refine F _ _ _ ?_;clear F;clear C;clear G;clear I)|refine Bm ?_|refine Ct ?_|refine DI ?_|refine Bt ?_|refine BT ?_|refine Cs ?_|(refine JL ?_;intro I C G F)|(refine F _ _ fun σ hsub=>?_;clear F;clear C;clear G;clear I)|refine HT ?_|refine HU ?_|(refine U _ _ ?_;clear U;clear K)|(clear U;clear K));try(conv=>whnf))
 refine⟨fun h=>?_,fun h=>?_⟩
 ·subst h
  try(conv=>whnf)
  repeat((first|refine⟨rfl,?_⟩|refine⟨nb,?_⟩|refine GF ?_|refine Hs ?_|refine Gm ?_|refine Hz ?_|refine Bl ?_|refine Dx ?_|(refine Ar ?_;intro K U)|(refine AX ?_;intro I C G F)|(refine G _ _ ?_;clear F;clear C;clear G;clear I)|(refine F _ _ _ ?_;clear F;clear C;clear G;clear I)|refine Bm ?_|refine Ct ?_|refine DI ?_|refine Bt ?_|refine BT ?_|refine Cs ?_|(refine JL ?_;intro I C G F)|(refine F _ _ fun σ hsub=>?_;clear F;clear C;clear G;clear I)|refine HT ?_|refine HU ?_|(refine U _ _ ?_;clear U;clear K)|(clear U;clear K));try(conv=>whnf))
  exact ht.1 rfl
 ·subst h
  try(conv=>whnf)
  repeat((first|refine⟨rfl,?_⟩|refine⟨nb,?_⟩|refine GF ?_|refine Hs ?_|refine Gm ?_|refine Hz ?_|refine Bl ?_|refine Dx ?_|(refine Ar ?_;intro K U)|(refine AX ?_;intro I C G F)|(refine G _ _ ?_;clear F;clear C;clear G;clear I)|(refine F _ _ _ ?_;clear F;clear C;clear G;clear I)|refine Bm ?_|refine Ct ?_|refine DI ?_|refine Bt ?_|refine BT ?_|refine Cs ?_|(refine JL ?_;intro I C G F)|(refine F _ _ fun σ hsub=>?_;clear F;clear C;clear G;clear I)|refine HT ?_|refine HU ?_|(refine U _ _ ?_;clear U;clear K)|(clear U;clear K));try(conv=>whnf))
  refine Lh (ht.2 rfl) fun v' σ' hq=>?_
  try(conv=>whnf)
  repeat((first|refine⟨rfl,?_⟩|refine⟨nb,?_⟩|refine GF ?_|refine Hs ?_|refine Gm ?_|refine Hz ?_|refine Bl ?_|refine Dx ?_|(refine Ar ?_;intro K U)|(refine AX ?_;intro I C G F)|(refine G _ _ ?_;clear F;clear C;clear G;clear I)|(refine F _ _ _ ?_;clear F;clear C;clear G;clear I)|refine Bm ?_|refine Ct ?_|refine DI ?_|refine Bt ?_|refine BT ?_|refine Cs ?_|(refine JL ?_;intro I C G F)|(refine F _ _ fun σ hsub=>?_;clear F;clear C;clear G;clear I)|refine HT ?_|refine HU ?_|(refine U _ _ ?_;clear U;clear K)|(clear U;clear K));try(conv=>whnf))
  exact hq
end
theorem UC {f:FuncId} {n sz b:Nat} (h: ∀(args:List V) (σ:AH) (Q:R→AH→Prop),args.length≤n→T P (Ns sz b) (S8 [.t 2] Q) (BA 0 args) σ→Bj P f args σ Q) (hn:1≤n) (hb:b≤131072:=by decide):AZ P f (.U9 (Rr sz)):=by
 intro vs s r s' hc ρ vs' σ hv hs Q hQ
 have main: ∀ {v v':V} {ys:List (List V)},vs= [v]→vs'= [v']→RV ρ v v'→IN s sz v=some ys→(ys= []→r= .ret (.l [] true)∧s'=s)→
  (ys≠[]→(ys.all (fun e=>e.all Cb)&&Nat.ble ys.length 1073741824)=true∧s.nx≤Lw∧r= .ret (.sl s.nx ys.length 0)∧s'=⟨s.nx+1,Tr.set (some (.arr sz ys)) BL s.t s.nx⟩)→
  (∀k:V→Prop,(ys= []→ ∀t,k (.b t))→(ys≠[]→k (.b false))→Ij 1 false v' k)→Bj P f vs' σ Q:=fun {v v' ys} e1 e2 hr hy h0 h1 hk=>by
  subst e1;subst e2;refine h _ _ _ hn (lG (kU (hk _ (fun e t=>⟨fun _=>?_,fun _=>?_⟩) fun e=>⟨fun h=>(by cases h),fun _=>?_⟩)))
  ·obtain⟨rfl,rfl⟩:=h0 e
   exact Mi (hQ ρ _ σ (.refl _) ⟨_,bR,rfl⟩ hs)
  ·obtain⟨rfl,rfl⟩:=h0 e
   refine HR hs hy hr fun ys' hr'=>?_
   have:ys'= []:=by
    have:=hr'.len;rw[e]at this;exact List.length_eq_zero_iff.1 this
   subst this;exact⟨fun e he=>(by cases he),fun e he=>(by cases he),⟨Nat.zero_le _,by simp⟩,fun _=>Mi (hQ ρ _ σ (.refl _) ⟨_,bR,rfl⟩ hs),fun h=>absurd rfl h⟩
  ·obtain⟨g1,g2,rfl,rfl⟩:=h1 e
   simp only[Bn]at g1;refine HR hs hy hr fun ys' hr'=>?_
   have hl:=hr'.len;have hne:ys'≠[]:=fun e'=>e (by rw[e']at hl;exact List.length_eq_zero_iff.1 hl.symm)
   refine⟨LY g1.1 hr',fun e he=>(by cases he),?_,fun e=>absurd e hne,fun _=>⟨rfl,fun n cap hn0 hc=>?_⟩⟩
   ·have:=Rb (b:=b) (L:=ys.length) (by simp only[xr,Bn];exact⟨g1.2,Nat.ble_eq_true_of_le hb⟩)
    simp only[List.length_nil,Nat.zero_add];rw[hl];exact this
   ·obtain⟨ρ',q1,q2,q3⟩:=hs.new g2 hn0 cap (o:= .arr sz ys) (o':= .arr sz ys' cap) ⟨_,hr',rfl⟩
    refine Mi (hQ ρ' _ _ q1 ?_ ?_)
    ·refine⟨_,?_,rfl⟩
     simp only[RV];exact⟨_,q2,by simp[hl]⟩
    ·simpa using q3
 have parts: ∀ {ys:List (List V)},(match some ys with
  | some []=>some (R.ret (V.l [] true),s)
  | some (y::ys)=>bif (y::ys).all (fun e=>e.all Cb)&&Nat.ble (y::ys).length 1073741824 then s.new (.arr sz (y::ys)) fun i s'=>some (.ret (.sl i (y::ys).length 0),s')else none
  | none=>none)=some (r,s')→(ys= []→r= .ret (.l [] true)∧s'=s)∧
    (ys≠[]→(ys.all (fun e=>e.all Cb)&&Nat.ble ys.length 1073741824)=true∧s.nx≤Lw∧r= .ret (.sl s.nx ys.length 0)∧s'=⟨s.nx+1,Tr.set (some (.arr sz ys)) BL s.t s.nx⟩):=fun {ys} hc=>by
  cases ys with
  | nil=>cases hc;exact⟨fun _=>⟨rfl,rfl⟩,fun h=>absurd rfl h⟩
  | cons y ys=>
    obtain⟨h1,h2⟩:=AY hc;obtain⟨h3,h4⟩:=St.Hq h2;cases h4;exact⟨fun h=>(by cases h),fun _=>⟨h1,h3,rfl,rfl⟩⟩
 unfold Rr at hc;split at hc
 ·rename_i es f
  obtain⟨v',l',k1,k2,rfl⟩:=hv;obtain rfl:l'= []:=k2;cases hy:IN s sz (.l es f)with
  | none=>rw[hy]at hc;cases hc
  | some ys=>
    rw[hy]at hc;obtain⟨p1,p2⟩:=parts hc;refine main rfl rfl k1 hy p1 p2 fun k h0 h1=>?_
    simp only[RV]at k1;obtain⟨es',k3,rfl⟩:=k1;have hl:=(Fb.1 k3).len
    have he:ys=es:=by
     simp only[IN]at hy;exact(Option.some.inj (AY hy).2).symm
    subst he;unfold Ij;exact⟨fun e=>h0 (by rw[e]at hl;exact List.length_eq_zero_iff.1 hl.symm),fun e=>h1 fun e'=>e (by rw[e']at hl;exact List.length_eq_zero_iff.1 hl)⟩
 ·rename_i m len c
  obtain⟨v',l',k1,k2,rfl⟩:=hv;obtain rfl:l'= []:=k2;cases hy:IN s sz (.sl m len c)with
  | none=>rw[hy]at hc;cases hc
  | some ys=>
    rw[hy]at hc;obtain⟨p1,p2⟩:=parts (ys:=ys) hc;refine main rfl rfl k1 hy p1 p2 fun k h0 h1=>?_
    simp only[RV]at k1;obtain⟨m',k3,rfl⟩:=k1;unfold Ij;show k (.b false);by_cases e:ys= []
    ·exact h0 e false
    ·exact h1 e
 ·cases hc
end Go.Gl
namespace Go.Gl
open Go.Proofs
noncomputable def unO (o:FA):FA:=match o with| .NQ x=> .box x| .Jr f a=> .call f a| .Ux x=> .mv x|o=>o
noncomputable def unR (r:AW):AW:=⟨r.1,unO r.2,r.3⟩
noncomputable def unD (d:Cg):Cg:=⟨d.1,unR d.2,d.3,d.4⟩
noncomputable def unB (c:AK):AK:=@AK.rec (fun _=>AK) .skip (fun ops=> .Am (ops.map unR)) (fun l ops=> .A9 l (ops.map unD)) (fun l _ _ a b=> .seq l a b) (fun c _ _ a b=> .cond c a b) (fun i _ a=> .block i a) (fun l _ a=> .loop l a) (fun i=> .exit i) .ret (fun _ a=> .scope a) (fun l g ps _ _ a b=> .C8 l g ps a b) c
theorem kT {f k:Nat} {a:AK} {rs:List RS} {fn:Func} (hf:Tryz.prog.funcs[f]? =some fn) (hk:fn.ntmps=k:=by exact rfl) (hok:okF Tryz.prog f=true:=by kernel_rfl) (hb:fn.body.bind (res Tryz.prog fn.ntmps [] [])=some (erase a):=by kernel_rfl) (hr:NK Tryz.prog fn.results.toList=some rs:=by kernel_rfl):AZ Tryz.prog f (.fn k a rs):=fun _ _ _ hn h=>Fi hf hok hb hr (hk ▸ hn) h
theorem kTz {f k:Nat} {a:AK} {rs:List RS} {fn:Func} (hf:Tryz.prog.funcs[f]? =some fn) (hk:fn.ntmps=k:=by exact rfl) (hok:okF Tryz.prog f=true:=by kernel_rfl) (hb:fn.body.bind (res Tryz.prog fn.ntmps [] [])=some (erase a):=by kernel_rfl) (hr:NK Tryz.prog fn.results.toList=some rs:=by kernel_rfl):AZ Tryz.prog f (.dY k a rs):=fun _ _ _ hn h=>Fi hf hok hb hr (hk ▸ hn) h
abbrev ae14:AK:=(sr [] [A0 0 false] (sr [1] [oo 18 (.call 48 []),oo 1 (.alloc [(.l [] true),(.i .i64 0),(.l [] true),(.l [] true),(.l [] true),(.i .i64 0)]),oS 6 1 18] (sr [1,2] [oo 19 (.build [(.i .i64 0),(.i .i64 0)] [(0,1,(.c (.i .i64 3)))]),oo 2 (.alloc [(.i .i64 0),(.i .i64 0)]),oS 2 2 19] (sr [1,2,3,4] [A2 21 6 1,oo 22 (.call 12 [(.t 21),(.c (.i .i64 1)),(.c (.i .i64 0))]),oM 20 22,oX 23 0 20,oX 24 1 20,oM 3 23,oM 4 24] (sr [1,2,3,4,5,6] [A2 26 6 1,oo 27 (.call 12 [(.t 26),(.c (.i .i64 1)),(.c (.i .i64 2))]),oM 25 27,oX 28 0 25,oX 29 1 25,oM 5 28,oM 6 29] (sr [1,2,3,4,5,6,8] [A2 31 6 1,oo 32 (.call 12 [(.t 31),(.c (.i .i64 0)),(.c (.i .i64 3))]),oM 30 32,oX 33 0 30,oX 34 1 30,oM 7 33,oM 8 34] (.seq [1,2] (sr [1,2,51] [oM 35 3,oN 36 35,oM 37 36,BW 38 5 37,oQ 39 37 38,oM 40 39,BW 41 4 40,Cp 42 .neq 41 0 40,oQ 43 40 42,oM 44 43,BW 45 6 44,Cp 46 .neq 45 0 44,oQ 47 44 46,oM 48 47,BW 49 8 48,Cp 50 .neq 49 7 48,oQ 51 48 50] (.cond (.t 51) (sr [0] [A0 0 false] .ret) .skip)) (sr [1,2,4,9] [A2 53 6 1,oo 54 (.build [(.i .i64 0),(.l [] true)] [(0,1,(.c (.i .i64 4)))]),oo 55 (.Ab 2 1 [(.i .i64 0),(.l [] true)] [(0,(.t 54))]),A2 56 2 2,oo 57 (.Ab 2 1 [(.i .i64 0),(.i .i64 0)] [(0,(.t 56))]),oo 58 (.call 20 [(.t 53),(.t 55),(.c (.i .i64 0)),(.t 57)]),oM 52 58,oX 59 0 52,oX 60 1 52,oo 9 (.alloc [(.l [] true),(.b false),(.l [] true),(.l [] true),(.b false),(.l [] true)]),oS 6 9 59,oM 4 60] (sr [1,4,6,9,10] [A2 62 6 1,oo 63 (.build [(.i .i64 0),(.l [] true)] [(0,1,(.c (.i .i64 6)))]),oo 64 (.Ab 2 1 [(.i .i64 0),(.l [] true)] [(0,(.t 63))]),A2 65 2 2,oo 66 (.Ab 2 1 [(.i .i64 0),(.i .i64 0)] [(0,(.t 65))]),oo 67 (.call 20 [(.t 62),(.t 64),(.c (.i .i64 0)),(.t 66)]),oM 61 67,oX 68 0 61,oX 69 1 61,oo 10 (.alloc [(.l [] true),(.b false),(.l [] true),(.l [] true),(.b false),(.l [] true)]),oS 6 10 68,oM 6 69] (sr [1,4,6,8,9,10] [A2 71 6 1,oo 72 (.build [(.i .i64 0),(.i .i64 0)] [(0,1,(.c (.i .i64 1)))]),oo 73 (.Ab 2 1 [(.i .i64 0),(.i .i64 0)] [(0,(.t 72))]),oo 74 (.call 20 [(.t 71),(.c (.l [] true)),(.c (.i .i64 0)),(.t 73)]),oM 70 74,oX 75 0 70,oX 76 1 70,oM 8 76] (sr [1,4,6,8,9,10,11,12,13] [A2 78 6 1,oo 79 (.Ab 1 3 [(.i .i64 0)] [(0,(.c (.i .i64 0))),(1,(.c (.i .i64 1))),(2,(.c (.i .i64 2)))]),CK 80 31 78 79,oM 77 80,oX 81 0 77,oX 82 1 77,oX 83 2 77,oM 11 81,oM 12 82,oM 13 83] (sr [1,4,6,8,9,10,11,12,13,14,15] [A2 85 6 1,oo 86 (.call 15 [(.t 85),(.c (.i .i64 0)),(.c (.i .i64 1))]),oM 84 86,oX 87 0 84,oX 88 1 84,oM 14 87,oM 15 88] (sr [4,6,8,9,10,11,12,13,14,15,16,17] [A2 90 6 1,oo 91 (.call 17 [(.t 90),(.c (.i .i64 0))]),oM 89 91,oX 92 0 89,oX 93 1 89,oM 16 92,oM 17 93] (.seq [9,10] (.seq [9,10,137] (.Am (oM 94 4::AV 95 .neq 94 0::oM 96 95::BW 97 6 96::Cp 98 .neq 97 0 96::oQ 99 96 98::oM 100 99::BW 101 8 100::Cp 102 .neq 101 5 100::oQ 103 100 102::oM 104 103::BW 105 13 104::Cp 106 .neq 105 0 104::oQ 107 104 106::oM 108 107::BW 109 15 108::Cp 110 .neq 109 0 108::oQ 111 108 110::oM 112 111::BW 113 17 112::Cp 114 .neq 113 0 112::oQ 115 112 114::oM 116 115::BW 117 11 116::GV 118 117 116::Cp 119 .neq 118 0 116::oQ 120 116 119::oM 121 120::BW 122 12 121::Ig 123 122 121::oQ 124 121 123::oM 125 124::BW 126 16 125::GV 127 126 125::Cp 128 .neq 127 0 125::oQ 129 125 128::oM 130 129::BW 131 14 130::Fp 132 (.build [(.i .i64 0),(.i .i64 0)] [(0,1,(.c (.i .i64 1))),(1,1,(.c (.i .i64 0)))]) 130::Fp 133 (.build [(.i .i64 0),(.i .i64 0)] [(0,1,(.c (.i .i64 2))),(1,1,(.c (.i .i64 0)))]) 130::Fp 134 (.Ab 2 2 [(.i .i64 0),(.i .i64 0)] [(0,(.t 132)),(1,(.t 133))]) 130::Fp 135 (.call 19 [(.t 131),(.t 134)]) 130::Ig 136 135 130::oQ 137 130 136:: [])) (.cond (.t 137) (sr [0] [A0 0 false] .ret) .skip)) (sr [0] [A2 138 6 9,oo 139 (.Ab 1 2 [(.i .i64 0)] [(0,(.c (.i .i64 4))),(1,(.c (.i .i64 3)))]),oo 140 (.Ab 1 2 [(.i .i64 0)] [(0,(.c (.i .i64 1))),(1,(.c (.i .i64 0)))]),oo 141 (.Ab 1 2 [(.i .i64 0)] [(0,(.c (.i .i64 5))),(1,(.c (.i .i64 6)))]),oo 142 (.build [(.l [] true),(.b false),(.l [] true),(.l [] true),(.b false),(.l [] true)] [(2,1,(.t 139)),(3,1,(.t 140)),(5,1,(.t 141))]),CK 143 22 138 142,oM 144 143,Jz 145 6 10 144,C7 146 (.Ab 1 2 [(.i .i64 0)] [(0,(.c (.i .i64 4))),(1,(.c (.i .i64 3)))]) 144,C7 147 (.Ab 1 2 [(.i .i64 0)] [(0,(.c (.i .i64 5))),(1,(.c (.i .i64 6)))]) 144,C7 148 (.build [(.l [] true),(.b false),(.l [] true),(.l [] true),(.b false),(.l [] true)] [(2,1,(.t 146)),(4,1,(.c (.b true))),(5,1,(.t 147))]) 144,C7 149 (.call 22 [(.t 145),(.t 148)]) 144,oP 150 144 149,oM 0 150] .ret)))))))))))))))
def y3:BN:= .fn 151 ae14 [.t 0]
theorem uQ:AZ Tryz.prog 14 y3:=kT Tryz.func14
abbrev ae48:AK:=(sr [0] [oo 0 (.alloc [(.l [] true),(.i .i64 0),(.l [] true),(.l [] true),(.l [] true),(.i .i64 0)])] (sr [0,1] [oo 5 (.build [(.l [] true),(.l [] true),(.l [] true)] []),oo 6 (.Ab 1 1 [(.i .i64 0)] [(0,(.c (.i .i64 3)))]),oo 7 (.build [(.l [] true),(.l [] true),(.l [] true)] [(0,1,(.t 6))]),oo 8 (.Ab 1 1 [(.i .i64 0)] [(0,(.c (.i .i64 3)))]),oo 9 (.build [(.l [] true),(.l [] true),(.l [] true)] [(0,1,(.t 8))]),oo 10 (.Ab 1 2 [(.i .i64 0)] [(0,(.c (.i .i64 4))),(1,(.c (.i .i64 5)))]),oo 11 (.build [(.l [] true),(.l [] true),(.l [] true)] [(0,1,(.t 10))]),oo 12 (.Ab 3 4 [(.l [] true),(.l [] true),(.l [] true)] [(0,(.t 5)),(1,(.t 7)),(2,(.t 9)),(3,(.t 11))]),oo 13 (.Ab 1 1 [(.i .i64 0)] [(0,(.c (.i .i64 1)))]),oo 14 (.build [(.l [] true),(.i .i64 0),(.l [] true),(.l [] true),(.l [] true),(.i .i64 0)] [(0,1,(.t 12)),(2,1,(.t 13))]),oo 1 (.alloc [(.l [] true),(.i .i64 0),(.l [] true),(.l [] true),(.l [] true),(.i .i64 0)]),oS 6 1 14] (sr [0,1,2] [oo 15 (.Ab 1 7 [(.i .i64 0)] [(0,(.c (.i .i64 1))),(1,(.c (.i .i64 1))),(2,(.c (.i .i64 1))),(3,(.c (.i .i64 2))),(4,(.c (.i .i64 2))),(5,(.c (.i .i64 3))),(6,(.c (.i .i64 3)))]),oM 2 15] (sr [0,1,2,3] [oo 16 (.call 74 [(.c (.i .i64 3))]),oo 17 (.call 74 [(.c (.i .i64 4))]),oo 18 (.call 74 [(.c (.i .i64 5))]),oo 19 (.build [(.i .i64 0),(.i .i64 0),(.l [] true),(.i .i64 0),(.i .i64 0),(.l [] true)] [(0,1,(.c (.i .i64 1)))]),oo 20 (.call 74 [(.c (.i .i64 4))]),oo 21 (.call 74 [(.c (.i .i64 3))]),oo 22 (.call 74 [(.c (.i .i64 4))]),oo 23 (.Ab 6 7 [(.i .i64 0),(.i .i64 0),(.l [] true),(.i .i64 0),(.i .i64 0),(.l [] true)] [(0,(.t 16)),(1,(.t 17)),(2,(.t 18)),(3,(.t 19)),(4,(.t 20)),(5,(.t 21)),(6,(.t 22))]),oM 3 23] (.seq [0,1,2] (sr [0,1,2,3,4] [BD 4 0] (.block 0 (.loop [0,1,2,3,4] (.seq [0,1,2,3,4] (sr [0,1,2,3,4,27] [oM 24 4,oM 25 2,oE 26 25,oG 27 .lss 24 26] (.cond (.t 27) .skip (.exit 0))) (.seq [0,1,2,3,4] (.block 1 (.seq [0,1,2,3,4] (.A9 [0,1,2,3,4] [dO 0 (oF 30 3 1),dO 1 (oL 31 30),dO 2 (oM 32 2),dO 3 (oM 33 4),dO 4 (oI 34 1 32 33),dO 5 (oL 35 34),dO 6 (oM 36 3),dO 7 (oM 37 4),dO 8 (oI 38 6 36 37),dO 9 (A2 39 6 38),dO 10 (oM 40 4),dO 11 (oo 41 (.build [(.i .i64 0),(.i .i64 0),(.i .i64 0),(.i .i64 0),(.l [] true),(.i .i64 0),(.i .i64 0),(.l [] true),(.i .i64 0)] [(0,1,(.t 35)),(2,6,(.t 39)),(8,1,(.t 40))])),dO 12 (oo 42 (.Ab 9 1 [(.i .i64 0),(.i .i64 0),(.i .i64 0),(.i .i64 0),(.l [] true),(.i .i64 0),(.i .i64 0),(.l [] true),(.i .i64 0)] [(0,(.t 41))])),dO 13 (oA 43 9 104 31 42),dO 14 (oF 44 3 1),dO 15 (oS 1 44 43)]) (.Am [oF 45 4 1,oL 46 45,oo 47 (.build [(.i .i64 0),(.i .i64 0),(.l [] true)] [(0,1,(.c (.i .i64 2)))]),oo 48 (.Ab 3 1 [(.i .i64 0),(.i .i64 0),(.l [] true)] [(0,(.t 47))]),oA 49 3 40 46 48,oF 50 4 1,oS 1 50 49]))) (.Am [oM 28 4,AV 29 .add 28 1,oM 4 29])))))) (sr [0,1,2] [oF 51 4 1,oL 52 51,oo 53 (.build [(.i .i64 0),(.i .i64 0),(.l [] true)] [(0,1,(.c (.i .i64 2)))]),oo 54 (.Ab 3 1 [(.i .i64 0),(.i .i64 0),(.l [] true)] [(0,(.t 53))]),oA 55 3 40 52 54,oF 56 4 1,oS 1 56 55] (sr [0,1] [oM 57 2,oE 58 57,oF 59 5 1,oS 1 59 58] (sr [0] [A2 60 6 1,oS 6 0 60] .ret))))))))
def yp:BN:= .dY 61 ae48 [.c 0 (some 6)]
theorem uE:AZ Tryz.prog 48 yp:=kTz Tryz.func48
noncomputable abbrev ae12:=unB zI
noncomputable def y4:BN:= .fn 26 ae12 [.t 6,.t 7]
theorem uR:AZ Tryz.prog 12 y4:=kT Tryz.func12
abbrev ae20:AK:=(sr [1,2,3,4,8] [oB 4 0,oo 8 (.alloc [(.l [] true),(.b false),(.l [] true),(.l [] true),(.b false),(.l [] true)]),BD 9 0] (sr [1,2,3,8,10] [A2 13 6 4,oC 14 42 13,oM 10 14] (.seq [1,2,3,8,10] (sr [1,2,3,8,10,20] [oM 15 10,oM 16 1,oM 17 2,oM 18 3,Q1 19 56 15 16 17 18,oN 20 19] (.cond (.t 20) (sr [8,9] [oo 21 (.build [(.l [] true),(.b false),(.l [] true),(.l [] true),(.b false),(.l [] true)] []),oS 6 8 21,BD 9 2] .ret) .skip)) (sr [8,11,12] [oM 23 10,oM 24 10,oM 25 1,oM 26 2,oM 27 3,Q1 28 58 24 25 26 27,CK 29 57 23 28,oM 22 29,oX 30 0 22,oX 31 1 22,oo 11 (.alloc [(.l [] true),(.b false),(.l [] true),(.l [] true),(.b false),(.l [] true)]),oS 6 11 30,oM 12 31] (.seq [8,11] (sr [8,11,33] [oM 32 12,oN 33 32] (.cond (.t 33) (sr [8,9] [oo 34 (.build [(.l [] true),(.b false),(.l [] true),(.l [] true),(.b false),(.l [] true)] []),oS 6 8 34,BD 9 5] .ret) .skip)) (sr [8,9] [A2 35 6 11,oS 6 8 35,BD 9 0] .ret))))))
def yz:BN:= .fn 36 ae20 [.c 8 (some 6),.t 9]
theorem uM:AZ Tryz.prog 20 yz:=kT Tryz.func20
abbrev ae31:AK:=(sr [1,2] [oB 2 0,DG 4,A0 5 false,BD 6 0] (sr [1,7] [A2 10 6 2,oC 11 42 10,oM 7 11] (.seq [1,7] (sr [1,7,15] [oM 12 7,oM 13 1,oo 14 (.call 66 [(.t 12),(.t 13),(.c (.b true))]),oN 15 14] (.cond (.t 15) (sr [4,5,6] [DG 4,A0 5 false,BD 6 2] .ret) .skip)) (sr [8,9] [oM 17 7,oM 18 1,CK 19 67 17 18,oM 16 19,oX 20 0 16,oX 21 1 16,oM 8 20,oM 9 21] (sr [4,5,6] [oM 22 8,oM 23 9,oM 4 22,oM 5 23,BD 6 0] .ret)))))
def yw:BN:= .fn 24 ae31 [.t 4,.t 5,.t 6]
theorem uJ:AZ Tryz.prog 31 yw:=kT Tryz.func31
abbrev ae15:AK:=(sr [3,4,5] [oB 3 0,oB 4 1,oB 5 2,DG 6,BD 7 0] (sr [4,5,8] [A2 12 6 3,oC 13 42 12,oo 8 (.alloc [.pn]),oS 1 8 13] (.seq [4,5,8] (sr [4,5,8,25] [oL 14 8,oL 15 4,CK 16 49 14 15,oN 17 16,oM 18 17,BU 19 5 18,Cp 20 .lss 19 1 18,oQ 21 18 20,oM 22 21,BU 23 5 22,Cp 24 .gtr 23 4 22,oQ 25 22 24] (.cond (.t 25) (sr [6,7] [DG 6,BD 7 2] .ret) .skip)) (sr [4,5,8,9] [oo 9 (.alloc [(.l [] true)])] (.seq [9] (sr [4,5,8,9,28] [oL 26 8,oL 27 4,CK 28 50 26 27] (.block 0 (.C8 [4,5,8,9] (.t 28) [29] (.Am [oo 10 (.alloc [(.i .i64 0)]),oS 1 10 29]) (.block 1 (sr [5,8,9,10,32] [oL 30 8,oL 31 4,CK 32 50 30 31] (.block 2 (.C8 [5,8,9,10] (.t 32) [33] (.Am [oM 11 33]) (.block 3 (.seq [9,10,11,56] (.A9 [9,10,11,56] [dO 0 (oL 34 8),dO 1 (oK 35 34),dO 2 (oF 36 0 35),dO 3 (oF 37 3 36),dO 4 (oL 38 37),dO 5 (oL 39 10),dO 6 (oI 40 9 38 39),dO 7 (oF 41 0 40),dO 8 (oL 42 41),dO 9 (oL 43 5),dO 10 (oG 44 .eql 42 43),dO 11 (oM 45 44),dO 12 (Au 46 8 45),dO 13 (Au 47 10 45),dO 14 (Aw 48 11 45),dO 15 (C7 49 (.call 44 [(.t 46),(.t 47),(.t 48)]) 45),dO 16 (oP 50 45 49),dO 17 (oM 51 50),dO 18 (Au 52 8 51),dO 19 (Au 53 10 51),dO 20 (Aw 54 11 51),dO 21 (C7 55 (.call 45 [(.t 52),(.t 53),(.t 54)]) 51),dO 22 (oP 56 51 55)]) (.cond (.t 56) (.Am [oL 57 9,oL 58 10,oM 59 11,oo 60 (.build [(.i .i64 0),(.i .i64 0)] [(0,1,(.t 58)),(1,1,(.t 59))]),oo 61 (.Ab 2 1 [(.i .i64 0),(.i .i64 0)] [(0,(.t 60))]),oA 62 2 16 57 61,oS 1 9 62]) .skip)))))))))) (sr [6,7] [oL 63 9,oC 64 51 63,oM 6 64,BD 7 0] .ret))))))
def y2:BN:= .fn 65 ae15 [.t 6,.t 7]
theorem uP:AZ Tryz.prog 15 y2:=kT Tryz.func15
abbrev ae17:AK:=(sr [2,3] [oB 2 0,oB 3 1,DG 4,BD 5 0] (sr [3,6] [A2 10 6 2,oC 11 42 10,oo 6 (.alloc [.pn]),oS 1 6 11] (.seq [3,6] (sr [3,6,15] [oL 12 6,oL 13 3,CK 14 49 12 13,oN 15 14] (.cond (.t 15) (sr [4,5] [DG 4,BD 5 2] .ret) .skip)) (sr [3,6,7] [oo 7 (.alloc [(.l [] true)])] (.seq [7] (sr [3,6,7,18] [oL 16 6,oL 17 3,CK 18 50 16 17] (.block 0 (.C8 [3,6,7] (.t 18) [19] (.Am [oo 8 (.alloc [(.i .i64 0)]),oS 1 8 19]) (.block 1 (sr [6,7,8,22] [oL 20 6,oL 21 3,CK 22 50 20 21] (.block 2 (.C8 [6,7,8] (.t 22) [23] (.Am [oM 9 23]) (.block 3 (sr [7,8,9,44] [oL 24 8,oM 25 9,oG 26 .lss 24 25,oM 27 26,Au 28 6 27,Au 29 8 27,Aw 30 9 27,C7 31 (.call 44 [(.t 28),(.t 29),(.t 30)]) 27,oP 32 27 31,oM 33 32,Au 34 6 33,Au 35 8 33,Aw 36 9 33,C7 37 (.call 54 [(.t 34),(.t 35),(.t 36)]) 33,oP 38 33 37,oM 39 38,Au 40 6 39,Aw 41 9 39,Au 42 8 39,C7 43 (.call 54 [(.t 40),(.t 41),(.t 42)]) 39,oP 44 39 43] (.cond (.t 44) (.Am [oL 45 7,oL 46 8,oM 47 9,oo 48 (.build [(.i .i64 0),(.i .i64 0)] [(0,1,(.t 46)),(1,1,(.t 47))]),oo 49 (.Ab 2 1 [(.i .i64 0),(.i .i64 0)] [(0,(.t 48))]),oA 50 2 16 45 49,oS 1 7 50]) .skip)))))))))) (sr [4,5] [oL 51 7,oC 52 51 51,oM 4 52,BD 5 0] .ret))))))
def y1:BN:= .fn 53 ae17 [.t 4,.t 5]
theorem uO:AZ Tryz.prog 17 y1:=kT Tryz.func17
abbrev ae19:AK:=(sr [0,1] [A0 4 false] (.seq [0,1] (sr [0,1,10] [oM 6 0,oE 7 6,oM 8 1,oE 9 8,oG 10 .neq 7 9] (.cond (.t 10) (sr [4] [A0 4 false] .ret) .skip)) (.seq [] (sr [0,1,5] [BD 5 0] (.block 0 (.loop [0,1,5] (.seq [0,1,5] (sr [0,1,5,14] [oM 11 5,oM 12 0,oE 13 12,oG 14 .lss 11 13] (.cond (.t 14) .skip (.exit 0))) (.seq [0,1,5] (.block 1 (.seq [0,1,5,25] (.A9 [0,1,5,25] [dO 0 (oM 17 0),dO 1 (oM 18 5),dO 2 (oI 19 2 17 18),dO 3 (A2 20 2 19),dO 4 (oM 21 1),dO 5 (oM 22 5),dO 6 (oI 23 2 21 22),dO 7 (A2 24 2 23),dO 8 (oo 25 (.dR 2 true (.t 20) (.t 24)))]) (.cond (.t 25) (sr [4] [A0 4 false] .ret) .skip))) (.Am [oM 15 5,AV 16 .add 15 1,oM 5 16])))))) (sr [4] [A0 4 true] .ret))))
def y0:BN:= .fn 26 ae19 [.t 4]
theorem uN:AZ Tryz.prog 19 y0:=kT Tryz.func19
abbrev ae22:AK:=(sr [2,3] [oB 2 0,oB 3 1,A0 4 false] (.seq [4] (.Am (oF 5 0 2::oL 6 5::oF 7 0 3::oL 8 7::CK 9 30 6 8::oM 10 9::BM 11 1 2 10::Au 12 11 10::BM 13 1 3 10::Au 14 13 10::C7 15 (.Sk false (.t 12) (.t 14)) 10::oP 16 10 15::oM 17 16::BM 18 2 2 17::Au 19 18 17::BM 20 2 3 17::Au 21 20 17::C7 22 (.call 30 [(.t 19),(.t 21)]) 17::oP 23 17 22::oM 24 23::BM 25 3 2 24::Au 26 25 24::BM 27 3 3 24::Au 28 27 24::C7 29 (.call 30 [(.t 26),(.t 28)]) 24::oP 30 24 29::oM 31 30::BM 32 4 2 31::Au 33 32 31::BM 34 4 3 31::Au 35 34 31::C7 36 (.Sk false (.t 33) (.t 35)) 31::oP 37 31 36::oM 38 37::BM 39 5 2 38::Au 40 39 38::BM 41 5 3 38::Au 42 41 38::C7 43 (.call 30 [(.t 40),(.t 42)]) 38::oP 44 38 43::oM 4 44:: [])) .ret))
def yy:BN:= .fn 45 ae22 [.t 4]
theorem uL:AZ Tryz.prog 22 yy:=kT Tryz.func22
abbrev ae74:AK:=(sr [0,2] [oo 2 (.alloc [(.i .i64 0),(.i .i64 0),(.l [] true),(.i .i64 0),(.i .i64 0),(.l [] true)])] (sr [2] [oM 3 0,oo 4 (.build [(.i .i64 0),(.i .i64 0),(.l [] true),(.i .i64 0),(.i .i64 0),(.l [] true)] [(0,1,(.c (.i .i64 2))),(3,1,(.t 3))]),oS 6 2 4] .ret))
def yb:BN:= .fn 5 ae74 [.c 2 (some 6)]
theorem tp:AZ Tryz.prog 74 yb:=kT Tryz.func74
noncomputable abbrev ae42:=unB zH
noncomputable def yv:BN:= .fn 17 ae42 [.t 2]
theorem uI:AZ Tryz.prog 42 yv:=kT Tryz.func42
noncomputable abbrev ae43:=unB zG
noncomputable def yu:BN:= .fn 13 ae43 [.t 4]
theorem uH:AZ Tryz.prog 43 yu:=kT Tryz.func43
abbrev ae44:=zF
def yr:BN:= .fn 37 ae44 [.t 6]
theorem uG:AZ Tryz.prog 44 yr:=kT Tryz.func44
abbrev ae45:=zE
def yq:BN:= .fn 18 ae45 [.t 6]
theorem uF:AZ Tryz.prog 45 yq:=kT Tryz.func45
abbrev ae56:AK:=(sr [0,2,3,5] [oB 5 1,A0 8 false] (.seq [0,3,5] (sr [0,3,5,36] [oM 11 0,oM 12 2,CK 13 49 11 12,oN 14 13,oM 15 14,BW 16 3 15,GV 17 16 15,BW 18 0 15,Fp 19 (.Ei (.t 18)) 15,Bq 20 0 19 15,Bq 21 2 20 15,BU 22 21 15,BW 23 2 15,Ih 24 1 22 23 15,BU 25 24 15,Gu 26 .neq 17 25 15,oQ 27 15 26,oM 28 27,BW 29 3 28,Fp 30 (.G8 (.func 79) [] [(.t 5)]) 28,Fp 31 (.call 78 [(.t 29),(.t 30)]) 28,GV 32 31 28,BW 33 3 28,GV 34 33 28,Gu 35 .neq 32 34 28,oQ 36 28 35] (.cond (.t 36) (sr [8] [A0 8 false] .ret) .skip)) (.seq [10] (.A9 [10] [dO 0 (oM 38 0),dO 1 (oK 39 38),dO 2 (oF 40 6 39),dO 3 (A2 41 2 40),dO 4 (oo 42 (.build [(.i .i64 0),(.i .i64 0),(.l [] true),(.i .i64 0),(.i .i64 0),(.l [] true)] [(0,1,(.c (.i .i64 1)))])),dO 5 (oL 43 5),dO 6 (oM 44 3),dO 7 (Q1 45 81 41 42 43 44),dO 8 (oM 37 45),dO 9 (oX 46 0 37),dO 10 (oX 47 1 37),dO 11 (oM 9 46),dO 12 (oM 10 47)]) (sr [8] [oM 48 10,AV 49 .eql 48 0,oM 8 49] .ret))))
def yk:BN:= .fn 50 ae56 [.t 8]
theorem tz:AZ Tryz.prog 56 yk:=kT Tryz.func56
abbrev ae58:AK:=(sr [2,4,5,7] [oB 4 0,oB 5 1,oB 7 3,DG 8] (sr [8] [oL 9 4,oM 10 2,CK 11 50 9 10,oC 12 84 11,oo 13 (.G8 (.func 85) [] [(.t 4),(.t 5),(.t 7)]),CK 14 83 12 13,oM 8 14] .ret))
def yi:BN:= .fn 15 ae58 [.t 8]
theorem tw:AZ Tryz.prog 58 yi:=kT Tryz.func58
abbrev ae57:AK:=(sr [0,1,4] [oo 4 (.alloc [(.l [] true),(.b false),(.l [] true),(.l [] true),(.b false),(.l [] true)]),A0 5 false] (sr [0,1,4,6] [oo 6 (.alloc [(.l [] true),(.l [] true),(.l [] true),(.l [] true),(.l [] true)])] (.seq [0,4,6] (sr [0,4,6,11,12,13] [oM 11 1,oE 12 11,BD 13 0] (.block 0 (.loop [0,4,6,11,12,13] (sr [0,4,6,11,12,13,14] [oG 14 .lss 13 12] (.seq [0,4,6,11,12,13] (.cond (.t 14) .skip (.exit 0)) (.seq [0,4,6,11,12,13] (.block 1 (sr [0,4,6,8,11,12,13] [oI 15 1 11 13,oL 16 15,oM 8 16] (sr [0,4,6,8,9,11,12,13] [oM 17 0,oK 18 17,oF 19 0 18,oF 20 3 19,oL 21 20,oM 22 8,oI 23 9 21 22,oF 24 0 23,oL 25 24,oM 9 25] (.Am [oM 26 9,oM 27 9,oo 28 (.Bi 1 (some 5) (.t 6) (.t 27)),oL 29 28,oM 30 8,oo 31 (.Ab 1 1 [(.i .i64 0)] [(0,(.t 30))]),oA 32 1 8 29 31,oo 33 (.Bi 1 (some 5) (.t 6) (.t 26)),oS 1 33 32])))) (.Am [AV 34 .add 13 1,oM 13 34]))))))) (sr [0,4,6,10] [oo 10 (.alloc [(.l [] true),(.b false),(.l [] true),(.l [] true),(.b false),(.l [] true)])] (.seq [0,4,6,10] (sr [0,4,6,10,38] [oo 35 (.Bi 1 (some 5) (.t 6) (.c (.i .i64 1))),oL 36 35,oE 37 36,AV 38 .eql 37 0] (.cond (.t 38) (sr [4,5] [A2 39 6 10,oS 6 4 39,A0 5 false] .ret) .skip)) (sr [0,4,6,10] [oM 41 0,oo 42 (.Bi 1 (some 5) (.t 6) (.c (.i .i64 4))),oL 43 42,CK 44 67 41 43,oM 40 44,oX 45 0 40,oX 46 1 40,oF 47 0 10,oS 1 47 45,oF 48 1 10,oS 1 48 46] (sr [0,4,6,10] [oM 49 0,oo 50 (.Bi 1 (some 5) (.t 6) (.c (.i .i64 2))),oL 51 50,CK 52 69 49 51,oF 53 2 10,oS 1 53 52] (sr [0,4,6,10] [oM 55 0,oo 56 (.Bi 1 (some 5) (.t 6) (.c (.i .i64 1))),oL 57 56,CK 58 67 55 57,oM 54 58,oX 59 0 54,oX 60 1 54,oF 61 3 10,oS 1 61 59,oF 62 4 10,oS 1 62 60] (sr [4,10] [oM 63 0,oo 64 (.Bi 1 (some 5) (.t 6) (.c (.i .i64 3))),oL 65 64,CK 66 69 63 65,oF 67 5 10,oS 1 67 66] (sr [4,10] [oF 68 5 10,oL 69 68,oC 70 82 69] (sr [4,5] [A2 71 6 10,oS 6 4 71,A0 5 true] .ret)))))))))))
def yj:BN:= .fn 72 ae57 [.c 4 (some 6),.t 5]
theorem tx:AZ Tryz.prog 57 yj:=kT Tryz.func57
abbrev ae66:AK:=(sr [0,1,2] [A0 6 false] (.seq [0,1,2] (sr [0,1,2,13] [oM 10 0,oM 11 1,CK 12 43 10 11,oN 13 12] (.cond (.t 13) (sr [6] [A0 6 false] .ret) .skip)) (sr [0,1,2,7] [oo 14 (.GZ),oM 7 14] (.seq [] (sr [0,1,2,7,15,16,17] [oM 15 1,oE 16 15,BD 17 0] (.block 0 (.loop [0,1,2,7,15,16,17] (sr [0,1,2,7,15,16,17,18] [oG 18 .lss 17 16] (.seq [0,1,2,7,15,16,17] (.cond (.t 18) .skip (.exit 0)) (.seq [0,1,2,7,15,16,17] (.block 1 (sr [0,1,2,7,9,15,16,17] [oI 19 1 15 17,oL 20 19,oM 9 20] (.seq [0,1,2,7,9,15,16,17] (.seq [0,1,2,7,9,15,16,17,58] (.A9 [0,1,2,7,9,15,16,17,58] (dO 0 (oM 21 7)::dO 1 (oM 22 9)::dO 2 (oo 23 (.lookup (.i .i64) (.b false) false (.t 21) (.t 22)))::dO 3 (oM 24 23)::dO 4 (BW 25 0 24)::dO 5 (Fp 26 (.Ei (.t 25)) 24)::dO 6 (Bq 27 0 26 24)::dO 7 (Bq 28 3 27 24)::dO 8 (BU 29 28 24)::dO 9 (BW 30 9 24)::dO 10 (Ih 31 9 29 30 24)::dO 11 (Bq 32 1 31 24)::dO 12 (BU 33 32 24)::dO 13 (BW 34 0 24)::dO 14 (Fp 35 (.Ei (.t 34)) 24)::dO 15 (Bq 36 0 35 24)::dO 16 (Bq 37 3 36 24)::dO 17 (BU 38 37 24)::dO 18 (BW 39 1 24)::dO 19 (Fp 40 (.Bi 1 none (.t 39) (.c (.i .i64 0))) 24)::dO 20 (BU 41 40 24)::dO 21 (Ih 42 9 38 41 24)::dO 22 (Bq 43 1 42 24)::dO 23 (BU 44 43 24)::dO 24 (Gu 45 .neq 33 44 24)::dO 25 (oQ 46 24 45)::dO 26 (oM 47 46)::dO 27 (BW 48 2 47)::dO 28 (BW 49 48 47)::dO 29 (Aw 50 0 49)::dO 30 (Aw 51 9 49)::dO 31 (Aw 52 1 49)::dO 32 (C7 53 (.Bi 1 none (.t 52) (.c (.i .i64 0))) 49)::dO 33 (Au 54 53 49)::dO 34 (C7 55 (.call 44 [(.t 50),(.t 51),(.t 54)]) 49)::dO 35 (JZ 56 55 49)::dO 36 (Fp 57 (.pick (.t 49) (.t 56) (.c (.b false))) 47)::dO 37 (oQ 58 47 57):: [])) (.cond (.t 58) (sr [6] [A0 6 false] .ret) .skip)) (.Am [oM 59 7,oM 60 9,⟨none,.DO (.i .i64) (.t 59) (.t 60) (.c (.b true)),none⟩])))) (.Am [AV 61 .add 17 1,oM 17 61]))))))) (sr [6] [A0 6 true] .ret)))))
def yh:BN:= .fn 62 ae66 [.t 6]
theorem tv:AZ Tryz.prog 66 yh:=kT Tryz.func66
abbrev ae67:AK:=(sr [0,1] [DG 4,A0 5 false] (.scope (sr [0,1,6] [DG 6] (.seq [0,1,6] .skip (.seq [6] (.block 0 (.loop [0,1,6] (.seq [0,1,6] (sr [0,1,6,13] [oM 11 1,oE 12 11,AV 13 .gtr 12 0] (.cond (.t 13) .skip (.exit 0))) (.block 1 (.scope (.seq [0,1,6] .skip (.seq [6] (sr [0,1,6,14,15,16] [oM 14 1,oE 15 14,BD 16 0] (.block 2 (.loop [0,1,6,14,15,16] (sr [0,1,6,14,15,16,17] [oG 17 .lss 16 15] (.seq [0,1,6,14,15,16] (.cond (.t 17) .skip (.exit 2)) (.seq [0,1,6,14,15,16] (.block 3 (sr [0,1,6,8,14,15,16] [oI 18 1 14 16,oL 19 18,oM 8 19] (.seq [0,1,6,8] (sr [0,1,6,8,14,15,16,20,21,22] [oM 20 1,oE 21 20,BD 22 0] (.block 4 (.loop [0,1,6,8,14,15,16,20,21,22] (sr [0,1,6,8,14,15,16,20,21,22,23] [oG 23 .lss 22 21] (.seq [0,1,6,8,14,15,16,20,21,22] (.cond (.t 23) .skip (.exit 4)) (.seq [0,1,6,8,14,15,16,20,21,22] (.block 5 (sr [0,1,6,8,10,14,15,16,20,21,22] [oI 24 1 20 22,oL 25 24,oM 10 25] (sr [0,1,6,8,14,15,16,20,21,22,35] [oM 26 8,oM 27 10,oG 28 .neq 26 27,oM 29 28,Aw 30 0 29,Aw 31 8 29,Aw 32 10 29,C7 33 (.call 45 [(.t 30),(.t 31),(.t 32)]) 29,JZ 34 33 29,oP 35 29 34] (.cond (.t 35) (.exit 3) .skip)))) (.Am [AV 36 .add 22 1,oM 22 36]))))))) (sr [0,1,6,8] [oM 37 6,oM 38 8,oo 39 (.Ab 1 1 [(.i .i64 0)] [(0,(.t 38))]),oA 40 1 8 37 39,oM 6 40] (sr [0,1,6] [oM 41 1,oM 42 8,CK 43 98 41 42,oM 1 43] (.exit 1)))))) (.Am [AV 44 .add 16 1,oM 16 44]))))))) (sr [4,5] [oM 45 6,oC 46 99 45,oM 4 46,A0 5 true] .ret)))))))) (sr [4,5] [oM 47 6,oC 48 99 47,oM 4 48,A0 5 false] .ret))))))
def yg:BN:= .fn 49 ae67 [.t 4,.t 5]
theorem tu:AZ Tryz.prog 67 yg:=kT Tryz.func67
abbrev ae49:AK:=(sr [0,1] [A0 4 false] (sr [4] [oM 5 0,oo 6 (.U0 0 true (.t 5)),oM 7 6,Aw 8 1 7,EF 9 .geq 8 0 7,oP 10 7 9,oM 11 10,Aw 12 1 11,Aw 13 0 11,C7 14 (.Ei (.t 13)) 11,BM 15 0 14 11,BM 16 2 15 11,Au 17 16 11,HA 18 17 11,EG 19 .lss 12 18 11,oP 20 11 19,oM 4 20] .ret))
def yo:BN:= .fn 21 ae49 [.t 4]
theorem uD:AZ Tryz.prog 49 yo:=kT Tryz.func49
abbrev ae50:AK:=(sr [2,3] [oB 2 0,oB 3 1,oo 4 (.mv (.c .HB))] (sr [4] [oo 5 (.G8 (.func 75) [] [(.t 2),(.t 3)]),oM 4 5] .ret))
def yn:BN:= .fn 6 ae50 [.t 4]
theorem uC:AZ Tryz.prog 50 yn:=kT Tryz.func50
abbrev ae51:AK:=(sr [0] [DG 2] (sr [2] [oM 3 0,oM 4 0,oE 5 4,oM 6 0,oE 7 6,oo 8 (.slice 2 (.t 3) none (some (.t 5)) (some (.t 7))),oM 2 8] .ret))
def ym:BN:= .fn 9 ae51 [.t 2]
theorem uB:AZ Tryz.prog 51 ym:=kT Tryz.func51
abbrev ae54:=zD
def yl:BN:= .fn 57 ae54 [.t 6]
theorem uA:AZ Tryz.prog 54 yl:=kT Tryz.func54
abbrev ae30:=Z3
def yx:BN:= .fn 26 ae30 [.t 4]
theorem uK:AZ Tryz.prog 30 yx:=kT Tryz.func30
noncomputable abbrev ae71:=unB zC
noncomputable def ye:BN:= .fn 10 ae71 [.c 2 (some 2),.t 3]
theorem ts:AZ Tryz.prog 71 ye:=kT Tryz.func71
abbrev ae73:=zA
def yc:BN:= .fn 16 ae73 [.t 3]
theorem tq:AZ Tryz.prog 73 yc:=kT Tryz.func73
abbrev ae72:=zB
def yd:BN:= .fn 9 ae72 [.t 4]
theorem tr:AZ Tryz.prog 72 yd:=kT Tryz.func72
abbrev ae79:AK:=(sr [1,2] [oB 2 0,A0 3 false] (sr [3] [A2 4 2 2,oL 5 1,oE 6 5,CK 7 80 4 6,oM 3 7] .ret))
def yX:BN:= .fn 8 ae79 [.t 3]
theorem tj:AZ Tryz.prog 79 yX:=kT Tryz.func79
abbrev ae78:AK:=(sr [0,1] [DG 4] (sr [0,1,5] [DG 5] (.seq [5] (sr [1,5,8,9,10] [oM 8 0,oE 9 8,BD 10 0] (.block 0 (.loop [1,5,8,9,10] (sr [1,5,8,9,10,11] [oG 11 .lss 10 9] (.seq [1,5,8,9,10] (.cond (.t 11) .skip (.exit 0)) (.seq [1,5,8,9,10] (.block 1 (sr [1,5,7,8,9,10] [oI 12 2 8 10,A2 13 2 12,oo 7 (.alloc [(.i .i64 0),(.i .i64 0)]),oS 2 7 13] (sr [1,5,7,8,9,10,16] [oM 14 1,A2 15 2 7,oo 16 (.CC (.t 14) [(.t 15)])] (.cond (.t 16) (.Am [oM 17 5,A2 18 2 7,oo 19 (.Ab 2 1 [(.i .i64 0),(.i .i64 0)] [(0,(.t 18))]),oA 20 2 16 17 19,oM 5 20]) .skip)))) (.Am [AV 21 .add 10 1,oM 10 21]))))))) (sr [4] [oM 22 5,oC 23 114 22,oM 4 23] .ret))))
def yY:BN:= .fn 24 ae78 [.t 4]
theorem tk:AZ Tryz.prog 78 yY:=kT Tryz.func78
abbrev ae81:AK:=(sr [2,3,4,5] [oB 4 0,oB 5 1,A0 8 false,BD 9 0] (sr [2,3,5,10,11] [A2 13 2 4,A2 14 6 5,oo 15 (.Ab 6 1 [(.i .i64 0),(.i .i64 0),(.l [] true),(.i .i64 0),(.i .i64 0),(.l [] true)] [(0,(.t 14))]),CK 16 109 13 15,oM 12 16,oX 17 0 12,oX 18 1 12,oM 10 17,oM 11 18] (.seq [2,3,5,10] (sr [2,3,5,10,34] [oM 19 11,oN 20 19,oM 21 20,BW 22 10 21,BW 23 2 21,BW 24 3 21,Fp 25 (.call 115 [(.t 22),(.t 23),(.t 24)]) 21,Ig 26 25 21,oQ 27 21 26,oM 28 27,Ja 29 6 5 28,Fp 30 (.call 116 [(.t 29)]) 28,BW 31 3 28,GV 32 31 28,Gu 33 .gtr 30 32 28,oQ 34 28 33] (.cond (.t 34) (sr [8,9] [A0 8 false,BD 9 2] .ret) .skip)) (sr [8,9] [oM 35 10,A2 36 6 5,oM 37 2,oM 38 3,Q1 39 117 35 36 37 38,oM 8 39,BD 9 0] .ret))))
def yV:BN:= .fn 40 ae81 [.t 8,.t 9]
theorem th:AZ Tryz.prog 81 yV:=kT Tryz.func81
abbrev ae84:AK:=(sr [0] [DG 2] (sr [2] [oM 3 0,oo 4 (.call 118 [(.c (.l [] true)),(.t 3)]),oM 2 4] .ret))
def yS:BN:= .fn 5 ae84 [.t 2]
theorem te:AZ Tryz.prog 84 yS:=kT Tryz.func84
abbrev ae85:AK:=(sr [0,1,2,3] [A0 5 false] (.seq [6,7] (.A9 [6,7] [dO 0 (oL 9 1),dO 1 (oK 10 9),dO 2 (oF 11 6 10),dO 3 (A2 12 2 11),dO 4 (oL 13 1),dO 5 (oK 14 13),dO 6 (oF 15 0 14),dO 7 (oF 16 3 15),dO 8 (oL 17 16),dO 9 (oM 18 0),dO 10 (oI 19 9 17 18),dO 11 (oF 20 2 19),dO 12 (A2 21 6 20),dO 13 (oL 22 2),dO 14 (oL 23 3),dO 15 (Q1 24 81 12 21 22 23),dO 16 (oM 8 24),dO 17 (oX 25 0 8),dO 18 (oX 26 1 8),dO 19 (oM 6 25),dO 20 (oM 7 26)]) (sr [5] [oM 27 6,oM 28 27,Aw 29 7 28,EF 30 .eql 29 0 28,oP 31 28 30,oM 5 31] .ret)))
def yR:BN:= .fn 32 ae85 [.t 5]
theorem td:AZ Tryz.prog 85 yR:=kT Tryz.func85
abbrev ae83:AK:=(sr [0,1] [DG 4] (sr [0,1,5] [DG 5] (.seq [5] (sr [1,5,8,9,10] [oM 8 0,oE 9 8,BD 10 0] (.block 0 (.loop [1,5,8,9,10] (sr [1,5,8,9,10,11] [oG 11 .lss 10 9] (.seq [1,5,8,9,10] (.cond (.t 11) .skip (.exit 0)) (.seq [1,5,8,9,10] (.block 1 (sr [1,5,7,8,9,10] [oI 12 1 8 10,oL 13 12,oM 7 13] (sr [1,5,7,8,9,10,16] [oM 14 1,oM 15 7,oo 16 (.CC (.t 14) [(.t 15)])] (.cond (.t 16) (.Am [oM 17 5,oM 18 7,oo 19 (.Ab 1 1 [(.i .i64 0)] [(0,(.t 18))]),oA 20 1 8 17 19,oM 5 20]) .skip)))) (.Am [AV 21 .add 10 1,oM 10 21]))))))) (sr [4] [oM 22 5,oC 23 99 22,oM 4 23] .ret))))
def yT:BN:= .fn 24 ae83 [.t 4]
theorem tf:AZ Tryz.prog 83 yT:=kT Tryz.func83
abbrev ae69:AK:=(sr [2,3] [oB 2 0,oB 3 1,DG 4] (sr [2,3] [oL 8 3,oC 9 102 8,oC 10 101 9,oS 1 3 10] (sr [2,3,5] [DG 5] (.seq [5] (.block 0 (.loop [2,3,5] (.seq [2,3,5] (sr [2,3,5,13] [oL 11 3,oE 12 11,AV 13 .gtr 12 0] (.cond (.t 13) .skip (.exit 0))) (.block 1 (sr [2,3,5,6] [oL 14 3,oo 15 (.G8 (.func 104) [] [(.t 3),(.t 2)]),CK 16 103 14 15,oM 6 16] (sr [2,3,5,7] [oL 17 3,oM 18 6,oI 19 1 17 18,oL 20 19,oM 7 20] (sr [2,3,5,7] [oM 21 5,oM 22 7,oo 23 (.Ab 1 1 [(.i .i64 0)] [(0,(.t 22))]),oA 24 1 8 21 23,oM 5 24] (.Am [oL 25 3,oM 26 7,CK 27 98 25 26,oS 1 3 27])))))))) (sr [4] [oM 28 5,oC 29 99 28,oM 4 29] .ret)))))
def yf:BN:= .fn 30 ae69 [.t 4]
theorem tt:AZ Tryz.prog 69 yf:=kT Tryz.func69
abbrev ae82:AK:=(sr [0,2,3] [oM 4 0,oE 5 4,AV 6 .sub 5 1,BD 2 0,oM 3 6] (.block 0 (.loop [0,2,3] (.seq [0,2,3] (sr [0,2,3,9] [oM 7 2,oM 8 3,oG 9 .lss 7 8] (.cond (.t 9) .skip (.exit 0))) (.seq [0,2,3] (.block 1 (.A9 [0,2,3] [dO 0 (oM 14 0),dO 1 (oM 15 2),dO 2 (oM 16 0),dO 3 (oM 17 3),dO 4 (oM 18 0),dO 5 (oM 19 3),dO 6 (oI 20 1 18 19),dO 7 (oL 21 20),dO 8 (oM 22 0),dO 9 (oM 23 2),dO 10 (oI 24 1 22 23),dO 11 (oL 25 24),dO 12 (oI 26 1 14 15),dO 13 (oS 1 26 21),dO 14 (oI 27 1 16 17),dO 15 (oS 1 27 25)])) (.Am [oM 10 2,AV 11 .add 10 1,oM 12 3,AV 13 .sub 12 1,oM 2 11,oM 3 13]))))))
def yU:BN:= .fn 28 ae82 []
theorem tg:AZ Tryz.prog 82 yU:=kT Tryz.func82
abbrev ae98:AK:=(sr [0,3] [oB 3 1,DG 4] (sr [4] [oM 5 0,oo 6 (.G8 (.func 132) [] [(.t 3)]),CK 7 83 5 6,oM 4 7] .ret))
def yQ:BN:= .fn 8 ae98 [.t 4]
theorem tc:AZ Tryz.prog 98 yQ:=kT Tryz.func98
abbrev ae99:=Z4
def yP:BN:= .fn 9 ae99 [.t 2]
theorem tb:AZ Tryz.prog 99 yP:=kT Tryz.func99
abbrev ae75:AK:=(sr [0,2,10,11,12] [oL 6 1,oK 7 6,oF 8 0 7,oF 9 3 8,oL 10 9,oE 11 10,BD 12 0] (.block 0 (.loop [0,2,10,11,12] (sr [0,2,10,11,12,13] [oG 13 .lss 12 11] (.seq [0,2,10,11,12] (.cond (.t 13) .skip (.exit 0)) (.seq [0,2,10,11,12] (.block 1 (sr [0,2,4,5,10,11,12] [oM 14 12,oI 15 9 10 12,A2 16 9 15,oo 5 (.alloc [(.i .i64 0),(.i .i64 0),(.i .i64 0),(.i .i64 0),(.l [] true),(.i .i64 0),(.i .i64 0),(.l [] true),(.i .i64 0)]),oM 4 14,oS 9 5 16] (sr [0,2,10,11,12,26] [oF 17 1 5,oL 18 17,oL 19 2,oG 20 .eql 18 19,oM 21 20,Aw 22 0 21,Aw 23 4 21,C7 24 (.CC (.t 22) [(.t 23)]) 21,JZ 25 24 21,oP 26 21 25] (.cond (.t 26) .ret .skip)))) (.Am [AV 27 .add 12 1,oM 12 27])))))))
def ya:BN:= .fn 28 ae75 []
theorem tn:AZ Tryz.prog 75 ya:=kT Tryz.func75
noncomputable abbrev ae76:=unB y9
noncomputable def yZ:BN:= .fn 24 ae76 [.t 6,.t 7]
theorem tl:AZ Tryz.prog 76 yZ:=kT Tryz.func76
noncomputable abbrev ACW:=unB rP
noncomputable def pH:BN:= .fn 12 ACW [.t 2]
theorem jx:AZ Tryz.prog 107 pH:=kT Tryz.func107
noncomputable abbrev ACV:=unB rO
noncomputable def pG:BN:= .dY 32 ACV [.c 2 (some 2)]
theorem jw:AZ Tryz.prog 108 pG:=kTz Tryz.func108
abbrev ACZ:=rQ
def pK:BN:= .fn 19 ACZ [.t 4]
theorem j0:AZ Tryz.prog 103 pK:=kT Tryz.func103
abbrev ae80:AK:=(sr [1,2] [oB 2 0,A0 4 false] (.seq [] (sr [1,2,6] [oF 5 0 2,oL 6 5] (.block 0 (sr [1,2,6,7] [AV 8 .eql 6 1,oM 7 8] (.cond (.t 7) (sr [4] [oF 9 1 2,oL 10 9,AV 11 .geq 10 (-1000000000),oM 12 11,BM 13 1 2 12,Au 14 13 12,EF 15 .leq 14 1000000000 12,oP 16 12 15,oM 4 16] .ret) (sr [1,2,6,17] [AV 18 .eql 6 2,oM 17 18] (.cond (.t 17) (sr [4] [oF 19 1 2,oL 20 19,AV 21 .eql 20 0,oM 4 21] .ret) (sr [1,2,22] [AV 23 .eql 6 3,oM 22 23] (.cond (.t 22) (sr [4] [oF 24 1 2,oL 25 24,AV 26 .geq 25 0,oM 27 26,BM 28 1 2 27,Au 29 28 27,Aw 30 1 27,EG 31 .lss 29 30 27,oP 32 27 31,oM 4 32] .ret) .skip)))))))) (sr [4] [A0 4 false] .ret)))
def yW:BN:= .fn 33 ae80 [.t 4]
theorem ti:AZ Tryz.prog 80 yW:=kT Tryz.func80
abbrev ACS:AK:=(sr [0] [DG 2] (sr [2] [oM 3 0,oM 4 0,oE 5 4,oM 6 0,oE 7 6,oo 8 (.slice 2 (.t 3) none (some (.t 5)) (some (.t 7))),oM 2 8] .ret))
def pD:BN:= .fn 9 ACS [.t 2]
theorem jt:AZ Tryz.prog 114 pD:=kT Tryz.func114
noncomputable abbrev ACU:=unB rN
noncomputable def pF:BN:= .fn 20 ACU [.t 4,.t 5]
theorem jv:AZ Tryz.prog 109 pF:=kT Tryz.func109
abbrev ACR:AK:=(sr [0,2,4] [oB 4 1,A0 6 false] (sr [6] [oM 7 0,oL 8 4,CK 9 146 7 8,oM 10 9,Aw 11 2 10,HA 12 11 10,EF 13 .geq 12 1 10,oP 14 10 13,oM 15 14,Aw 16 2 15,HA 17 16 15,EF 18 .leq 17 3 15,oP 19 15 18,oM 20 19,Aw 21 2 20,C7 22 (.G8 (.func 148) [] [(.t 4)]) 20,C7 23 (.call 147 [(.t 21),(.t 22)]) 20,oP 24 20 23,oM 6 24] .ret))
def pC:BN:= .fn 25 ACR [.t 6]
theorem js:AZ Tryz.prog 115 pC:=kT Tryz.func115
abbrev ACQ:AK:=(sr [1] [oB 1 0,BD 2 0] (sr [1,3] [BD 3 0] (.seq [1,3] (sr [1,3,7] [A2 6 6 1,oC 7 150 6] (.cond (.t 7) (.Am [oF 8 1 1,oL 9 8,AV 10 .add 9 1,oM 3 10]) .skip)) (.seq [3] (sr [3,12,13,14] [oF 11 5 1,oL 12 11,oE 13 12,BD 14 0] (.block 0 (.loop [3,12,13,14] (sr [3,12,13,14,15] [oG 15 .lss 14 13] (.seq [3,12,13,14] (.cond (.t 15) .skip (.exit 0)) (.seq [3,12,13,14] (.block 1 (sr [3,5,12,13,14] [oI 16 6 12 14,A2 17 6 16,oo 5 (.alloc [(.i .i64 0),(.i .i64 0),(.l [] true),(.i .i64 0),(.i .i64 0),(.l [] true)]),oS 6 5 17] (.Am [oM 18 3,A2 19 6 5,oC 20 116 19,oo 21 (.Jb (.t 18) (.t 20)),oM 3 21]))) (.Am [AV 22 .add 14 1,oM 14 22]))))))) (sr [2] [oM 23 3,oM 2 23] .ret)))))
def pB:BN:= .fn 24 ACQ [.t 2]
theorem jr:AZ Tryz.prog 116 pB:=kT Tryz.func116
abbrev ACP:AK:=(sr [0,2,3,5] [oB 5 1,A0 8 false] (.seq [0,2,3,5] (sr [0,2,3,5,12] [oF 11 0 5,oL 12 11] (.block 0 (sr [0,2,3,5,12,13] [AV 14 .eql 12 1,oM 13 14] (.cond (.t 13) (sr [8] [A0 8 true] .ret) (sr [0,2,3,5,12,15] [AV 16 .eql 12 5,oM 15 16] (.cond (.t 15) (sr [8] [oM 17 0,oF 18 5 5,oL 19 18,oo 20 (.Bi 6 none (.t 19) (.c (.i .i64 0))),A2 21 6 20,oM 22 2,oM 23 3,Q1 24 117 17 21 22 23,oN 25 24,oM 8 25] .ret) (sr [0,2,3,5,12,26] [AV 27 .eql 12 6,oM 26 27] (.cond (.t 26) (sr [8] [oM 28 0,oF 29 5 5,oL 30 29,oo 31 (.Bi 6 none (.t 30) (.c (.i .i64 0))),A2 32 6 31,oM 33 2,oM 34 3,Q1 35 117 28 32 33 34,oM 36 35,Aw 37 0 36,BM 38 5 5 36,Au 39 38 36,C7 40 (.Bi 6 none (.t 39) (.c (.i .i64 1))) 36,Jz 41 6 40 36,Aw 42 2 36,Aw 43 3 36,C7 44 (.call 117 [(.t 37),(.t 41),(.t 42),(.t 43)]) 36,oP 45 36 44,oM 8 45] .ret) (sr [0,2,3,5,46] [AV 47 .eql 12 7,oM 46 47] (.cond (.t 46) (sr [8] [oM 48 0,oF 49 5 5,oL 50 49,oo 51 (.Bi 6 none (.t 50) (.c (.i .i64 0))),A2 52 6 51,oM 53 2,oM 54 3,Q1 55 117 48 52 53 54,oM 56 55,BW 57 0 56,Bq 58 5 5 56,BU 59 58 56,Fp 60 (.Bi 6 none (.t 59) (.c (.i .i64 1))) 56,Ja 61 6 60 56,BW 62 2 56,BW 63 3 56,Fp 64 (.call 117 [(.t 57),(.t 61),(.t 62),(.t 63)]) 56,oQ 65 56 64,oM 8 65] .ret) .skip)))))))))) (.seq [0,2,5,9,10] (.A9 [0,2,5,9,10] [dO 0 (oM 67 0),dO 1 (oM 68 2),dO 2 (oM 69 3),dO 3 (oF 70 1 5),dO 4 (oL 71 70),dO 5 (oI 72 2 69 71),dO 6 (A2 73 2 72),dO 7 (oF 74 2 5),dO 8 (oL 75 74),dO 9 (Q1 76 151 67 68 73 75),dO 10 (oM 66 76),dO 11 (oX 77 0 66),dO 12 (oX 78 1 66),dO 13 (oo 9 (.alloc [(.i .i64 0),(.i .i64 0)])),dO 14 (oS 2 9 77),dO 15 (oM 10 78)]) (.seq [0,5,9] (.block 1 (sr [0,2,5,9,79] [oM 80 10,oN 81 80,oM 79 81] (.cond (.t 79) (sr [8] [A0 8 false] .ret) (sr [0,2,5,9,82] [oF 83 0 5,oL 84 83,AV 85 .neq 84 2,oM 82 85] (.cond (.t 82) (sr [8] [oF 86 0 9,oL 87 86,AV 88 .eql 87 1,oM 89 88,BM 90 1 9 89,Au 91 90 89,BM 92 4 5 89,Au 93 92 89,EG 94 .eql 91 93 89,BM 95 0 5 89,Au 96 95 89,EF 97 .eql 96 4 89,C7 98 (.Sk false (.t 94) (.t 97)) 89,oP 99 89 98,oM 100 99,BM 101 1 9 100,Au 102 101 100,BM 103 4 5 100,Au 104 103 100,EG 105 .leq 102 104 100,oP 106 100 105,oM 8 106] .ret) (sr [0,2,5,9,107] [oF 108 0 9,oL 109 108,AV 110 .eql 109 3,oM 107 110] (.cond (.t 107) (.seq [8] (.A9 [8] [dO 0 (oM 111 0),dO 1 (oM 112 2),dO 2 (oF 113 1 9),dO 3 (oL 114 113),dO 4 (oI 115 2 112 114),dO 5 (oF 116 0 115),dO 6 (oL 117 116),dO 7 (oK 118 111),dO 8 (oF 119 2 118),dO 9 (oo 120 (.Bi 1 (some 63) (.t 119) (.t 117))),dO 10 (oL 121 120),dO 11 (oF 122 3 5),dO 12 (oL 123 122),dO 13 (CK 124 152 121 123),dO 14 (oM 8 124)]) .ret) .skip))))))) (.seq [8] (.A9 [8] [dO 0 (oM 125 0),dO 1 (oF 126 0 9),dO 2 (oL 127 126),dO 3 (oK 128 125),dO 4 (oF 129 2 128),dO 5 (oo 130 (.Bi 1 (some 63) (.t 129) (.t 127))),dO 6 (oL 131 130),dO 7 (oF 132 3 5),dO 8 (oL 133 132),dO 9 (CK 134 152 131 133),dO 10 (oM 8 134)]) .ret)))))
def pA:BN:= .fn 135 ACP [.t 8]
theorem jq:AZ Tryz.prog 117 pA:=kT Tryz.func117
abbrev ACO:AK:=(sr [1,2] [oB 2 0,DG 4] (.seq [2] (sr [2,6] [oM 6 1] (.block 0 (.C8 [2] (.t 6) [7] (.Am [oM 5 7]) (.block 1 (.Am [oL 8 2,oM 9 5,oo 10 (.Ab 1 1 [(.i .i64 0)] [(0,(.t 9))]),oA 11 1 8 8 10,oS 1 2 11]))))) (sr [4] [oL 12 2,oM 4 12] .ret)))
def o8:BN:= .fn 13 ACO [.t 4]
theorem jo:AZ Tryz.prog 118 o8:=kT Tryz.func118
abbrev ACa:AK:=(sr [1] [oB 1 0,oo 2 (.mv (.c .HB))] (sr [2] [oo 3 (.G8 (.func 136) [] [(.t 1)]),oM 2 3] .ret))
def pM:BN:= .fn 4 ACa [.t 2]
theorem j3:AZ Tryz.prog 102 pM:=kT Tryz.func102
abbrev ACb:AK:=(sr [0] [DG 2] (sr [3] [oM 4 0,oC 5 84 4,oM 3 5] (sr [3] [oM 6 3,oC 7 135 6] (sr [2] [oM 8 3,oM 2 8] .ret))))
def pN:BN:= .fn 9 ACb [.t 2]
theorem j4:AZ Tryz.prog 101 pN:=kT Tryz.func101
abbrev ACY:AK:=(sr [1,2,3] [oB 3 0,A0 4 false] (sr [4] [oL 5 1,oo 6 (.G8 (.func 105) [] [(.t 2),(.t 3)]),CK 7 72 5 6,oN 8 7,oM 4 8] .ret))
def pJ:BN:= .fn 9 ACY [.t 4]
theorem jz:AZ Tryz.prog 104 pJ:=kT Tryz.func104
abbrev ACN:=Z2
def o7:BN:= .fn 7 ACN [.t 3]
theorem jn:AZ Tryz.prog 132 o7:=kT Tryz.func132
noncomputable abbrev ACT:=unB rM
noncomputable def pE:BN:= .fn 14 ACT [.t 6]
theorem ju:AZ Tryz.prog 110 pE:=kT Tryz.func110
noncomputable abbrev ACJ:=unB rK
noncomputable def o0:BN:= .fn 10 ACJ [.t 2,.t 3]
theorem jk:AZ Tryz.prog 137 o0:=kT Tryz.func137
noncomputable abbrev ACI:=unB rJ
noncomputable def oz:BN:= .dY 6 ACI [.t 2]
theorem jj:AZ Tryz.prog 138 oz:=kTz Tryz.func138
noncomputable abbrev ACH:=unB rI
noncomputable def oy:BN:= .dY 91 ACH [.t 2,.t 3]
theorem ji:AZ Tryz.prog 139 oy:=kTz Tryz.func139
noncomputable abbrev ACG:=unB rH
noncomputable def ox:BN:= .fn 8 ACG [.t 4]
theorem jh:AZ Tryz.prog 140 ox:=kT Tryz.func140
abbrev ACC:AK:=(sr [2,3] [oB 2 0,oB 3 1,A0 4 false] (sr [4] [oL 5 3,oE 6 5,AV 7 .leq 6 40,oM 8 7,Au 9 3 8,C7 10 (.G8 (.func 187) [] [(.t 2),(.t 3)]) 8,C7 11 (.call 186 [(.t 9),(.t 10)]) 8,oP 12 8 11,oM 4 12] .ret))
def oq:BN:= .fn 13 ACC [.t 4]
theorem jd:AZ Tryz.prog 146 oq:=kT Tryz.func146
abbrev ACA:AK:=(sr [1,2] [oB 2 0,A0 3 false] (sr [3] [A2 4 2 2,oL 5 1,oE 6 5,CK 7 149 4 6,oM 3 7] .ret))
def oj:BN:= .fn 8 ACA [.t 3]
theorem jb:AZ Tryz.prog 148 oj:=kT Tryz.func148
abbrev ACB:AK:=(sr [0,3] [oB 3 1,A0 4 false] (sr [4] [oM 5 0,oo 6 (.G8 (.func 191) [] [(.t 3)]),CK 7 190 5 6,oN 8 7,oM 4 8] .ret))
def om:BN:= .fn 9 ACB [.t 4]
theorem jc:AZ Tryz.prog 147 om:=kT Tryz.func147
noncomputable abbrev AB8:=unB rD
noncomputable def og:BN:= .fn 11 AB8 [.t 2]
theorem jZ:AZ Tryz.prog 150 og:=kT Tryz.func150
abbrev AB7:AK:=(sr [0,1,3,6,8] [oB 6 2,oo 8 (.alloc [(.i .i64 0),(.i .i64 0)]),A0 9 false] (.seq [6,8] (sr [0,1,6,8,12,13,14] [oM 12 3,oE 13 12,BD 14 0] (.block 0 (.loop [0,1,6,8,12,13,14] (sr [0,1,6,8,12,13,14,15] [oG 15 .lss 14 13] (.seq [0,1,6,8,12,13,14] (.cond (.t 15) .skip (.exit 0)) (.seq [0,1,6,8,12,13,14] (.block 1 (sr [0,1,6,8,11,12,13,14] [oI 16 1 12 14,oL 17 16,oM 11 17] (.seq [0,1,6,8,11,12,13,14] (sr [0,1,6,8,11,12,13,14,32] [oF 18 0 6,oL 19 18,AV 20 .neq 19 3,oM 21 20,BW 22 0 21,BW 23 1 21,Bq 24 1 6 21,BU 25 24 21,Ih 26 2 23 25 21,Bq 27 0 26 21,BU 28 27 21,BW 29 11 21,Fp 30 (.call 192 [(.t 22),(.t 28),(.t 29)]) 21,Ig 31 30 21,oQ 32 21 31] (.cond (.t 32) (sr [8,9] [oo 33 (.build [(.i .i64 0),(.i .i64 0)] []),oS 2 8 33,A0 9 false] .ret) .skip)) (.A9 [0,1,6,8,12,13,14] [dO 0 (oM 34 1),dO 1 (oF 35 1 6),dO 2 (oL 36 35),dO 3 (oI 37 2 34 36),dO 4 (oF 38 1 37),dO 5 (oL 39 38),dO 6 (oM 40 0),dO 7 (oM 41 1),dO 8 (oF 42 1 6),dO 9 (oL 43 42),dO 10 (oI 44 2 41 43),dO 11 (oF 45 0 44),dO 12 (oL 46 45),dO 14 (oM 48 11),⟨13,CK 47 188 40 46,[5,2],[oL 39 38,oL 36 35]⟩,⟨15,CK 49 193 47 48,[5,2],[oL 39 38,oL 36 35]⟩,dO 16 (oI 50 2 39 49),dO 17 (A2 51 2 50),dO 18 (oS 2 6 51)])))) (.Am [AV 52 .add 14 1,oM 14 52]))))))) (sr [8,9] [A2 53 2 6,oS 2 8 53,A0 9 true] .ret)))
def oe:BN:= .fn 54 AB7 [.c 8 (some 2),.t 9]
theorem jY:AZ Tryz.prog 151 oe:=kT Tryz.func151
abbrev AB6:=rC
def od:BN:= .fn 10 AB6 [.t 4]
theorem jX:AZ Tryz.prog 152 od:=kT Tryz.func152
abbrev ACK:AK:=(sr [0,5,6,7] [oL 5 1,oE 6 5,BD 7 0] (.block 0 (.loop [0,5,6,7] (sr [0,5,6,7,8] [oG 8 .lss 7 6] (.seq [0,5,6,7] (.cond (.t 8) .skip (.exit 0)) (.seq [0,5,6,7] (.block 1 (sr [0,4,5,6,7] [oI 9 1 5 7,oL 10 9,oM 4 10] (sr [0,5,6,7,14] [oM 11 0,oM 12 4,oo 13 (.CC (.t 11) [(.t 12)]),oN 14 13] (.cond (.t 14) .ret .skip)))) (.Am [AV 15 .add 7 1,oM 7 15])))))))
def o5:BN:= .fn 16 ACK []
theorem jl:AZ Tryz.prog 136 o5:=kT Tryz.func136
abbrev ACL:=rL
def o6:BN:= .fn 11 ACL []
theorem jm:AZ Tryz.prog 135 o6:=kT Tryz.func135
abbrev ACX:AK:=(sr [0,1,2] [A0 4 false] (sr [4] [oL 5 1,oM 6 0,oL 7 2,NI 8 45 5 6 7,oM 4 8] .ret))
def pI:BN:= .fn 9 ACX [.t 4]
theorem jy:AZ Tryz.prog 105 pI:=kT Tryz.func105
noncomputable abbrev ACD:=unB rE
noncomputable def ot:BN:= .fn 6 ACD [.c 2 (some 6)]
theorem je:AZ Tryz.prog 143 ot:=kT Tryz.func143
noncomputable abbrev ACE:=unB rF
noncomputable def ou:BN:= .fn 9 ACE [.c 4 (some 6)]
theorem jf:AZ Tryz.prog 142 ou:=kT Tryz.func142
noncomputable abbrev ACF:=unB rG
noncomputable def ow:BN:= .fn 14 ACF [.t 4]
theorem jg:AZ Tryz.prog 141 ow:=kT Tryz.func141
abbrev AB3:=q9
def oW:BN:= .fn 130 AB3 []
theorem jT:AZ Tryz.prog 162 oW:=kT Tryz.func162
abbrev Xr:AK:=(.Am [oo 2 (.alloc [(.b false)])])
def aM:List AW:=[oo 3 (.G8 (.func 207) [] [(.t 2)])]
abbrev Xp:AK:=(sr [2] [oM 4 0,oo 5 (.CC (.t 4) [])] (sr [2] [⟨none,.store 1 (.t 2) (.c (.b true)),none⟩] .ret))
theorem eZ:Tryz.f161.body.bind (J6 Tryz.prog Tryz.f161.ntmps [] [])=some (erase Xr,aM,(.t 3),erase Xp):=by kernel_rfl
def oY:BN:= .xv 6 Xr aM (.t 3) Xp [.c 2 none] [0,2] [0,2]
theorem jU:AZ Tryz.prog 161 oY:=fun _ _ _ hn h=>IA Tryz.func161 (by kernel_rfl) eZ (by kernel_rfl) hn h
abbrev ABs:=qp
def n6:BN:= .fn 23 ABs [.t 4]
theorem jI:AZ Tryz.prog 173 n6:=kT Tryz.func173
noncomputable abbrev ABr:=unB qo
noncomputable def n4:BN:= .fn 6 ABr [.t 2]
theorem jH:AZ Tryz.prog 174 n4:=kT Tryz.func174
abbrev ABq:=qn
def ny:BN:= .fn 9 ABq [.t 4]
theorem jF:AZ Tryz.prog 176 ny:=kT Tryz.func176
abbrev ABt:=qq
def n8:BN:= .fn 9 ABt [.t 4]
theorem jJ:AZ Tryz.prog 172 n8:=kT Tryz.func172
abbrev ABo:=ql
def nu:BN:= .fn 18 ABo [.t 4]
theorem jD:AZ Tryz.prog 178 nu:=kT Tryz.func178
noncomputable abbrev ABp:=unB qm
noncomputable def nv:BN:= .fn 9 ABp [.t 4]
theorem jE:AZ Tryz.prog 177 nv:=kT Tryz.func177
noncomputable abbrev ABm:=unB qi
noncomputable def nr:BN:= .fn 8 ABm [.t 3]
theorem jB:AZ Tryz.prog 180 nr:=kT Tryz.func180
noncomputable abbrev ABn:=unB qj
noncomputable def nt:BN:= .fn 9 ABn [.t 4]
theorem jC:AZ Tryz.prog 179 nt:=kT Tryz.func179
abbrev ABi:AK:=(sr [1,2,3] [oB 3 0,A0 4 false] (.seq [4] (.A9 [4] [dO 0 (oL 5 1),dO 1 (oF 6 0 3),dO 2 (oL 7 6),dO 3 (CK 8 178 5 7),dO 4 (oM 9 8),dO 5 (BM 10 1 3 9),dO 6 (Au 11 10 9),dO 7 (HA 12 11 9),dO 8 (Au 13 1 9),dO 9 (BM 14 0 3 9),dO 10 (Au 15 14 9),⟨11,C7 16 (.call 188 [(.t 13),(.t 15)]) 9,[6],[Au 11 10 9]⟩,dO 12 (HA 17 16 9),dO 13 (EG 18 .eql 12 17 9),dO 14 (oP 19 9 18),dO 15 (oM 20 19),dO 16 (BM 21 1 3 20),dO 17 (Au 22 21 20),dO 18 (C7 23 (.G8 (.func 189) [] [(.t 2)]) 20),dO 19 (C7 24 (.call 147 [(.t 22),(.t 23)]) 20),dO 20 (oP 25 20 24),dO 21 (oM 4 25)]) .ret))
def ni:BN:= .fn 26 ABi [.t 4]
theorem iv:AZ Tryz.prog 187 ni:=kT Tryz.func187
abbrev ABj:AK:=(sr [0,3] [oB 3 1,A0 4 false] (sr [4] [oM 5 0,oo 6 (.G8 (.func 238) [] [(.t 3)]),CK 7 237 5 6,oN 8 7,oM 4 8] .ret))
def nj:BN:= .fn 9 ABj [.t 4]
theorem iw:AZ Tryz.prog 186 nj:=kT Tryz.func186
abbrev AB9:AK:=(sr [1,2] [oB 2 0,A0 4 false] (.seq [1,2] (sr [1,2,6] [oF 5 0 2,oL 6 5] (.block 0 (sr [1,2,6,7] [AV 8 .eql 6 1,oM 7 8] (.cond (.t 7) (sr [4] [oF 9 1 2,oL 10 9,AV 11 .geq 10 (-1000000000),oM 12 11,BM 13 1 2 12,Au 14 13 12,EF 15 .leq 14 1000000000 12,oP 16 12 15,oM 4 16] .ret) (sr [1,2,17] [AV 18 .eql 6 2,oM 17 18] (.cond (.t 17) (sr [4] [oF 19 1 2,oL 20 19,AV 21 .eql 20 0,oM 4 21] .ret) .skip)))))) (sr [4] [oF 22 0 2,oL 23 22,AV 24 .eql 23 3,oM 25 24,BM 26 1 2 25,Au 27 26 25,EF 28 .geq 27 0 25,oP 29 25 28,oM 30 29,BM 31 1 2 30,Au 32 31 30,Aw 33 1 30,EG 34 .lss 32 33 30,oP 35 30 34,oM 4 35] .ret)))
def oh:BN:= .fn 36 AB9 [.t 4]
theorem ja:AZ Tryz.prog 149 oh:=kT Tryz.func149
abbrev ABe:AK:=(sr [1,2] [oB 2 0,A0 3 false] (sr [3] [oL 4 1,A2 5 2 2,oo 6 (.CC (.t 4) [(.t 5)]),oN 7 6,oM 3 7] .ret))
def nc:BN:= .fn 8 ABe [.t 3]
theorem il:AZ Tryz.prog 191 nc:=kT Tryz.func191
abbrev ABf:AK:=(sr [0,1] [A0 4 false] (sr [4] [oM 5 0,oM 6 1,CK 7 239 5 6,AV 8 .geq 7 0,oM 4 8] .ret))
def nf:BN:= .fn 9 ABf [.t 4]
theorem im:AZ Tryz.prog 190 nf:=kT Tryz.func190
abbrev ABd:AK:=(sr [0,1,2] [A0 6 false] (.seq [6] (.A9 [6] [dO 0 (oM 7 0),dO 1 (oM 8 1),dO 2 (oK 9 7),dO 3 (oF 10 2 9),dO 4 (oo 11 (.Bi 1 (some 63) (.t 10) (.t 8))),dO 5 (oL 12 11),dO 6 (oM 13 0),dO 7 (oK 14 13),dO 8 (oF 15 0 14),dO 9 (oF 16 1 15),dO 10 (oL 17 16),dO 11 (oM 18 2),dO 12 (oI 19 1 17 18),dO 13 (oL 20 19),dO 14 (CK 21 152 12 20),dO 15 (oM 6 21)]) .ret))
def na:BN:= .fn 22 ABd [.t 6]
theorem ik:AZ Tryz.prog 192 na:=kT Tryz.func192
abbrev ABh:AK:=(sr [0,1] [DG 4] (sr [0,1,5] [DG 5] (.seq [5] (sr [0,1,5,12,13] [oM 7 0,oK 8 7,oF 9 0 8,oF 10 1 9,oL 11 10,oE 12 11,BD 13 0] (.block 0 (.loop [0,1,5,12,13] (sr [0,1,5,12,13,14] [oG 14 .lss 13 12] (.seq [0,1,5,12,13] (.cond (.t 14) .skip (.exit 0)) (.seq [0,1,5,12,13] (.block 1 (sr [0,1,5,6,12,13] [oM 15 13,oM 6 15] (sr [0,1,5,6,12,13,19] [oM 16 0,oM 17 1,oM 18 6,NI 19 192 16 17 18] (.cond (.t 19) (.Am [oM 20 5,oM 21 6,oo 22 (.Ab 1 1 [(.i .i64 0)] [(0,(.t 21))]),oA 23 1 8 20 22,oM 5 23]) .skip)))) (.Am [AV 24 .add 13 1,oM 13 24]))))))) (sr [4] [oM 25 5,oM 4 25] .ret))))
def nh:BN:= .fn 26 ABh [.t 4]
theorem iu:AZ Tryz.prog 188 nh:=kT Tryz.func188
abbrev ABc:=qf
def nZ:BN:= .fn 19 ABc [.t 4]
theorem ij:AZ Tryz.prog 193 nZ:=kT Tryz.func193
abbrev AB4:=rA
def oZ:BN:= .fn 8 AB4 [.t 2]
theorem jV:AZ Tryz.prog 160 oZ:=kT Tryz.func160
abbrev AB5:=rB
def oa:BN:= .fn 134 AB5 []
theorem jW:AZ Tryz.prog 159 oa:=kT Tryz.func159
noncomputable abbrev ABk:=unB qg
noncomputable def np:BN:= .fn 6 ABk [.t 4]
theorem iz:AZ Tryz.prog 182 np:=kT Tryz.func182
abbrev Xq:AK:=(.Am [oo 4 (.alloc [(.b false)])])
def aL:List AW:=[oo 5 (.G8 (.func 229) [] [(.t 4)])]
abbrev Xo:AK:=(sr [4] [oM 6 0,oM 7 1,CK 8 230 6 7,oC 9 231 8] (sr [4] [⟨none,.store 1 (.t 4) (.c (.b true)),none⟩] .ret))
theorem eY:Tryz.f183.body.bind (J6 Tryz.prog Tryz.f183.ntmps [] [])=some (erase Xq,aL,(.t 5),erase Xo):=by kernel_rfl
def nk:BN:= .xv 10 Xq aL (.t 5) Xo [.c 4 none] [0,1,4] [0,1,4]
theorem iy:AZ Tryz.prog 183 nk:=fun _ _ _ hn h=>IA Tryz.func183 (by kernel_rfl) eY (by kernel_rfl) hn h
noncomputable abbrev AB2:=unB q8
noncomputable def oV:BN:= .fn 112 AB2 []
theorem jS:AZ Tryz.prog 163 oV:=kT Tryz.func163
abbrev AB1:=qz
def oU:BN:= .fn 6 AB1 []
theorem jR:AZ Tryz.prog 164 oU:=kT Tryz.func164
abbrev AB0:=qy
def oT:BN:= .fn 48 AB0 [.t 4]
theorem jQ:AZ Tryz.prog 165 oT:=kT Tryz.func165
noncomputable abbrev ABz:=unB qx
noncomputable def oR:BN:= .fn 86 ABz []
theorem jP:AZ Tryz.prog 166 oR:=kT Tryz.func166
noncomputable abbrev ABv:=unB qt
noncomputable def oD:BN:= .fn 16 ABv [.t 4]
theorem jL:AZ Tryz.prog 170 oD:=kT Tryz.func170
noncomputable abbrev ABu:=unB qs
noncomputable def n9:BN:= .fn 35 ABu [.t 2]
theorem jK:AZ Tryz.prog 171 n9:=kT Tryz.func171
def aK:List AW:=[oM 1 4]
abbrev Xn:AK:=(sr [0,1,6] [oM 5 1,oo 6 (.U0 2 true (.t 5))] (.cond (.t 6) (.seq [0] (sr [0,1,3] [oM 8 1,oo 9 (.WW 242 (.a []) true (.t 8)),oM 7 9,oX 10 0 7,oX 11 1 7,oo 2 (.alloc []),oS 0 2 10,oM 3 11] (sr [0,1,13] [oM 12 3,oN 13 12] (.cond (.t 13) (.Am [oM 14 1,⟨none,.panic (.t 14),none⟩]) .skip))) (.Am [⟨none,.store 1 (.t 0) (.c (.b false)),none⟩])) .skip))
theorem eX:Tryz.f207.body.bind (resRec Tryz.prog Tryz.f207.ntmps [] [])=some (4,aK,erase Xn):=by kernel_rfl
def nK:BN:= .xp 15 4 aK Xn [0,1]
theorem iT:AZ Tryz.prog 207 nK:=fun _ _ _ _ hn h=>JT Tryz.func207 (by kernel_rfl) eX rfl hn h
abbrev ABI:=Z4
def nA:BN:= .fn 9 ABI [.t 2]
theorem iJ:AZ Tryz.prog 216 nA:=kT Tryz.func216
theorem ee:Tryz.f175.body.bind (res Tryz.prog Tryz.f175.ntmps [] [])=some (erase (Ns 1 8)):=by kernel_rfl
def nz:BN:= .U9 (Rr 1)
theorem jG:AZ Tryz.prog 175 nz:=UC (sz:=1) (b:=8) (fun _ _ _ hn h=>Fi Tryz.func175 (by kernel_rfl) ee (by kernel_rfl) hn h) nb
abbrev ABH:=qU
def m9:BN:= .fn 8 ABH [.t 3]
theorem iI:AZ Tryz.prog 217 m9:=kT Tryz.func217
end Go.Gl
