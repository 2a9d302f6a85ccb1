import Derived.Test.YtijbpgdmpejgoaaGreatProg
import Derived.KernelRfl
import Derived.Test.YtijbpgdmpejgoaaGreatQ10
import Derived.Test.YtijbpgdmpejgoaaGreatQ23
set_option linter.all false
set_option linter.unusedVariables false
set_option linter.unusedSimpArgs false
namespace Go.Gl
variable {P:Program}
abbrev Mq (sz b:Nat):AJ:=(.seq [0] (.A2 [⟨(some 2),.mv (.c (.l [] true)),none⟩])
 (.seq [0] (.seq [0,4] (.A2 [⟨(some 3),.mv (.t 0),none⟩,
  ⟨(some 4),.UN 1 false (.t 3),none⟩])
 (.cond (.t 4)
 (.seq [2] (.A2 [⟨(some 2),.mv (.c (.l [] true)),none⟩])
 .ret)
 .skip))
 (.seq [2] (.A2 [⟨(some 5),.Am 1 0 [] [],none⟩,
  ⟨(some 6),.mv (.t 0),none⟩,
  ⟨(some 7),.append sz b (.t 5) (.t 6),none⟩,
  ⟨(some 2),.mv (.t 7),none⟩])
 .ret)))
theorem YK {q:Nat} {neg:Bool} {x:V} {k k':V→Prop} (h:Hj q neg x k) (hm: ∀t,k (.b t)→k' (.b t)):Hj q neg x k':=by
 unfold Hj at *;split at h<;>first|exact hm _ h|exact⟨fun e t=>hm _ (h.1 e t),fun e=>hm _ (h.2 e)⟩|exact h.elim
theorem Lq {v:V} {σ:AG} {Q:R→AG→Prop} (h:Q (.ret v) σ):BJ σ v Q:=⟨v,σ,fun _ _ h=>h,.refl _,h⟩
theorem bB {ρ:Ren} {f:Bool}:RV ρ (.l [] f) (.l [] f):=by simp only[RV];exact⟨[],rfl,rfl⟩
section
attribute [local irreducible] BQ BJ A5 Ab AQ A4 Ac Af AR Az AW Aa BT Bf An BZ A6 W Hj
theorem j0 {sz b:Nat} {v:V} {σ:AG} {Q:R→AG→Prop} (h1:Hj 1 false v fun t=>(t= .b true→BJ σ (.l [] true) Q)∧(t= .b false→AQ b σ sz (.l [] true) v fun v' σ'=>BJ σ' v' Q)) :
 W P (Mq sz b) (SG [.t 2] Q) [(0,v)] σ:=by
 try(conv=>whnf)
 repeat((first|refine⟨rfl,?_⟩|refine⟨nb,?_⟩|refine LK ?_|refine LL ?_|refine IJ ?_|refine II ?_|refine J0 ?_|refine NI ?_|(refine LM ?_;intro K U)|(refine LO ?_;intro I C G F)|(refine G _ _ ?_;clear F;clear C;clear G;clear I)|(refine F _ _ _ ?_;clear F;clear C;clear G;clear I)|refine IP ?_|refine IM ?_|refine LN ?_|refine IK ?_|refine Gr ?_|refine IL ?_|(refine IN ?_;intro I C G F)|(refine F _ _ fun σ hsub=>?_;clear F;clear C;clear G;clear I)|refine Gp ?_|refine Gq ?_|(refine U _ _ ?_;clear U;clear K)|(clear U;clear K));try(conv=>whnf))
 refine YK h1 fun t ht=>?_
 try(conv=>whnf)
 repeat((first|refine⟨rfl,?_⟩|refine⟨nb,?_⟩|refine LK ?_|refine LL ?_|refine IJ ?_|refine II ?_|refine J0 ?_|refine NI ?_|(refine LM ?_;intro K U)|(refine LO ?_;intro I C G F)|(refine G _ _ ?_;clear F;clear C;clear G;clear I)|(refine F _ _ _ ?_;clear F;clear C;clear G;clear I)|refine IP ?_|refine IM ?_|refine LN ?_|refine IK ?_|refine Gr ?_|refine IL ?_|(refine IN ?_;intro I C G F)|(refine F _ _ fun σ hsub=>?_;clear F;clear C;clear G;clear I)|refine Gp ?_|refine Gq ?_|(refine U _ _ ?_;clear U;clear K)|(clear U;clear K));try(conv=>whnf))
 refine⟨fun h=>?_,fun h=>?_⟩
 ·subst h
  try(conv=>whnf)
  repeat((first|refine⟨rfl,?_⟩|refine⟨nb,?_⟩|refine LK ?_|refine LL ?_|refine IJ ?_|refine II ?_|refine J0 ?_|refine NI ?_|(refine LM ?_;intro K U)|(refine LO ?_;intro I C G F)|(refine G _ _ ?_;clear F;clear C;clear G;clear I)|(refine F _ _ _ ?_;clear F;clear C;clear G;clear I)|refine IP ?_|refine IM ?_|refine LN ?_|refine IK ?_|refine Gr ?_|refine IL ?_|(refine IN ?_;intro I C G F)|(refine F _ _ fun σ hsub=>?_;clear F;clear C;clear G;clear I)|refine Gp ?_|refine Gq ?_|(refine U _ _ ?_;clear U;clear K)|(clear U;clear K));try(conv=>whnf))
  exact ht.1 rfl
 ·subst h
  try(conv=>whnf)
  repeat((first|refine⟨rfl,?_⟩|refine⟨nb,?_⟩|refine LK ?_|refine LL ?_|refine IJ ?_|refine II ?_|refine J0 ?_|refine NI ?_|(refine LM ?_;intro K U)|(refine LO ?_;intro I C G F)|(refine G _ _ ?_;clear F;clear C;clear G;clear I)|(refine F _ _ _ ?_;clear F;clear C;clear G;clear I)|refine IP ?_|refine IM ?_|refine LN ?_|refine IK ?_|refine Gr ?_|refine IL ?_|(refine IN ?_;intro I C G F)|(refine F _ _ fun σ hsub=>?_;clear F;clear C;clear G;clear I)|refine Gp ?_|refine Gq ?_|(refine U _ _ ?_;clear U;clear K)|(clear U;clear K));try(conv=>whnf))
  refine Km (ht.2 rfl) fun v' σ' hq=>?_
  try(conv=>whnf)
  repeat((first|refine⟨rfl,?_⟩|refine⟨nb,?_⟩|refine LK ?_|refine LL ?_|refine IJ ?_|refine II ?_|refine J0 ?_|refine NI ?_|(refine LM ?_;intro K U)|(refine LO ?_;intro I C G F)|(refine G _ _ ?_;clear F;clear C;clear G;clear I)|(refine F _ _ _ ?_;clear F;clear C;clear G;clear I)|refine IP ?_|refine IM ?_|refine LN ?_|refine IK ?_|refine Gr ?_|refine IL ?_|(refine IN ?_;intro I C G F)|(refine F _ _ fun σ hsub=>?_;clear F;clear C;clear G;clear I)|refine Gp ?_|refine Gq ?_|(refine U _ _ ?_;clear U;clear K)|(clear U;clear K));try(conv=>whnf))
  exact hq
end
theorem TS {f:FuncId} {n sz b:Nat} (h: ∀(args:List V) (σ:AG) (Q:R→AG→Prop),args.length≤n→T P (Mq sz b) (SG [.t 2] Q) (A0 0 args) σ→BQ P f args σ Q) (hn:1≤n) (hb:b≤131072:=by decide):AV P f (.UZ (Qp sz)):=by
 intro vs s r s' hc ρ vs' σ hv hs Q hQ
 have main: ∀ {v v':V} {ys:List (List V)},vs= [v]→vs'= [v']→RV ρ v v'→HW s sz v=some ys→(ys= []→r= .ret (.l [] true)∧s'=s)→
  (ys≠[]→(ys.all (fun e=>e.all B7)&&Nat.ble ys.length 1073741824)=true∧s.nx≤Kz∧r= .ret (.sl s.nx ys.length 0)∧s'=⟨s.nx+1,Tr.set (some (.arr sz ys)) BA s.t s.nx⟩)→
  (∀k:V→Prop,(ys= []→ ∀t,k (.b t))→(ys≠[]→k (.b false))→Hj 1 false v' k)→BQ P f vs' σ Q:=fun {v v' ys} e1 e2 hr hy h0 h1 hk=>by
  subst e1;subst e2;refine h _ _ _ hn (kL (j0 (hk _ (fun e t=>⟨fun _=>?_,fun _=>?_⟩) fun e=>⟨fun h=>(by cases h),fun _=>?_⟩)))
  ·obtain⟨rfl,rfl⟩:=h0 e
   exact Lq (hQ ρ _ σ (.refl _) ⟨_,bB,rfl⟩ hs)
  ·obtain⟨rfl,rfl⟩:=h0 e
   refine Gm hs hy hr fun ys' hr'=>?_
   have:ys'= []:=by
    have:=hr'.len;rw[e]at this;exact List.length_eq_zero_iff.1 this
   subst this;exact⟨fun e he=>(by cases he),fun e he=>(by cases he),⟨Nat.zero_le _,by simp⟩,fun _=>Lq (hQ ρ _ σ (.refl _) ⟨_,bB,rfl⟩ hs),fun h=>absurd rfl h⟩
  ·obtain⟨g1,g2,rfl,rfl⟩:=h1 e
   simp only[BO]at g1;refine Gm hs hy hr fun ys' hr'=>?_
   have hl:=hr'.len;have hne:ys'≠[]:=fun e'=>e (by rw[e']at hl;exact List.length_eq_zero_iff.1 hl.symm)
   refine⟨Kc g1.1 hr',fun e he=>(by cases he),?_,fun e=>absurd e hne,fun _=>⟨rfl,fun n cap hn0 hc=>?_⟩⟩
   ·have:=Qc (b:=b) (L:=ys.length) (by simp only[wJ,BO];exact⟨g1.2,Nat.ble_eq_true_of_le hb⟩)
    simp only[List.length_nil,Nat.zero_add];rw[hl];exact this
   ·obtain⟨ρ',q1,q2,q3⟩:=hs.new g2 hn0 cap (o:= .arr sz ys) (o':= .arr sz ys' cap) ⟨_,hr',rfl⟩
    refine Lq (hQ ρ' _ _ q1 ?_ ?_)
    ·refine⟨_,?_,rfl⟩
     simp only[RV];exact⟨_,q2,by simp[hl]⟩
    ·simpa using q3
 have parts: ∀ {ys:List (List V)},(match some ys with
  | some []=>some (R.ret (V.l [] true),s)
  | some (y::ys)=>bif (y::ys).all (fun e=>e.all B7)&&Nat.ble (y::ys).length 1073741824 then s.new (.arr sz (y::ys)) fun i s'=>some (.ret (.sl i (y::ys).length 0),s')else none
  | none=>none)=some (r,s')→(ys= []→r= .ret (.l [] true)∧s'=s)∧
    (ys≠[]→(ys.all (fun e=>e.all B7)&&Nat.ble ys.length 1073741824)=true∧s.nx≤Kz∧r= .ret (.sl s.nx ys.length 0)∧s'=⟨s.nx+1,Tr.set (some (.arr sz ys)) BA s.t s.nx⟩):=fun {ys} hc=>by
  cases ys with
  | nil=>cases hc;exact⟨fun _=>⟨rfl,rfl⟩,fun h=>absurd rfl h⟩
  | cons y ys=>
    obtain⟨h1,h2⟩:=AT hc;obtain⟨h3,h4⟩:=St.HC h2;cases h4;exact⟨fun h=>(by cases h),fun _=>⟨h1,h3,rfl,rfl⟩⟩
 unfold Qp at hc;split at hc
 ·rename_i es f
  obtain⟨v',l',k1,k2,rfl⟩:=hv;obtain rfl:l'= []:=k2;cases hy:HW s sz (.l es f)with
  | none=>rw[hy]at hc;cases hc
  | some ys=>
    rw[hy]at hc;obtain⟨p1,p2⟩:=parts hc;refine main rfl rfl k1 hy p1 p2 fun k h0 h1=>?_
    simp only[RV]at k1;obtain⟨es',k3,rfl⟩:=k1;have hl:=(Eu.1 k3).len
    have he:ys=es:=by
     simp only[HW]at hy;exact(Option.some.inj (AT hy).2).symm
    subst he;unfold Hj;exact⟨fun e=>h0 (by rw[e]at hl;exact List.length_eq_zero_iff.1 hl.symm),fun e=>h1 fun e'=>e (by rw[e']at hl;exact List.length_eq_zero_iff.1 hl)⟩
 ·rename_i m len c
  obtain⟨v',l',k1,k2,rfl⟩:=hv;obtain rfl:l'= []:=k2;cases hy:HW s sz (.sl m len c)with
  | none=>rw[hy]at hc;cases hc
  | some ys=>
    rw[hy]at hc;obtain⟨p1,p2⟩:=parts (ys:=ys) hc;refine main rfl rfl k1 hy p1 p2 fun k h0 h1=>?_
    simp only[RV]at k1;obtain⟨m',k3,rfl⟩:=k1;unfold Hj;show k (.b false);by_cases e:ys= []
    ·exact h0 e false
    ·exact h1 e
 ·cases hc
end Go.Gl
namespace Go.Gl
open Go.Proofs
noncomputable def unO (o:EW):EW:=match o with| .MS x=> .box x| .Iy f a=> .call f a| .ZF x=> .mv x|o=>o
noncomputable def unR (r:AS):AS:=⟨r.1,unO r.2,r.3⟩
noncomputable def unD (d:CD):CD:=⟨d.1,unR d.2,d.3,d.4⟩
noncomputable def unB (c:AJ):AJ:=@AJ.rec (fun _=>AJ) .skip (fun ops=> .A2 (ops.map unR)) (fun l ops=> .BC l (ops.map unD)) (fun l _ _ a b=> .seq l a b) (fun c _ _ a b=> .cond c a b) (fun i _ a=> .block i a) (fun l _ a=> .loop l a) (fun i=> .exit i) .ret (fun _ a=> .scope a) (fun l g ps _ _ a b=> .Cg l g ps a b) c
theorem kT {f k:Nat} {a:AJ} {rs:List RS} {fn:Func} (hf:Tryz.prog.funcs[f]? =some fn) (hk:fn.ntmps=k:=by exact rfl) (hok:okF Tryz.prog f=true:=by kernel_rfl) (hb:fn.body.bind (res Tryz.prog fn.ntmps [] [])=some (erase a):=by kernel_rfl) (hr:MN Tryz.prog fn.results.toList=some rs:=by kernel_rfl):AV Tryz.prog f (.fn k a rs):=fun _ _ _ hn h=>Ez hf hok hb hr (hk ▸ hn) h
theorem kTz {f k:Nat} {a:AJ} {rs:List RS} {fn:Func} (hf:Tryz.prog.funcs[f]? =some fn) (hk:fn.ntmps=k:=by exact rfl) (hok:okF Tryz.prog f=true:=by kernel_rfl) (hb:fn.body.bind (res Tryz.prog fn.ntmps [] [])=some (erase a):=by kernel_rfl) (hr:MN Tryz.prog fn.results.toList=some rs:=by kernel_rfl):AV Tryz.prog f (.dB k a rs):=fun _ _ _ hn h=>Ez hf hok hb hr (hk ▸ hn) h
abbrev ae14:AJ:=(sr [] [BY 0 false] (sr [1] [oo 18 (.call 48 []),oo 1 (.alloc [(.l [] true),(.i .i64 0),(.l [] true),(.l [] true),(.l [] true),(.i .i64 0)]),oS 6 1 18] (sr [1,2] [oo 19 (.build [(.i .i64 0),(.i .i64 0)] [(0,1,(.c (.i .i64 3)))]),oo 2 (.alloc [(.i .i64 0),(.i .i64 0)]),oS 2 2 19] (sr [1,2,3,4] [BW 21 6 1,oo 22 (.call 12 [(.t 21),(.c (.i .i64 1)),(.c (.i .i64 0))]),oM 20 22,oX 23 0 20,oX 24 1 20,oM 3 23,oM 4 24] (sr [1,2,3,4,5,6] [BW 26 6 1,oo 27 (.call 12 [(.t 26),(.c (.i .i64 1)),(.c (.i .i64 2))]),oM 25 27,oX 28 0 25,oX 29 1 25,oM 5 28,oM 6 29] (sr [1,2,3,4,5,6,8] [BW 31 6 1,oo 32 (.call 12 [(.t 31),(.c (.i .i64 0)),(.c (.i .i64 3))]),oM 30 32,oX 33 0 30,oX 34 1 30,oM 7 33,oM 8 34] (.seq [1,2] (sr [1,2,51] [oM 35 3,oN 36 35,oM 37 36,B0 38 5 37,oQ 39 37 38,oM 40 39,B0 41 4 40,E5 42 .neq 41 0 40,oQ 43 40 42,oM 44 43,B0 45 6 44,E5 46 .neq 45 0 44,oQ 47 44 46,oM 48 47,B0 49 8 48,E5 50 .neq 49 7 48,oQ 51 48 50] (.cond (.t 51) (sr [0] [BY 0 false] .ret) .skip)) (sr [1,2,4,9] [BW 53 6 1,oo 54 (.build [(.i .i64 0),(.l [] true)] [(0,1,(.c (.i .i64 4)))]),oo 55 (.Am 2 1 [(.i .i64 0),(.l [] true)] [(0,(.t 54))]),BW 56 2 2,oo 57 (.Am 2 1 [(.i .i64 0),(.i .i64 0)] [(0,(.t 56))]),oo 58 (.call 20 [(.t 53),(.t 55),(.c (.i .i64 0)),(.t 57)]),oM 52 58,oX 59 0 52,oX 60 1 52,oo 9 (.alloc [(.l [] true),(.b false),(.l [] true),(.l [] true),(.b false),(.l [] true)]),oS 6 9 59,oM 4 60] (sr [1,4,6,9,10] [BW 62 6 1,oo 63 (.build [(.i .i64 0),(.l [] true)] [(0,1,(.c (.i .i64 6)))]),oo 64 (.Am 2 1 [(.i .i64 0),(.l [] true)] [(0,(.t 63))]),BW 65 2 2,oo 66 (.Am 2 1 [(.i .i64 0),(.i .i64 0)] [(0,(.t 65))]),oo 67 (.call 20 [(.t 62),(.t 64),(.c (.i .i64 0)),(.t 66)]),oM 61 67,oX 68 0 61,oX 69 1 61,oo 10 (.alloc [(.l [] true),(.b false),(.l [] true),(.l [] true),(.b false),(.l [] true)]),oS 6 10 68,oM 6 69] (sr [1,4,6,8,9,10] [BW 71 6 1,oo 72 (.build [(.i .i64 0),(.i .i64 0)] [(0,1,(.c (.i .i64 1)))]),oo 73 (.Am 2 1 [(.i .i64 0),(.i .i64 0)] [(0,(.t 72))]),oo 74 (.call 20 [(.t 71),(.c (.l [] true)),(.c (.i .i64 0)),(.t 73)]),oM 70 74,oX 75 0 70,oX 76 1 70,oM 8 76] (sr [1,4,6,8,9,10,11,12,13] [BW 78 6 1,oo 79 (.Am 1 3 [(.i .i64 0)] [(0,(.c (.i .i64 0))),(1,(.c (.i .i64 1))),(2,(.c (.i .i64 2)))]),CG 80 31 78 79,oM 77 80,oX 81 0 77,oX 82 1 77,oX 83 2 77,oM 11 81,oM 12 82,oM 13 83] (sr [1,4,6,8,9,10,11,12,13,14,15] [BW 85 6 1,oo 86 (.call 15 [(.t 85),(.c (.i .i64 0)),(.c (.i .i64 1))]),oM 84 86,oX 87 0 84,oX 88 1 84,oM 14 87,oM 15 88] (sr [4,6,8,9,10,11,12,13,14,15,16,17] [BW 90 6 1,oo 91 (.call 17 [(.t 90),(.c (.i .i64 0))]),oM 89 91,oX 92 0 89,oX 93 1 89,oM 16 92,oM 17 93] (.seq [9,10] (.seq [9,10,137] (.A2 (oM 94 4::Ak 95 .neq 94 0::oM 96 95::B0 97 6 96::E5 98 .neq 97 0 96::oQ 99 96 98::oM 100 99::B0 101 8 100::E5 102 .neq 101 5 100::oQ 103 100 102::oM 104 103::B0 105 13 104::E5 106 .neq 105 0 104::oQ 107 104 106::oM 108 107::B0 109 15 108::E5 110 .neq 109 0 108::oQ 111 108 110::oM 112 111::B0 113 17 112::E5 114 .neq 113 0 112::oQ 115 112 114::oM 116 115::B0 117 11 116::M3 118 117 116::E5 119 .neq 118 0 116::oQ 120 116 119::oM 121 120::B0 122 12 121::Ud 123 122 121::oQ 124 121 123::oM 125 124::B0 126 16 125::M3 127 126 125::E5 128 .neq 127 0 125::oQ 129 125 128::oM 130 129::B0 131 14 130::HR 132 (.build [(.i .i64 0),(.i .i64 0)] [(0,1,(.c (.i .i64 1))),(1,1,(.c (.i .i64 0)))]) 130::HR 133 (.build [(.i .i64 0),(.i .i64 0)] [(0,1,(.c (.i .i64 2))),(1,1,(.c (.i .i64 0)))]) 130::HR 134 (.Am 2 2 [(.i .i64 0),(.i .i64 0)] [(0,(.t 132)),(1,(.t 133))]) 130::HR 135 (.call 19 [(.t 131),(.t 134)]) 130::Ud 136 135 130::oQ 137 130 136:: [])) (.cond (.t 137) (sr [0] [BY 0 false] .ret) .skip)) (sr [0] [BW 138 6 9,oo 139 (.Am 1 2 [(.i .i64 0)] [(0,(.c (.i .i64 4))),(1,(.c (.i .i64 3)))]),oo 140 (.Am 1 2 [(.i .i64 0)] [(0,(.c (.i .i64 1))),(1,(.c (.i .i64 0)))]),oo 141 (.Am 1 2 [(.i .i64 0)] [(0,(.c (.i .i64 5))),(1,(.c (.i .i64 6)))]),oo 142 (.build [(.l [] true),(.b false),(.l [] true),(.l [] true),(.b false),(.l [] true)] [(2,1,(.t 139)),(3,1,(.t 140)),(5,1,(.t 141))]),CG 143 22 138 142,oM 144 143,QK 145 6 10 144,Cs 146 (.Am 1 2 [(.i .i64 0)] [(0,(.c (.i .i64 4))),(1,(.c (.i .i64 3)))]) 144,Cs 147 (.Am 1 2 [(.i .i64 0)] [(0,(.c (.i .i64 5))),(1,(.c (.i .i64 6)))]) 144,Cs 148 (.build [(.l [] true),(.b false),(.l [] true),(.l [] true),(.b false),(.l [] true)] [(2,1,(.t 146)),(4,1,(.c (.b true))),(5,1,(.t 147))]) 144,Cs 149 (.call 22 [(.t 145),(.t 148)]) 144,oP 150 144 149,oM 0 150] .ret)))))))))))))))
def xj:BD:= .fn 151 ae14 [.t 0]
theorem te:AV Tryz.prog 14 xj:=kT Tryz.func14
abbrev ae48:AJ:=(sr [0] [oo 0 (.alloc [(.l [] true),(.i .i64 0),(.l [] true),(.l [] true),(.l [] true),(.i .i64 0)])] (sr [0,1] [oo 5 (.build [(.l [] true),(.l [] true),(.l [] true)] []),oo 6 (.Am 1 1 [(.i .i64 0)] [(0,(.c (.i .i64 3)))]),oo 7 (.build [(.l [] true),(.l [] true),(.l [] true)] [(0,1,(.t 6))]),oo 8 (.Am 1 1 [(.i .i64 0)] [(0,(.c (.i .i64 3)))]),oo 9 (.build [(.l [] true),(.l [] true),(.l [] true)] [(0,1,(.t 8))]),oo 10 (.Am 1 2 [(.i .i64 0)] [(0,(.c (.i .i64 4))),(1,(.c (.i .i64 5)))]),oo 11 (.build [(.l [] true),(.l [] true),(.l [] true)] [(0,1,(.t 10))]),oo 12 (.Am 3 4 [(.l [] true),(.l [] true),(.l [] true)] [(0,(.t 5)),(1,(.t 7)),(2,(.t 9)),(3,(.t 11))]),oo 13 (.Am 1 1 [(.i .i64 0)] [(0,(.c (.i .i64 1)))]),oo 14 (.build [(.l [] true),(.i .i64 0),(.l [] true),(.l [] true),(.l [] true),(.i .i64 0)] [(0,1,(.t 12)),(2,1,(.t 13))]),oo 1 (.alloc [(.l [] true),(.i .i64 0),(.l [] true),(.l [] true),(.l [] true),(.i .i64 0)]),oS 6 1 14] (sr [0,1,2] [oo 15 (.Am 1 7 [(.i .i64 0)] [(0,(.c (.i .i64 1))),(1,(.c (.i .i64 1))),(2,(.c (.i .i64 1))),(3,(.c (.i .i64 2))),(4,(.c (.i .i64 2))),(5,(.c (.i .i64 3))),(6,(.c (.i .i64 3)))]),oM 2 15] (sr [0,1,2,3] [oo 16 (.call 74 [(.c (.i .i64 3))]),oo 17 (.call 74 [(.c (.i .i64 4))]),oo 18 (.call 74 [(.c (.i .i64 5))]),oo 19 (.build [(.i .i64 0),(.i .i64 0),(.l [] true),(.i .i64 0),(.i .i64 0),(.l [] true)] [(0,1,(.c (.i .i64 1)))]),oo 20 (.call 74 [(.c (.i .i64 4))]),oo 21 (.call 74 [(.c (.i .i64 3))]),oo 22 (.call 74 [(.c (.i .i64 4))]),oo 23 (.Am 6 7 [(.i .i64 0),(.i .i64 0),(.l [] true),(.i .i64 0),(.i .i64 0),(.l [] true)] [(0,(.t 16)),(1,(.t 17)),(2,(.t 18)),(3,(.t 19)),(4,(.t 20)),(5,(.t 21)),(6,(.t 22))]),oM 3 23] (.seq [0,1,2] (sr [0,1,2,3,4] [Bg 4 0] (.block 0 (.loop [0,1,2,3,4] (.seq [0,1,2,3,4] (sr [0,1,2,3,4,27] [oM 24 4,oM 25 2,oE 26 25,oG 27 .lss 24 26] (.cond (.t 27) .skip (.exit 0))) (.seq [0,1,2,3,4] (.block 1 (.seq [0,1,2,3,4] (.BC [0,1,2,3,4] [dO 0 (oF 30 3 1),dO 1 (oL 31 30),dO 2 (oM 32 2),dO 3 (oM 33 4),dO 4 (oI 34 1 32 33),dO 5 (oL 35 34),dO 6 (oM 36 3),dO 7 (oM 37 4),dO 8 (oI 38 6 36 37),dO 9 (BW 39 6 38),dO 10 (oM 40 4),dO 11 (oo 41 (.build [(.i .i64 0),(.i .i64 0),(.i .i64 0),(.i .i64 0),(.l [] true),(.i .i64 0),(.i .i64 0),(.l [] true),(.i .i64 0)] [(0,1,(.t 35)),(2,6,(.t 39)),(8,1,(.t 40))])),dO 12 (oo 42 (.Am 9 1 [(.i .i64 0),(.i .i64 0),(.i .i64 0),(.i .i64 0),(.l [] true),(.i .i64 0),(.i .i64 0),(.l [] true),(.i .i64 0)] [(0,(.t 41))])),dO 13 (oA 43 9 104 31 42),dO 14 (oF 44 3 1),dO 15 (oS 1 44 43)]) (.A2 [oF 45 4 1,oL 46 45,oo 47 (.build [(.i .i64 0),(.i .i64 0),(.l [] true)] [(0,1,(.c (.i .i64 2)))]),oo 48 (.Am 3 1 [(.i .i64 0),(.i .i64 0),(.l [] true)] [(0,(.t 47))]),oA 49 3 40 46 48,oF 50 4 1,oS 1 50 49]))) (.A2 [oM 28 4,Ak 29 .add 28 1,oM 4 29])))))) (sr [0,1,2] [oF 51 4 1,oL 52 51,oo 53 (.build [(.i .i64 0),(.i .i64 0),(.l [] true)] [(0,1,(.c (.i .i64 2)))]),oo 54 (.Am 3 1 [(.i .i64 0),(.i .i64 0),(.l [] true)] [(0,(.t 53))]),oA 55 3 40 52 54,oF 56 4 1,oS 1 56 55] (sr [0,1] [oM 57 2,oE 58 57,oF 59 5 1,oS 1 59 58] (sr [0] [BW 60 6 1,oS 6 0 60] .ret))))))))
def xX:BD:= .dB 61 ae48 [.c 0 (some 6)]
theorem tS:AV Tryz.prog 48 xX:=kTz Tryz.func48
abbrev ae12:AJ:=(sr [1,2,3] [oB 3 0,BY 6 false,Bg 7 0] (sr [1,2,8] [BW 9 6 3,oC 10 42 9,oM 8 10] (.seq [1,2,8] (sr [1,2,8,16] [oM 11 8,oM 12 1,oM 13 2,oo 14 (.Am 1 2 [(.i .i64 0)] [(0,(.t 12)),(1,(.t 13))]),CG 15 43 11 14,oN 16 15] (.cond (.t 16) (sr [6,7] [BY 6 false,Bg 7 2] .ret) .skip)) (.seq [1,2,8] (sr [1,2,8,21] [oM 17 8,oM 18 1,oM 19 2,QF 20 44 17 18 19,oN 21 20] (.cond (.t 21) (sr [6,7] [BY 6 false,Bg 7 7] .ret) .skip)) (sr [6,7] [oM 22 8,oM 23 1,oM 24 2,QF 25 45 22 23 24,oM 6 25,Bg 7 0] .ret)))))
def xk:BD:= .fn 26 ae12 [.t 6,.t 7]
theorem tf:AV Tryz.prog 12 xk:=kT Tryz.func12
abbrev ae20:AJ:=(sr [1,2,3,4,8] [oB 4 0,oo 8 (.alloc [(.l [] true),(.b false),(.l [] true),(.l [] true),(.b false),(.l [] true)]),Bg 9 0] (sr [1,2,3,8,10] [BW 13 6 4,oC 14 42 13,oM 10 14] (.seq [1,2,3,8,10] (sr [1,2,3,8,10,20] [oM 15 10,oM 16 1,oM 17 2,oM 18 3,QE 19 56 15 16 17 18,oN 20 19] (.cond (.t 20) (sr [8,9] [oo 21 (.build [(.l [] true),(.b false),(.l [] true),(.l [] true),(.b false),(.l [] true)] []),oS 6 8 21,Bg 9 2] .ret) .skip)) (sr [8,11,12] [oM 23 10,oM 24 10,oM 25 1,oM 26 2,oM 27 3,QE 28 58 24 25 26 27,CG 29 57 23 28,oM 22 29,oX 30 0 22,oX 31 1 22,oo 11 (.alloc [(.l [] true),(.b false),(.l [] true),(.l [] true),(.b false),(.l [] true)]),oS 6 11 30,oM 12 31] (.seq [8,11] (sr [8,11,33] [oM 32 12,oN 33 32] (.cond (.t 33) (sr [8,9] [oo 34 (.build [(.l [] true),(.b false),(.l [] true),(.l [] true),(.b false),(.l [] true)] []),oS 6 8 34,Bg 9 5] .ret) .skip)) (sr [8,9] [BW 35 6 11,oS 6 8 35,Bg 9 0] .ret))))))
def xf:BD:= .fn 36 ae20 [.c 8 (some 6),.t 9]
theorem ta:AV Tryz.prog 20 xf:=kT Tryz.func20
abbrev ae31:AJ:=(sr [1,2] [oB 2 0,FH 4,BY 5 false,Bg 6 0] (sr [1,7] [BW 10 6 2,oC 11 42 10,oM 7 11] (.seq [1,7] (sr [1,7,15] [oM 12 7,oM 13 1,oo 14 (.call 66 [(.t 12),(.t 13),(.c (.b true))]),oN 15 14] (.cond (.t 15) (sr [4,5,6] [FH 4,BY 5 false,Bg 6 2] .ret) .skip)) (sr [8,9] [oM 17 7,oM 18 1,CG 19 67 17 18,oM 16 19,oX 20 0 16,oX 21 1 16,oM 8 20,oM 9 21] (sr [4,5,6] [oM 22 8,oM 23 9,oM 4 22,oM 5 23,Bg 6 0] .ret)))))
def xc:BD:= .fn 24 ae31 [.t 4,.t 5,.t 6]
theorem tX:AV Tryz.prog 31 xc:=kT Tryz.func31
noncomputable abbrev ae15:=unB x7
noncomputable def xi:BD:= .fn 65 ae15 [.t 6,.t 7]
theorem td:AV Tryz.prog 15 xi:=kT Tryz.func15
noncomputable abbrev ae17:=unB x6
noncomputable def xh:BD:= .fn 53 ae17 [.t 4,.t 5]
theorem tc:AV Tryz.prog 17 xh:=kT Tryz.func17
abbrev ae19:AJ:=(sr [0,1] [BY 4 false] (.seq [0,1] (sr [0,1,10] [oM 6 0,oE 7 6,oM 8 1,oE 9 8,oG 10 .neq 7 9] (.cond (.t 10) (sr [4] [BY 4 false] .ret) .skip)) (.seq [] (sr [0,1,5] [Bg 5 0] (.block 0 (.loop [0,1,5] (.seq [0,1,5] (sr [0,1,5,14] [oM 11 5,oM 12 0,oE 13 12,oG 14 .lss 11 13] (.cond (.t 14) .skip (.exit 0))) (.seq [0,1,5] (.block 1 (.seq [0,1,5,25] (.BC [0,1,5,25] [dO 0 (oM 17 0),dO 1 (oM 18 5),dO 2 (oI 19 2 17 18),dO 3 (BW 20 2 19),dO 4 (oM 21 1),dO 5 (oM 22 5),dO 6 (oI 23 2 21 22),dO 7 (BW 24 2 23),dO 8 (oo 25 (.ZG 2 true (.t 20) (.t 24)))]) (.cond (.t 25) (sr [4] [BY 4 false] .ret) .skip))) (.A2 [oM 15 5,Ak 16 .add 15 1,oM 5 16])))))) (sr [4] [BY 4 true] .ret))))
def xg:BD:= .fn 26 ae19 [.t 4]
theorem tb:AV Tryz.prog 19 xg:=kT Tryz.func19
abbrev ae22:AJ:=(sr [2,3] [oB 2 0,oB 3 1,BY 4 false] (.seq [4] (.A2 (oF 5 0 2::oL 6 5::oF 7 0 3::oL 8 7::CG 9 30 6 8::oM 10 9::Bh 11 1 2 10::Av 12 11 10::Bh 13 1 3 10::Av 14 13 10::Cs 15 (.V5 false (.t 12) (.t 14)) 10::oP 16 10 15::oM 17 16::Bh 18 2 2 17::Av 19 18 17::Bh 20 2 3 17::Av 21 20 17::Cs 22 (.call 30 [(.t 19),(.t 21)]) 17::oP 23 17 22::oM 24 23::Bh 25 3 2 24::Av 26 25 24::Bh 27 3 3 24::Av 28 27 24::Cs 29 (.call 30 [(.t 26),(.t 28)]) 24::oP 30 24 29::oM 31 30::Bh 32 4 2 31::Av 33 32 31::Bh 34 4 3 31::Av 35 34 31::Cs 36 (.V5 false (.t 33) (.t 35)) 31::oP 37 31 36::oM 38 37::Bh 39 5 2 38::Av 40 39 38::Bh 41 5 3 38::Av 42 41 38::Cs 43 (.call 30 [(.t 40),(.t 42)]) 38::oP 44 38 43::oM 4 44:: [])) .ret))
def xe:BD:= .fn 45 ae22 [.t 4]
theorem tZ:AV Tryz.prog 22 xe:=kT Tryz.func22
abbrev ae74:AJ:=(sr [0,2] [oo 2 (.alloc [(.i .i64 0),(.i .i64 0),(.l [] true),(.i .i64 0),(.i .i64 0),(.l [] true)])] (sr [2] [oM 3 0,oo 4 (.build [(.i .i64 0),(.i .i64 0),(.l [] true),(.i .i64 0),(.i .i64 0),(.l [] true)] [(0,1,(.c (.i .i64 2))),(3,1,(.t 3))]),oS 6 2 4] .ret))
def xJ:BD:= .fn 5 ae74 [.c 2 (some 6)]
theorem tD:AV Tryz.prog 74 xJ:=kT Tryz.func74
noncomputable abbrev ae42:=unB x5
noncomputable def xb:BD:= .fn 17 ae42 [.t 2]
theorem tW:AV Tryz.prog 42 xb:=kT Tryz.func42
abbrev ae43:AJ:=(sr [1,2] [oB 2 0,BY 4 false] (sr [4] [oL 5 2,oo 6 (.UN 0 true (.t 5)),oM 7 6,Aw 8 1 7,Cs 9 (.GN (.func 73) [] [(.t 2)]) 7,Cs 10 (.call 72 [(.t 8),(.t 9)]) 7,Ik 11 10 7,oP 12 7 11,oM 4 12] .ret))
def xa:BD:= .fn 13 ae43 [.t 4]
theorem tV:AV Tryz.prog 43 xa:=kT Tryz.func43
abbrev ae44:=x4
def xZ:BD:= .fn 37 ae44 [.t 6]
theorem tU:AV Tryz.prog 44 xZ:=kT Tryz.func44
abbrev ae45:=x3
def xY:BD:= .fn 18 ae45 [.t 6]
theorem tT:AV Tryz.prog 45 xY:=kT Tryz.func45
abbrev ae56:AJ:=(sr [0,2,3,5] [oB 5 1,BY 8 false] (.seq [0,3,5] (sr [0,3,5,36] [oM 11 0,oM 12 2,CG 13 49 11 12,oN 14 13,oM 15 14,B0 16 3 15,M3 17 16 15,B0 18 0 15,HR 19 (.D5 (.t 18)) 15,EG 20 0 19 15,EG 21 2 20 15,DA 22 21 15,B0 23 2 15,ZR 24 1 22 23 15,DA 25 24 15,M0 26 .neq 17 25 15,oQ 27 15 26,oM 28 27,B0 29 3 28,HR 30 (.GN (.func 79) [] [(.t 5)]) 28,HR 31 (.call 78 [(.t 29),(.t 30)]) 28,M3 32 31 28,B0 33 3 28,M3 34 33 28,M0 35 .neq 32 34 28,oQ 36 28 35] (.cond (.t 36) (sr [8] [BY 8 false] .ret) .skip)) (.seq [10] (.BC [10] [dO 0 (oM 38 0),dO 1 (oK 39 38),dO 2 (oF 40 6 39),dO 3 (BW 41 2 40),dO 4 (oo 42 (.build [(.i .i64 0),(.i .i64 0),(.l [] true),(.i .i64 0),(.i .i64 0),(.l [] true)] [(0,1,(.c (.i .i64 1)))])),dO 5 (oL 43 5),dO 6 (oM 44 3),dO 7 (QE 45 81 41 42 43 44),dO 8 (oM 37 45),dO 9 (oX 46 0 37),dO 10 (oX 47 1 37),dO 11 (oM 9 46),dO 12 (oM 10 47)]) (sr [8] [oM 48 10,Ak 49 .eql 48 0,oM 8 49] .ret))))
def xS:BD:= .fn 50 ae56 [.t 8]
theorem tM:AV Tryz.prog 56 xS:=kT Tryz.func56
abbrev ae58:AJ:=(sr [2,4,5,7] [oB 4 0,oB 5 1,oB 7 3,FH 8] (sr [8] [oL 9 4,oM 10 2,CG 11 50 9 10,oC 12 84 11,oo 13 (.GN (.func 85) [] [(.t 4),(.t 5),(.t 7)]),CG 14 83 12 13,oM 8 14] .ret))
def xQ:BD:= .fn 15 ae58 [.t 8]
theorem tK:AV Tryz.prog 58 xQ:=kT Tryz.func58
abbrev ae57:AJ:=(sr [0,1,4] [oo 4 (.alloc [(.l [] true),(.b false),(.l [] true),(.l [] true),(.b false),(.l [] true)]),BY 5 false] (sr [0,1,4,6] [oo 6 (.alloc [(.l [] true),(.l [] true),(.l [] true),(.l [] true),(.l [] true)])] (.seq [0,4,6] (sr [0,4,6,11,12,13] [oM 11 1,oE 12 11,Bg 13 0] (.block 0 (.loop [0,4,6,11,12,13] (sr [0,4,6,11,12,13,14] [oG 14 .lss 13 12] (.seq [0,4,6,11,12,13] (.cond (.t 14) .skip (.exit 0)) (.seq [0,4,6,11,12,13] (.block 1 (sr [0,4,6,8,11,12,13] [oI 15 1 11 13,oL 16 15,oM 8 16] (sr [0,4,6,8,9,11,12,13] [oM 17 0,oK 18 17,oF 19 0 18,oF 20 3 19,oL 21 20,oM 22 8,oI 23 9 21 22,oF 24 0 23,oL 25 24,oM 9 25] (.A2 [oM 26 9,oM 27 9,oo 28 (.BG 1 (some 5) (.t 6) (.t 27)),oL 29 28,oM 30 8,oo 31 (.Am 1 1 [(.i .i64 0)] [(0,(.t 30))]),oA 32 1 8 29 31,oo 33 (.BG 1 (some 5) (.t 6) (.t 26)),oS 1 33 32])))) (.A2 [Ak 34 .add 13 1,oM 13 34]))))))) (sr [0,4,6,10] [oo 10 (.alloc [(.l [] true),(.b false),(.l [] true),(.l [] true),(.b false),(.l [] true)])] (.seq [0,4,6,10] (sr [0,4,6,10,38] [oo 35 (.BG 1 (some 5) (.t 6) (.c (.i .i64 1))),oL 36 35,oE 37 36,Ak 38 .eql 37 0] (.cond (.t 38) (sr [4,5] [BW 39 6 10,oS 6 4 39,BY 5 false] .ret) .skip)) (sr [0,4,6,10] [oM 41 0,oo 42 (.BG 1 (some 5) (.t 6) (.c (.i .i64 4))),oL 43 42,CG 44 67 41 43,oM 40 44,oX 45 0 40,oX 46 1 40,oF 47 0 10,oS 1 47 45,oF 48 1 10,oS 1 48 46] (sr [0,4,6,10] [oM 49 0,oo 50 (.BG 1 (some 5) (.t 6) (.c (.i .i64 2))),oL 51 50,CG 52 69 49 51,oF 53 2 10,oS 1 53 52] (sr [0,4,6,10] [oM 55 0,oo 56 (.BG 1 (some 5) (.t 6) (.c (.i .i64 1))),oL 57 56,CG 58 67 55 57,oM 54 58,oX 59 0 54,oX 60 1 54,oF 61 3 10,oS 1 61 59,oF 62 4 10,oS 1 62 60] (sr [4,10] [oM 63 0,oo 64 (.BG 1 (some 5) (.t 6) (.c (.i .i64 3))),oL 65 64,CG 66 69 63 65,oF 67 5 10,oS 1 67 66] (sr [4,10] [oF 68 5 10,oL 69 68,oC 70 82 69] (sr [4,5] [BW 71 6 10,oS 6 4 71,BY 5 true] .ret)))))))))))
def xR:BD:= .fn 72 ae57 [.c 4 (some 6),.t 5]
theorem tL:AV Tryz.prog 57 xR:=kT Tryz.func57
abbrev ae66:AJ:=(sr [0,1,2] [BY 6 false] (.seq [0,1,2] (sr [0,1,2,13] [oM 10 0,oM 11 1,CG 12 43 10 11,oN 13 12] (.cond (.t 13) (sr [6] [BY 6 false] .ret) .skip)) (sr [0,1,2,7] [oo 14 (.Fw),oM 7 14] (.seq [] (sr [0,1,2,7,15,16,17] [oM 15 1,oE 16 15,Bg 17 0] (.block 0 (.loop [0,1,2,7,15,16,17] (sr [0,1,2,7,15,16,17,18] [oG 18 .lss 17 16] (.seq [0,1,2,7,15,16,17] (.cond (.t 18) .skip (.exit 0)) (.seq [0,1,2,7,15,16,17] (.block 1 (sr [0,1,2,7,9,15,16,17] [oI 19 1 15 17,oL 20 19,oM 9 20] (.seq [0,1,2,7,9,15,16,17] (.seq [0,1,2,7,9,15,16,17,58] (.BC [0,1,2,7,9,15,16,17,58] (dO 0 (oM 21 7)::dO 1 (oM 22 9)::dO 2 (oo 23 (.lookup (.i .i64) (.b false) false (.t 21) (.t 22)))::dO 3 (oM 24 23)::dO 4 (B0 25 0 24)::dO 5 (HR 26 (.D5 (.t 25)) 24)::dO 6 (EG 27 0 26 24)::dO 7 (EG 28 3 27 24)::dO 8 (DA 29 28 24)::dO 9 (B0 30 9 24)::dO 10 (ZR 31 9 29 30 24)::dO 11 (EG 32 1 31 24)::dO 12 (DA 33 32 24)::dO 13 (B0 34 0 24)::dO 14 (HR 35 (.D5 (.t 34)) 24)::dO 15 (EG 36 0 35 24)::dO 16 (EG 37 3 36 24)::dO 17 (DA 38 37 24)::dO 18 (B0 39 1 24)::dO 19 (HR 40 (.BG 1 none (.t 39) (.c (.i .i64 0))) 24)::dO 20 (DA 41 40 24)::dO 21 (ZR 42 9 38 41 24)::dO 22 (EG 43 1 42 24)::dO 23 (DA 44 43 24)::dO 24 (M0 45 .neq 33 44 24)::dO 25 (oQ 46 24 45)::dO 26 (oM 47 46)::dO 27 (B0 48 2 47)::dO 28 (B0 49 48 47)::dO 29 (Aw 50 0 49)::dO 30 (Aw 51 9 49)::dO 31 (Aw 52 1 49)::dO 32 (Cs 53 (.BG 1 none (.t 52) (.c (.i .i64 0))) 49)::dO 33 (Av 54 53 49)::dO 34 (Cs 55 (.call 44 [(.t 50),(.t 51),(.t 54)]) 49)::dO 35 (Ik 56 55 49)::dO 36 (HR 57 (.pick (.t 49) (.t 56) (.c (.b false))) 47)::dO 37 (oQ 58 47 57):: [])) (.cond (.t 58) (sr [6] [BY 6 false] .ret) .skip)) (.A2 [oM 59 7,oM 60 9,⟨none,.Cw (.i .i64) (.t 59) (.t 60) (.c (.b true)),none⟩])))) (.A2 [Ak 61 .add 17 1,oM 17 61]))))))) (sr [6] [BY 6 true] .ret)))))
def xP:BD:= .fn 62 ae66 [.t 6]
theorem tJ:AV Tryz.prog 66 xP:=kT Tryz.func66
abbrev ae67:AJ:=(sr [0,1] [FH 4,BY 5 false] (.scope (sr [0,1,6] [FH 6] (.seq [0,1,6] .skip (.seq [6] (.block 0 (.loop [0,1,6] (.seq [0,1,6] (sr [0,1,6,13] [oM 11 1,oE 12 11,Ak 13 .gtr 12 0] (.cond (.t 13) .skip (.exit 0))) (.block 1 (.scope (.seq [0,1,6] .skip (.seq [6] (sr [0,1,6,14,15,16] [oM 14 1,oE 15 14,Bg 16 0] (.block 2 (.loop [0,1,6,14,15,16] (sr [0,1,6,14,15,16,17] [oG 17 .lss 16 15] (.seq [0,1,6,14,15,16] (.cond (.t 17) .skip (.exit 2)) (.seq [0,1,6,14,15,16] (.block 3 (sr [0,1,6,8,14,15,16] [oI 18 1 14 16,oL 19 18,oM 8 19] (.seq [0,1,6,8] (sr [0,1,6,8,14,15,16,20,21,22] [oM 20 1,oE 21 20,Bg 22 0] (.block 4 (.loop [0,1,6,8,14,15,16,20,21,22] (sr [0,1,6,8,14,15,16,20,21,22,23] [oG 23 .lss 22 21] (.seq [0,1,6,8,14,15,16,20,21,22] (.cond (.t 23) .skip (.exit 4)) (.seq [0,1,6,8,14,15,16,20,21,22] (.block 5 (sr [0,1,6,8,10,14,15,16,20,21,22] [oI 24 1 20 22,oL 25 24,oM 10 25] (sr [0,1,6,8,14,15,16,20,21,22,35] [oM 26 8,oM 27 10,oG 28 .neq 26 27,oM 29 28,Aw 30 0 29,Aw 31 8 29,Aw 32 10 29,Cs 33 (.call 45 [(.t 30),(.t 31),(.t 32)]) 29,Ik 34 33 29,oP 35 29 34] (.cond (.t 35) (.exit 3) .skip)))) (.A2 [Ak 36 .add 22 1,oM 22 36]))))))) (sr [0,1,6,8] [oM 37 6,oM 38 8,oo 39 (.Am 1 1 [(.i .i64 0)] [(0,(.t 38))]),oA 40 1 8 37 39,oM 6 40] (sr [0,1,6] [oM 41 1,oM 42 8,CG 43 98 41 42,oM 1 43] (.exit 1)))))) (.A2 [Ak 44 .add 16 1,oM 16 44]))))))) (sr [4,5] [oM 45 6,oC 46 99 45,oM 4 46,BY 5 true] .ret)))))))) (sr [4,5] [oM 47 6,oC 48 99 47,oM 4 48,BY 5 false] .ret))))))
def xO:BD:= .fn 49 ae67 [.t 4,.t 5]
theorem tI:AV Tryz.prog 67 xO:=kT Tryz.func67
abbrev ae49:=xz
def xW:BD:= .fn 21 ae49 [.t 4]
theorem tR:AV Tryz.prog 49 xW:=kT Tryz.func49
noncomputable abbrev ae50:=unB xy
noncomputable def xV:BD:= .fn 6 ae50 [.t 4]
theorem tQ:AV Tryz.prog 50 xV:=kT Tryz.func50
abbrev ae51:=rU
def xU:BD:= .fn 9 ae51 [.t 2]
theorem tP:AV Tryz.prog 51 xU:=kT Tryz.func51
abbrev ae54:=xx
def xT:BD:= .fn 57 ae54 [.t 6]
theorem tN:AV Tryz.prog 54 xT:=kT Tryz.func54
abbrev ae30:=Zq
def xd:BD:= .fn 26 ae30 [.t 4]
theorem tY:AV Tryz.prog 30 xd:=kT Tryz.func30
noncomputable abbrev ae71:=unB xw
noncomputable def xM:BD:= .fn 10 ae71 [.c 2 (some 2),.t 3]
theorem tG:AV Tryz.prog 71 xM:=kT Tryz.func71
abbrev ae73:AJ:=(sr [0,1] [BY 3 false] (sr [3] [oM 4 0,Ak 5 .lss 4 0,oM 6 5,B0 7 0 6,DA 8 1 6,HR 9 (.D5 (.t 8)) 6,EG 10 0 9 6,EG 11 3 10 6,DA 12 11 6,M3 13 12 6,M0 14 .geq 7 13 6,oQ 15 6 14,oM 3 15] .ret))
def xK:BD:= .fn 16 ae73 [.t 3]
theorem tE:AV Tryz.prog 73 xK:=kT Tryz.func73
abbrev ae72:=xv
def xL:BD:= .fn 9 ae72 [.t 4]
theorem tF:AV Tryz.prog 72 xL:=kT Tryz.func72
abbrev ae79:AJ:=(sr [1,2] [oB 2 0,BY 3 false] (sr [3] [BW 4 2 2,oL 5 1,oE 6 5,CG 7 80 4 6,oM 3 7] .ret))
def xE:BD:= .fn 8 ae79 [.t 3]
theorem s9:AV Tryz.prog 79 xE:=kT Tryz.func79
abbrev ae78:AJ:=(sr [0,1] [FH 4] (sr [0,1,5] [FH 5] (.seq [5] (sr [1,5,8,9,10] [oM 8 0,oE 9 8,Bg 10 0] (.block 0 (.loop [1,5,8,9,10] (sr [1,5,8,9,10,11] [oG 11 .lss 10 9] (.seq [1,5,8,9,10] (.cond (.t 11) .skip (.exit 0)) (.seq [1,5,8,9,10] (.block 1 (sr [1,5,7,8,9,10] [oI 12 2 8 10,BW 13 2 12,oo 7 (.alloc [(.i .i64 0),(.i .i64 0)]),oS 2 7 13] (sr [1,5,7,8,9,10,16] [oM 14 1,BW 15 2 7,oo 16 (.Bs (.t 14) [(.t 15)])] (.cond (.t 16) (.A2 [oM 17 5,BW 18 2 7,oo 19 (.Am 2 1 [(.i .i64 0),(.i .i64 0)] [(0,(.t 18))]),oA 20 2 16 17 19,oM 5 20]) .skip)))) (.A2 [Ak 21 .add 10 1,oM 10 21]))))))) (sr [4] [oM 22 5,oC 23 114 22,oM 4 23] .ret))))
def xG:BD:= .fn 24 ae78 [.t 4]
theorem tA:AV Tryz.prog 78 xG:=kT Tryz.func78
abbrev ae81:AJ:=(sr [2,3,4,5] [oB 4 0,oB 5 1,BY 8 false,Bg 9 0] (sr [2,3,5,10,11] [BW 13 2 4,BW 14 6 5,oo 15 (.Am 6 1 [(.i .i64 0),(.i .i64 0),(.l [] true),(.i .i64 0),(.i .i64 0),(.l [] true)] [(0,(.t 14))]),CG 16 109 13 15,oM 12 16,oX 17 0 12,oX 18 1 12,oM 10 17,oM 11 18] (.seq [2,3,5,10] (sr [2,3,5,10,34] [oM 19 11,oN 20 19,oM 21 20,B0 22 10 21,B0 23 2 21,B0 24 3 21,HR 25 (.call 115 [(.t 22),(.t 23),(.t 24)]) 21,Ud 26 25 21,oQ 27 21 26,oM 28 27,rG 29 6 5 28,HR 30 (.call 116 [(.t 29)]) 28,B0 31 3 28,M3 32 31 28,M0 33 .gtr 30 32 28,oQ 34 28 33] (.cond (.t 34) (sr [8,9] [BY 8 false,Bg 9 2] .ret) .skip)) (sr [8,9] [oM 35 10,BW 36 6 5,oM 37 2,oM 38 3,QE 39 117 35 36 37 38,oM 8 39,Bg 9 0] .ret))))
def xC:BD:= .fn 40 ae81 [.t 8,.t 9]
theorem s7:AV Tryz.prog 81 xC:=kT Tryz.func81
abbrev ae84:AJ:=(sr [0] [FH 2] (sr [2] [oM 3 0,oo 4 (.call 118 [(.c (.l [] true)),(.t 3)]),oM 2 4] .ret))
def w9:BD:= .fn 5 ae84 [.t 2]
theorem s4:AV Tryz.prog 84 w9:=kT Tryz.func84
abbrev ae85:AJ:=(sr [0,1,2,3] [BY 5 false] (.seq [6,7] (.BC [6,7] [dO 0 (oL 9 1),dO 1 (oK 10 9),dO 2 (oF 11 6 10),dO 3 (BW 12 2 11),dO 4 (oL 13 1),dO 5 (oK 14 13),dO 6 (oF 15 0 14),dO 7 (oF 16 3 15),dO 8 (oL 17 16),dO 9 (oM 18 0),dO 10 (oI 19 9 17 18),dO 11 (oF 20 2 19),dO 12 (BW 21 6 20),dO 13 (oL 22 2),dO 14 (oL 23 3),dO 15 (QE 24 81 12 21 22 23),dO 16 (oM 8 24),dO 17 (oX 25 0 8),dO 18 (oX 26 1 8),dO 19 (oM 6 25),dO 20 (oM 7 26)]) (sr [5] [oM 27 6,oM 28 27,Aw 29 7 28,EX 30 .eql 29 0 28,oP 31 28 30,oM 5 31] .ret)))
def w8:BD:= .fn 32 ae85 [.t 5]
theorem sy:AV Tryz.prog 85 w8:=kT Tryz.func85
abbrev ae83:AJ:=(sr [0,1] [FH 4] (sr [0,1,5] [FH 5] (.seq [5] (sr [1,5,8,9,10] [oM 8 0,oE 9 8,Bg 10 0] (.block 0 (.loop [1,5,8,9,10] (sr [1,5,8,9,10,11] [oG 11 .lss 10 9] (.seq [1,5,8,9,10] (.cond (.t 11) .skip (.exit 0)) (.seq [1,5,8,9,10] (.block 1 (sr [1,5,7,8,9,10] [oI 12 1 8 10,oL 13 12,oM 7 13] (sr [1,5,7,8,9,10,16] [oM 14 1,oM 15 7,oo 16 (.Bs (.t 14) [(.t 15)])] (.cond (.t 16) (.A2 [oM 17 5,oM 18 7,oo 19 (.Am 1 1 [(.i .i64 0)] [(0,(.t 18))]),oA 20 1 8 17 19,oM 5 20]) .skip)))) (.A2 [Ak 21 .add 10 1,oM 10 21]))))))) (sr [4] [oM 22 5,oC 23 99 22,oM 4 23] .ret))))
def xA:BD:= .fn 24 ae83 [.t 4]
theorem s5:AV Tryz.prog 83 xA:=kT Tryz.func83
abbrev ae69:AJ:=(sr [2,3] [oB 2 0,oB 3 1,FH 4] (sr [2,3] [oL 8 3,oC 9 102 8,oC 10 101 9,oS 1 3 10] (sr [2,3,5] [FH 5] (.seq [5] (.block 0 (.loop [2,3,5] (.seq [2,3,5] (sr [2,3,5,13] [oL 11 3,oE 12 11,Ak 13 .gtr 12 0] (.cond (.t 13) .skip (.exit 0))) (.block 1 (sr [2,3,5,6] [oL 14 3,oo 15 (.GN (.func 104) [] [(.t 3),(.t 2)]),CG 16 103 14 15,oM 6 16] (sr [2,3,5,7] [oL 17 3,oM 18 6,oI 19 1 17 18,oL 20 19,oM 7 20] (sr [2,3,5,7] [oM 21 5,oM 22 7,oo 23 (.Am 1 1 [(.i .i64 0)] [(0,(.t 22))]),oA 24 1 8 21 23,oM 5 24] (.A2 [oL 25 3,oM 26 7,CG 27 98 25 26,oS 1 3 27])))))))) (sr [4] [oM 28 5,oC 29 99 28,oM 4 29] .ret)))))
def xN:BD:= .fn 30 ae69 [.t 4]
theorem tH:AV Tryz.prog 69 xN:=kT Tryz.func69
abbrev ae82:AJ:=(sr [0,2,3] [oM 4 0,oE 5 4,Ak 6 .sub 5 1,Bg 2 0,oM 3 6] (.block 0 (.loop [0,2,3] (.seq [0,2,3] (sr [0,2,3,9] [oM 7 2,oM 8 3,oG 9 .lss 7 8] (.cond (.t 9) .skip (.exit 0))) (.seq [0,2,3] (.block 1 (.BC [0,2,3] [dO 0 (oM 14 0),dO 1 (oM 15 2),dO 2 (oM 16 0),dO 3 (oM 17 3),dO 4 (oM 18 0),dO 5 (oM 19 3),dO 6 (oI 20 1 18 19),dO 7 (oL 21 20),dO 8 (oM 22 0),dO 9 (oM 23 2),dO 10 (oI 24 1 22 23),dO 11 (oL 25 24),dO 12 (oI 26 1 14 15),dO 13 (oS 1 26 21),dO 14 (oI 27 1 16 17),dO 15 (oS 1 27 25)])) (.A2 [oM 10 2,Ak 11 .add 10 1,oM 12 3,Ak 13 .sub 12 1,oM 2 11,oM 3 13]))))))
def xB:BD:= .fn 28 ae82 []
theorem s6:AV Tryz.prog 82 xB:=kT Tryz.func82
abbrev ae98:AJ:=(sr [0,3] [oB 3 1,FH 4] (sr [4] [oM 5 0,oo 6 (.GN (.func 132) [] [(.t 3)]),CG 7 83 5 6,oM 4 7] .ret))
def w7:BD:= .fn 8 ae98 [.t 4]
theorem sx:AV Tryz.prog 98 w7:=kT Tryz.func98
abbrev ae99:=Zr
def wz:BD:= .fn 9 ae99 [.t 2]
theorem sw:AV Tryz.prog 99 wz:=kT Tryz.func99
abbrev ae75:=xu
def xI:BD:= .fn 28 ae75 []
theorem tC:AV Tryz.prog 75 xI:=kT Tryz.func75
noncomputable abbrev ae76:=unB xr
noncomputable def xH:BD:= .fn 24 ae76 [.t 6,.t 7]
theorem tB:AV Tryz.prog 76 xH:=kT Tryz.func76
noncomputable abbrev AA6:=unB qj
noncomputable def oT:BD:= .fn 12 AA6 [.t 2]
theorem jY:AV Tryz.prog 107 oT:=kT Tryz.func107
noncomputable abbrev AA5:=unB qi
noncomputable def oR:BD:= .dB 32 AA5 [.c 2 (some 2)]
theorem jX:AV Tryz.prog 108 oR:=kTz Tryz.func108
abbrev AA9:=ql
def oW:BD:= .fn 19 AA9 [.t 4]
theorem jb:AV Tryz.prog 103 oW:=kT Tryz.func103
abbrev ae80:AJ:=(sr [1,2] [oB 2 0,BY 4 false] (.seq [] (sr [1,2,6] [oF 5 0 2,oL 6 5] (.block 0 (sr [1,2,6,7] [Ak 8 .eql 6 1,oM 7 8] (.cond (.t 7) (sr [4] [oF 9 1 2,oL 10 9,Ak 11 .geq 10 (-1000000000),oM 12 11,Bh 13 1 2 12,Av 14 13 12,EX 15 .leq 14 1000000000 12,oP 16 12 15,oM 4 16] .ret) (sr [1,2,6,17] [Ak 18 .eql 6 2,oM 17 18] (.cond (.t 17) (sr [4] [oF 19 1 2,oL 20 19,Ak 21 .eql 20 0,oM 4 21] .ret) (sr [1,2,22] [Ak 23 .eql 6 3,oM 22 23] (.cond (.t 22) (sr [4] [oF 24 1 2,oL 25 24,Ak 26 .geq 25 0,oM 27 26,Bh 28 1 2 27,Av 29 28 27,Aw 30 1 27,F8 31 .lss 29 30 27,oP 32 27 31,oM 4 32] .ret) .skip)))))))) (sr [4] [BY 4 false] .ret)))
def xD:BD:= .fn 33 ae80 [.t 4]
theorem s8:AV Tryz.prog 80 xD:=kT Tryz.func80
abbrev AA2:=rU
def oH:BD:= .fn 9 AA2 [.t 2]
theorem jU:AV Tryz.prog 114 oH:=kT Tryz.func114
noncomputable abbrev AA4:=unB qh
noncomputable def oO:BD:= .fn 20 AA4 [.t 4,.t 5]
theorem jW:AV Tryz.prog 109 oO:=kT Tryz.func109
abbrev AA1:AJ:=(sr [0,2,4] [oB 4 1,BY 6 false] (sr [6] [oM 7 0,oL 8 4,CG 9 146 7 8,oM 10 9,Aw 11 2 10,Jn 12 11 10,EX 13 .geq 12 1 10,oP 14 10 13,oM 15 14,Aw 16 2 15,Jn 17 16 15,EX 18 .leq 17 3 15,oP 19 15 18,oM 20 19,Aw 21 2 20,Cs 22 (.GN (.func 148) [] [(.t 4)]) 20,Cs 23 (.call 147 [(.t 21),(.t 22)]) 20,oP 24 20 23,oM 6 24] .ret))
def oD:BD:= .fn 25 AA1 [.t 6]
theorem jT:AV Tryz.prog 115 oD:=kT Tryz.func115
abbrev AA0:AJ:=(sr [1] [oB 1 0,Bg 2 0] (sr [1,3] [Bg 3 0] (.seq [1,3] (sr [1,3,7] [BW 6 6 1,oC 7 150 6] (.cond (.t 7) (.A2 [oF 8 1 1,oL 9 8,Ak 10 .add 9 1,oM 3 10]) .skip)) (.seq [3] (sr [3,12,13,14] [oF 11 5 1,oL 12 11,oE 13 12,Bg 14 0] (.block 0 (.loop [3,12,13,14] (sr [3,12,13,14,15] [oG 15 .lss 14 13] (.seq [3,12,13,14] (.cond (.t 15) .skip (.exit 0)) (.seq [3,12,13,14] (.block 1 (sr [3,5,12,13,14] [oI 16 6 12 14,BW 17 6 16,oo 5 (.alloc [(.i .i64 0),(.i .i64 0),(.l [] true),(.i .i64 0),(.i .i64 0),(.l [] true)]),oS 6 5 17] (.A2 [oM 18 3,BW 19 6 5,oC 20 116 19,oo 21 (.MP (.t 18) (.t 20)),oM 3 21]))) (.A2 [Ak 22 .add 14 1,oM 14 22]))))))) (sr [2] [oM 23 3,oM 2 23] .ret)))))
def n9:BD:= .fn 24 AA0 [.t 2]
theorem jS:AV Tryz.prog 116 n9:=kT Tryz.func116
abbrev AAz:AJ:=(sr [0,2,3,5] [oB 5 1,BY 8 false] (.seq [0,2,3,5] (sr [0,2,3,5,12] [oF 11 0 5,oL 12 11] (.block 0 (sr [0,2,3,5,12,13] [Ak 14 .eql 12 1,oM 13 14] (.cond (.t 13) (sr [8] [BY 8 true] .ret) (sr [0,2,3,5,12,15] [Ak 16 .eql 12 5,oM 15 16] (.cond (.t 15) (sr [8] [oM 17 0,oF 18 5 5,oL 19 18,oo 20 (.BG 6 none (.t 19) (.c (.i .i64 0))),BW 21 6 20,oM 22 2,oM 23 3,QE 24 117 17 21 22 23,oN 25 24,oM 8 25] .ret) (sr [0,2,3,5,12,26] [Ak 27 .eql 12 6,oM 26 27] (.cond (.t 26) (sr [8] [oM 28 0,oF 29 5 5,oL 30 29,oo 31 (.BG 6 none (.t 30) (.c (.i .i64 0))),BW 32 6 31,oM 33 2,oM 34 3,QE 35 117 28 32 33 34,oM 36 35,Aw 37 0 36,Bh 38 5 5 36,Av 39 38 36,Cs 40 (.BG 6 none (.t 39) (.c (.i .i64 1))) 36,QK 41 6 40 36,Aw 42 2 36,Aw 43 3 36,Cs 44 (.call 117 [(.t 37),(.t 41),(.t 42),(.t 43)]) 36,oP 45 36 44,oM 8 45] .ret) (sr [0,2,3,5,46] [Ak 47 .eql 12 7,oM 46 47] (.cond (.t 46) (sr [8] [oM 48 0,oF 49 5 5,oL 50 49,oo 51 (.BG 6 none (.t 50) (.c (.i .i64 0))),BW 52 6 51,oM 53 2,oM 54 3,QE 55 117 48 52 53 54,oM 56 55,B0 57 0 56,EG 58 5 5 56,DA 59 58 56,HR 60 (.BG 6 none (.t 59) (.c (.i .i64 1))) 56,rG 61 6 60 56,B0 62 2 56,B0 63 3 56,HR 64 (.call 117 [(.t 57),(.t 61),(.t 62),(.t 63)]) 56,oQ 65 56 64,oM 8 65] .ret) .skip)))))))))) (.seq [0,2,5,9,10] (.BC [0,2,5,9,10] [dO 0 (oM 67 0),dO 1 (oM 68 2),dO 2 (oM 69 3),dO 3 (oF 70 1 5),dO 4 (oL 71 70),dO 5 (oI 72 2 69 71),dO 6 (BW 73 2 72),dO 7 (oF 74 2 5),dO 8 (oL 75 74),dO 9 (QE 76 151 67 68 73 75),dO 10 (oM 66 76),dO 11 (oX 77 0 66),dO 12 (oX 78 1 66),dO 13 (oo 9 (.alloc [(.i .i64 0),(.i .i64 0)])),dO 14 (oS 2 9 77),dO 15 (oM 10 78)]) (.seq [0,5,9] (.block 1 (sr [0,2,5,9,79] [oM 80 10,oN 81 80,oM 79 81] (.cond (.t 79) (sr [8] [BY 8 false] .ret) (sr [0,2,5,9,82] [oF 83 0 5,oL 84 83,Ak 85 .neq 84 2,oM 82 85] (.cond (.t 82) (sr [8] [oF 86 0 9,oL 87 86,Ak 88 .eql 87 1,oM 89 88,Bh 90 1 9 89,Av 91 90 89,Bh 92 4 5 89,Av 93 92 89,F8 94 .eql 91 93 89,Bh 95 0 5 89,Av 96 95 89,EX 97 .eql 96 4 89,Cs 98 (.V5 false (.t 94) (.t 97)) 89,oP 99 89 98,oM 100 99,Bh 101 1 9 100,Av 102 101 100,Bh 103 4 5 100,Av 104 103 100,F8 105 .leq 102 104 100,oP 106 100 105,oM 8 106] .ret) (sr [0,2,5,9,107] [oF 108 0 9,oL 109 108,Ak 110 .eql 109 3,oM 107 110] (.cond (.t 107) (.seq [8] (.BC [8] [dO 0 (oM 111 0),dO 1 (oM 112 2),dO 2 (oF 113 1 9),dO 3 (oL 114 113),dO 4 (oI 115 2 112 114),dO 5 (oF 116 0 115),dO 6 (oL 117 116),dO 7 (oK 118 111),dO 8 (oF 119 2 118),dO 9 (oo 120 (.BG 1 (some 63) (.t 119) (.t 117))),dO 10 (oL 121 120),dO 11 (oF 122 3 5),dO 12 (oL 123 122),dO 13 (CG 124 152 121 123),dO 14 (oM 8 124)]) .ret) .skip))))))) (.seq [8] (.BC [8] [dO 0 (oM 125 0),dO 1 (oF 126 0 9),dO 2 (oL 127 126),dO 3 (oK 128 125),dO 4 (oF 129 2 128),dO 5 (oo 130 (.BG 1 (some 63) (.t 129) (.t 127))),dO 6 (oL 131 130),dO 7 (oF 132 3 5),dO 8 (oL 133 132),dO 9 (CG 134 152 131 133),dO 10 (oM 8 134)]) .ret)))))
def n8:BD:= .fn 135 AAz [.t 8]
theorem jR:AV Tryz.prog 117 n8:=kT Tryz.func117
abbrev AAy:AJ:=(sr [1,2] [oB 2 0,FH 4] (.seq [2] (sr [2,6] [oM 6 1] (.block 0 (.Cg [2] (.t 6) [7] (.A2 [oM 5 7]) (.block 1 (.A2 [oL 8 2,oM 9 5,oo 10 (.Am 1 1 [(.i .i64 0)] [(0,(.t 9))]),oA 11 1 8 8 10,oS 1 2 11]))))) (sr [4] [oL 12 2,oM 4 12] .ret)))
def n6:BD:= .fn 13 AAy [.t 4]
theorem jQ:AV Tryz.prog 118 n6:=kT Tryz.func118
abbrev ABA:AJ:=(sr [1] [oB 1 0,oo 2 (.mv (.c .GP))] (sr [2] [oo 3 (.GN (.func 136) [] [(.t 1)]),oM 2 3] .ret))
def oY:BD:= .fn 4 ABA [.t 2]
theorem jc:AV Tryz.prog 102 oY:=kT Tryz.func102
abbrev ABB:AJ:=(sr [0] [FH 2] (sr [3] [oM 4 0,oC 5 84 4,oM 3 5] (sr [3] [oM 6 3,oC 7 135 6] (sr [2] [oM 8 3,oM 2 8] .ret))))
def oZ:BD:= .fn 9 ABB [.t 2]
theorem jd:AV Tryz.prog 101 oZ:=kT Tryz.func101
abbrev AA8:AJ:=(sr [1,2,3] [oB 3 0,BY 4 false] (sr [4] [oL 5 1,oo 6 (.GN (.func 105) [] [(.t 2),(.t 3)]),CG 7 72 5 6,oN 8 7,oM 4 8] .ret))
def oV:BD:= .fn 9 AA8 [.t 4]
theorem ja:AV Tryz.prog 104 oV:=kT Tryz.func104
abbrev AAx:=Zp
def n4:BD:= .fn 7 AAx [.t 3]
theorem jP:AV Tryz.prog 132 n4:=kT Tryz.func132
noncomputable abbrev AA3:=unB qg
noncomputable def oJ:BD:= .fn 14 AA3 [.t 6]
theorem jV:AV Tryz.prog 110 oJ:=kT Tryz.func110
noncomputable abbrev AAu:=unB qe
noncomputable def nv:BD:= .fn 10 AAu [.t 2,.t 3]
theorem jM:AV Tryz.prog 137 nv:=kT Tryz.func137
noncomputable abbrev AAt:=unB qd
noncomputable def nu:BD:= .dB 6 AAt [.t 2]
theorem jL:AV Tryz.prog 138 nu:=kTz Tryz.func138
noncomputable abbrev AAs:=unB qc
noncomputable def nt:BD:= .dB 91 AAs [.t 2,.t 3]
theorem jK:AV Tryz.prog 139 nt:=kTz Tryz.func139
noncomputable abbrev AAr:=unB qb
noncomputable def nq:BD:= .fn 8 AAr [.t 4]
theorem jJ:AV Tryz.prog 140 nq:=kT Tryz.func140
abbrev AAn:AJ:=(sr [2,3] [oB 2 0,oB 3 1,BY 4 false] (sr [4] [oL 5 3,oE 6 5,Ak 7 .leq 6 40,oM 8 7,Av 9 3 8,Cs 10 (.GN (.func 187) [] [(.t 2),(.t 3)]) 8,Cs 11 (.call 186 [(.t 9),(.t 10)]) 8,oP 12 8 11,oM 4 12] .ret))
def ni:BD:= .fn 13 AAn [.t 4]
theorem jF:AV Tryz.prog 146 ni:=kT Tryz.func146
abbrev AAl:AJ:=(sr [1,2] [oB 2 0,BY 3 false] (sr [3] [BW 4 2 2,oL 5 1,oE 6 5,CG 7 149 4 6,oM 3 7] .ret))
def ng:BD:= .fn 8 AAl [.t 3]
theorem jD:AV Tryz.prog 148 ng:=kT Tryz.func148
abbrev AAm:AJ:=(sr [0,3] [oB 3 1,BY 4 false] (sr [4] [oM 5 0,oo 6 (.GN (.func 191) [] [(.t 3)]),CG 7 190 5 6,oN 8 7,oM 4 8] .ret))
def nh:BD:= .fn 9 AAm [.t 4]
theorem jE:AV Tryz.prog 147 nh:=kT Tryz.func147
noncomputable abbrev AAj:=unB qX
noncomputable def nd:BD:= .fn 11 AAj [.t 2]
theorem jB:AV Tryz.prog 150 nd:=kT Tryz.func150
abbrev AAi:AJ:=(sr [0,1,3,6,8] [oB 6 2,oo 8 (.alloc [(.i .i64 0),(.i .i64 0)]),BY 9 false] (.seq [6,8] (sr [0,1,6,8,12,13,14] [oM 12 3,oE 13 12,Bg 14 0] (.block 0 (.loop [0,1,6,8,12,13,14] (sr [0,1,6,8,12,13,14,15] [oG 15 .lss 14 13] (.seq [0,1,6,8,12,13,14] (.cond (.t 15) .skip (.exit 0)) (.seq [0,1,6,8,12,13,14] (.block 1 (sr [0,1,6,8,11,12,13,14] [oI 16 1 12 14,oL 17 16,oM 11 17] (.seq [0,1,6,8,11,12,13,14] (sr [0,1,6,8,11,12,13,14,32] [oF 18 0 6,oL 19 18,Ak 20 .neq 19 3,oM 21 20,B0 22 0 21,B0 23 1 21,EG 24 1 6 21,DA 25 24 21,ZR 26 2 23 25 21,EG 27 0 26 21,DA 28 27 21,B0 29 11 21,HR 30 (.call 192 [(.t 22),(.t 28),(.t 29)]) 21,Ud 31 30 21,oQ 32 21 31] (.cond (.t 32) (sr [8,9] [oo 33 (.build [(.i .i64 0),(.i .i64 0)] []),oS 2 8 33,BY 9 false] .ret) .skip)) (.BC [0,1,6,8,12,13,14] [dO 0 (oM 34 1),dO 1 (oF 35 1 6),dO 2 (oL 36 35),dO 3 (oI 37 2 34 36),dO 4 (oF 38 1 37),dO 5 (oL 39 38),dO 6 (oM 40 0),dO 7 (oM 41 1),dO 8 (oF 42 1 6),dO 9 (oL 43 42),dO 10 (oI 44 2 41 43),dO 11 (oF 45 0 44),dO 12 (oL 46 45),dO 14 (oM 48 11),⟨13,CG 47 188 40 46,[5,2],[oL 39 38,oL 36 35]⟩,⟨15,CG 49 193 47 48,[5,2],[oL 39 38,oL 36 35]⟩,dO 16 (oI 50 2 39 49),dO 17 (BW 51 2 50),dO 18 (oS 2 6 51)])))) (.A2 [Ak 52 .add 14 1,oM 14 52]))))))) (sr [8,9] [BW 53 2 6,oS 2 8 53,BY 9 true] .ret)))
def nc:BD:= .fn 54 AAi [.c 8 (some 2),.t 9]
theorem jA:AV Tryz.prog 151 nc:=kT Tryz.func151
abbrev AAh:=qW
def na:BD:= .fn 10 AAh [.t 4]
theorem iz:AV Tryz.prog 152 na:=kT Tryz.func152
abbrev AAv:AJ:=(sr [0,5,6,7] [oL 5 1,oE 6 5,Bg 7 0] (.block 0 (.loop [0,5,6,7] (sr [0,5,6,7,8] [oG 8 .lss 7 6] (.seq [0,5,6,7] (.cond (.t 8) .skip (.exit 0)) (.seq [0,5,6,7] (.block 1 (sr [0,4,5,6,7] [oI 9 1 5 7,oL 10 9,oM 4 10] (sr [0,5,6,7,14] [oM 11 0,oM 12 4,oo 13 (.Bs (.t 11) [(.t 12)]),oN 14 13] (.cond (.t 14) .ret .skip)))) (.A2 [Ak 15 .add 7 1,oM 7 15])))))))
def ny:BD:= .fn 16 AAv []
theorem jN:AV Tryz.prog 136 ny:=kT Tryz.func136
abbrev AAw:=qf
def nz:BD:= .fn 11 AAw []
theorem jO:AV Tryz.prog 135 nz:=kT Tryz.func135
abbrev AA7:AJ:=(sr [0,1,2] [BY 4 false] (sr [4] [oL 5 1,oM 6 0,oL 7 2,QF 8 45 5 6 7,oM 4 8] .ret))
def oU:BD:= .fn 9 AA7 [.t 4]
theorem jZ:AV Tryz.prog 105 oU:=kT Tryz.func105
noncomputable abbrev AAo:=unB qY
noncomputable def nj:BD:= .fn 6 AAo [.c 2 (some 6)]
theorem jG:AV Tryz.prog 143 nj:=kT Tryz.func143
noncomputable abbrev AAp:=unB qZ
noncomputable def nk:BD:= .fn 9 AAp [.c 4 (some 6)]
theorem jH:AV Tryz.prog 142 nk:=kT Tryz.func142
noncomputable abbrev AAq:=unB qa
noncomputable def np:BD:= .fn 14 AAq [.t 4]
theorem jI:AV Tryz.prog 141 np:=kT Tryz.func141
abbrev AAe:=qT
def nV:BD:= .fn 130 AAe []
theorem iu:AV Tryz.prog 162 nV:=kT Tryz.func162
abbrev XT:AJ:=(.A2 [oo 2 (.alloc [(.b false)])])
def Z6:List AS:=[oo 3 (.GN (.func 207) [] [(.t 2)])]
abbrev XR:AJ:=(sr [2] [oM 4 0,oo 5 (.Bs (.t 4) [])] (sr [2] [⟨none,.store 1 (.t 2) (.c (.b true)),none⟩] .ret))
theorem dz:Tryz.f161.body.bind (JC Tryz.prog Tryz.f161.ntmps [] [])=some (erase XT,Z6,(.t 3),erase XR):=by kernel_rfl
def nX:BD:= .wN 6 XT Z6 (.t 3) XR [.c 2 none] [0,2] [0,2]
theorem iv:AV Tryz.prog 161 nX:=fun _ _ _ hn h=>HN Tryz.func161 (by kernel_rfl) dz (by kernel_rfl) hn h
abbrev AAT:=qI
def nI:BD:= .fn 23 AAT [.t 4]
theorem iZ:AV Tryz.prog 173 nI:=kT Tryz.func173
noncomputable abbrev AAS:=unB qH
noncomputable def nH:BD:= .fn 6 AAS [.t 2]
theorem iY:AV Tryz.prog 174 nH:=kT Tryz.func174
abbrev AAR:=qG
def nE:BD:= .fn 9 AAR [.t 4]
theorem iW:AV Tryz.prog 176 nE:=kT Tryz.func176
abbrev AAU:=qJ
def nJ:BD:= .fn 9 AAU [.t 4]
theorem ia:AV Tryz.prog 172 nJ:=kT Tryz.func172
abbrev AAP:=qE
def nC:BD:= .fn 18 AAP [.t 4]
theorem iU:AV Tryz.prog 178 nC:=kT Tryz.func178
noncomputable abbrev AAQ:=unB qF
noncomputable def nD:BD:= .fn 9 AAQ [.t 4]
theorem iV:AV Tryz.prog 177 nD:=kT Tryz.func177
noncomputable abbrev AAN:=unB qC
noncomputable def nA:BD:= .fn 8 AAN [.t 3]
theorem iS:AV Tryz.prog 180 nA:=kT Tryz.func180
noncomputable abbrev AAO:=unB qD
noncomputable def nB:BD:= .fn 9 AAO [.t 4]
theorem iT:AV Tryz.prog 179 nB:=kT Tryz.func179
abbrev AAJ:AJ:=(sr [1,2,3] [oB 3 0,BY 4 false] (.seq [4] (.BC [4] [dO 0 (oL 5 1),dO 1 (oF 6 0 3),dO 2 (oL 7 6),dO 3 (CG 8 178 5 7),dO 4 (oM 9 8),dO 5 (Bh 10 1 3 9),dO 6 (Av 11 10 9),dO 7 (Jn 12 11 9),dO 8 (Av 13 1 9),dO 9 (Bh 14 0 3 9),dO 10 (Av 15 14 9),⟨11,Cs 16 (.call 188 [(.t 13),(.t 15)]) 9,[6],[Av 11 10 9]⟩,dO 12 (Jn 17 16 9),dO 13 (F8 18 .eql 12 17 9),dO 14 (oP 19 9 18),dO 15 (oM 20 19),dO 16 (Bh 21 1 3 20),dO 17 (Av 22 21 20),dO 18 (Cs 23 (.GN (.func 189) [] [(.t 2)]) 20),dO 19 (Cs 24 (.call 147 [(.t 22),(.t 23)]) 20),dO 20 (oP 25 20 24),dO 21 (oM 4 25)]) .ret))
def m5:BD:= .fn 26 AAJ [.t 4]
theorem iN:AV Tryz.prog 187 m5:=kT Tryz.func187
abbrev AAK:AJ:=(sr [0,3] [oB 3 1,BY 4 false] (sr [4] [oM 5 0,oo 6 (.GN (.func 238) [] [(.t 3)]),CG 7 237 5 6,oN 8 7,oM 4 8] .ret))
def m6:BD:= .fn 9 AAK [.t 4]
theorem iO:AV Tryz.prog 186 m6:=kT Tryz.func186
abbrev AAk:AJ:=(sr [1,2] [oB 2 0,BY 4 false] (.seq [1,2] (sr [1,2,6] [oF 5 0 2,oL 6 5] (.block 0 (sr [1,2,6,7] [Ak 8 .eql 6 1,oM 7 8] (.cond (.t 7) (sr [4] [oF 9 1 2,oL 10 9,Ak 11 .geq 10 (-1000000000),oM 12 11,Bh 13 1 2 12,Av 14 13 12,EX 15 .leq 14 1000000000 12,oP 16 12 15,oM 4 16] .ret) (sr [1,2,17] [Ak 18 .eql 6 2,oM 17 18] (.cond (.t 17) (sr [4] [oF 19 1 2,oL 20 19,Ak 21 .eql 20 0,oM 4 21] .ret) .skip)))))) (sr [4] [oF 22 0 2,oL 23 22,Ak 24 .eql 23 3,oM 25 24,Bh 26 1 2 25,Av 27 26 25,EX 28 .geq 27 0 25,oP 29 25 28,oM 30 29,Bh 31 1 2 30,Av 32 31 30,Aw 33 1 30,F8 34 .lss 32 33 30,oP 35 30 34,oM 4 35] .ret)))
def nf:BD:= .fn 36 AAk [.t 4]
theorem jC:AV Tryz.prog 149 nf:=kT Tryz.func149
abbrev AAF:AJ:=(sr [1,2] [oB 2 0,BY 3 false] (sr [3] [oL 4 1,BW 5 2 2,oo 6 (.Bs (.t 4) [(.t 5)]),oN 7 6,oM 3 7] .ret))
def mw:BD:= .fn 8 AAF [.t 3]
theorem iI:AV Tryz.prog 191 mw:=kT Tryz.func191
abbrev AAG:AJ:=(sr [0,1] [BY 4 false] (sr [4] [oM 5 0,oM 6 1,CG 7 239 5 6,Ak 8 .geq 7 0,oM 4 8] .ret))
def my:BD:= .fn 9 AAG [.t 4]
theorem iJ:AV Tryz.prog 190 my:=kT Tryz.func190
abbrev AAE:AJ:=(sr [0,1,2] [BY 6 false] (.seq [6] (.BC [6] [dO 0 (oM 7 0),dO 1 (oM 8 1),dO 2 (oK 9 7),dO 3 (oF 10 2 9),dO 4 (oo 11 (.BG 1 (some 63) (.t 10) (.t 8))),dO 5 (oL 12 11),dO 6 (oM 13 0),dO 7 (oK 14 13),dO 8 (oF 15 0 14),dO 9 (oF 16 1 15),dO 10 (oL 17 16),dO 11 (oM 18 2),dO 12 (oI 19 1 17 18),dO 13 (oL 20 19),dO 14 (CG 21 152 12 20),dO 15 (oM 6 21)]) .ret))
def mu:BD:= .fn 22 AAE [.t 6]
theorem iH:AV Tryz.prog 192 mu:=kT Tryz.func192
abbrev AAI:AJ:=(sr [0,1] [FH 4] (sr [0,1,5] [FH 5] (.seq [5] (sr [0,1,5,12,13] [oM 7 0,oK 8 7,oF 9 0 8,oF 10 1 9,oL 11 10,oE 12 11,Bg 13 0] (.block 0 (.loop [0,1,5,12,13] (sr [0,1,5,12,13,14] [oG 14 .lss 13 12] (.seq [0,1,5,12,13] (.cond (.t 14) .skip (.exit 0)) (.seq [0,1,5,12,13] (.block 1 (sr [0,1,5,6,12,13] [oM 15 13,oM 6 15] (sr [0,1,5,6,12,13,19] [oM 16 0,oM 17 1,oM 18 6,QF 19 192 16 17 18] (.cond (.t 19) (.A2 [oM 20 5,oM 21 6,oo 22 (.Am 1 1 [(.i .i64 0)] [(0,(.t 21))]),oA 23 1 8 20 22,oM 5 23]) .skip)))) (.A2 [Ak 24 .add 13 1,oM 13 24]))))))) (sr [4] [oM 25 5,oM 4 25] .ret))))
def m4:BD:= .fn 26 AAI [.t 4]
theorem iM:AV Tryz.prog 188 m4:=kT Tryz.func188
abbrev AAD:=p9
def mr:BD:= .fn 19 AAD [.t 4]
theorem iG:AV Tryz.prog 193 mr:=kT Tryz.func193
abbrev AAf:=qU
def nY:BD:= .fn 8 AAf [.t 2]
theorem iw:AV Tryz.prog 160 nY:=kT Tryz.func160
abbrev AAg:=qV
def nZ:BD:= .fn 134 AAg []
theorem iy:AV Tryz.prog 159 nZ:=kT Tryz.func159
noncomputable abbrev AAL:=unB qA
noncomputable def m8:BD:= .fn 6 AAL [.t 4]
theorem iQ:AV Tryz.prog 182 m8:=kT Tryz.func182
abbrev XS:AJ:=(.A2 [oo 4 (.alloc [(.b false)])])
def Z5:List AS:=[oo 5 (.GN (.func 229) [] [(.t 4)])]
abbrev XQ:AJ:=(sr [4] [oM 6 0,oM 7 1,CG 8 230 6 7,oC 9 231 8] (sr [4] [⟨none,.store 1 (.t 4) (.c (.b true)),none⟩] .ret))
theorem dy:Tryz.f183.body.bind (JC Tryz.prog Tryz.f183.ntmps [] [])=some (erase XS,Z5,(.t 5),erase XQ):=by kernel_rfl
def m7:BD:= .wN 10 XS Z5 (.t 5) XQ [.c 4 none] [0,1,4] [0,1,4]
theorem iP:AV Tryz.prog 183 m7:=fun _ _ _ hn h=>HN Tryz.func183 (by kernel_rfl) dy (by kernel_rfl) hn h
noncomputable abbrev AAd:=unB qS
noncomputable def nU:BD:= .fn 112 AAd []
theorem ir:AV Tryz.prog 163 nU:=kT Tryz.func163
abbrev AAc:=qR
def nT:BD:= .fn 6 AAc []
theorem im:AV Tryz.prog 164 nT:=kT Tryz.func164
abbrev AAb:=qQ
def nS:BD:= .fn 48 AAb [.t 4]
theorem il:AV Tryz.prog 165 nS:=kT Tryz.func165
noncomputable abbrev AAa:=unB qP
noncomputable def nR:BD:= .fn 86 AAa []
theorem ik:AV Tryz.prog 166 nR:=kT Tryz.func166
noncomputable abbrev AAW:=unB qL
noncomputable def nM:BD:= .fn 16 AAW [.t 4]
theorem ic:AV Tryz.prog 170 nM:=kT Tryz.func170
noncomputable abbrev AAV:=unB qK
noncomputable def nK:BD:= .fn 35 AAV [.t 2]
theorem ib:AV Tryz.prog 171 nK:=kT Tryz.func171
def Z4:List AS:=[oM 1 4]
abbrev XP:AJ:=(sr [0,1,6] [oM 5 1,oo 6 (.UN 2 true (.t 5))] (.cond (.t 6) (.seq [0] (sr [0,1,3] [oM 8 1,oo 9 (.V2 242 (.a []) true (.t 8)),oM 7 9,oX 10 0 7,oX 11 1 7,oo 2 (.alloc []),oS 0 2 10,oM 3 11] (sr [0,1,13] [oM 12 3,oN 13 12] (.cond (.t 13) (.A2 [oM 14 1,⟨none,.panic (.t 14),none⟩]) .skip))) (.A2 [⟨none,.store 1 (.t 0) (.c (.b false)),none⟩])) .skip))
theorem dx:Tryz.f207.body.bind (resRec Tryz.prog Tryz.f207.ntmps [] [])=some (4,Z4,erase XP):=by kernel_rfl
def mX:BD:= .wI 15 4 Z4 XP [0,1]
theorem gw:AV Tryz.prog 207 mX:=fun _ _ _ _ hn h=>IZ Tryz.func207 (by kernel_rfl) dx rfl hn h
abbrev zk:=Zr
def mO:BD:= .fn 9 zk [.t 2]
theorem gk:AV Tryz.prog 216 mO:=kT Tryz.func216
theorem eF:Tryz.f175.body.bind (res Tryz.prog Tryz.f175.ntmps [] [])=some (erase (Mq 1 8)):=by kernel_rfl
def nG:BD:= .UZ (Qp 1)
theorem iX:AV Tryz.prog 175 nG:=TS (sz:=1) (b:=8) (fun _ _ _ hn h=>Ez Tryz.func175 (by kernel_rfl) eF (by kernel_rfl) hn h) nb
abbrev zj:=pq
def mN:BD:= .fn 8 zj [.t 3]
theorem gj:AV Tryz.prog 217 mN:=kT Tryz.func217
end Go.Gl
