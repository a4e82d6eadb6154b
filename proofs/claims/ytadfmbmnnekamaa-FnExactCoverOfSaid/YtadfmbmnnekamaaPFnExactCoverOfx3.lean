/-
  A text of this claim's own, printed by a program of the session (wip/tools/xprint.py): functions of the program as Lean functions, each with what its call comes to.
-/
import Derived.Test.YtadfmbmnnekamaaPFnExactCoverOfx0
import Derived.Test.YtadfmbmnnekamaaPFnExactCoverOfx2
namespace Go.Proofs.Ytadfmbmnnekamaa.PFnExactCoverOf
open Go.Proofs.YtadfmbmnnekamaaW.PrintWords renaming pw_below_drewN → qD, blk_cell → qC, below_drew1 → qO, below_alloc → qA, blk_frozen → qF, below_set → qS, blk_drewN → qN, blk_alloc → qL, blk_drew → qW, below_size → qZ, below_step → qT, blk_below → qB, blk_far → qR, blk_put → qP
open Go.Proofs.YtadfmbmnnekamaaW.PrintWords.Aside0 renaming mk → qK
open Bool renaming true → Y, false → Z
open List renaming setIfInBounds_toArray → sIb, set_cons_zero → sZ, set_cons_succ → sS, map_toArray → mT, map_cons → mC, map_nil → mN, length_drop → lD, length_take → lT
open Go.Proofs.YtadfmbmnnekamaaW.PrintWords.Kd renaming C_alloc → cL, C_drewN → cN, C_drew → cW, C_below → cB, R_alloc → rL, R_drewN → rN, R_drew → rW, R_below → rB
open Go.RowKit Go.Proofs.YtadfmbmnnekamaaW.PrintWords Go.Proofs.YtadfmbmnnekamaaW.PrintLast Go.Proofs.YtadfmbmnnekamaaW.PrintMore
attribute [local go_sem] max2_int min2_int max_two min_two max_three min_three max_four min_four   -- for this text's walks alone
set_option linter.unusedVariables false
set_option linter.unusedSimpArgs false

/-! ### spec_CoverOf: function 6 -/
mutual
def spec_CoverOf.l0 : Nat→Int→List (S37)→List (S37)→Int→Int→Option ((List (S37)) × Bool)
 | 0,_,_,_,_,_=>none
 | k + 1,x1,x6,x26,x27,x28=>if x28 < x27 then (if 0≤x28 then (if x28 < (x26.length:Int) then (spec_CoverOf.l1 k x1 x6 x26 x27 x28 ((rd_T37 x26 x28).f1) (((rd_T37 x26 x28).f1).length:Int) 0 ((rd_T37 x26 x28).f0) ((rd_T37 x26 x28).f1)) else (none)) else (none)) else (spec_CoverOf.l3 k x1 x6 (x6.length:Int) 0)
def spec_CoverOf.l1 : Nat→Int→List (S37)→List (S37)→Int→Int→List Int→Int→Int→List Int→List Int→Option ((List (S37)) × Bool)
 | 0,_,_,_,_,_,_,_,_,_,_=>none
 | k + 1,x1,x6,x26,x27,x28,x33,x34,x35,x180000,x180001=>if x35 < x34 then (if 0≤x35 then (if x35 < (x33.length:Int) then (spec_CoverOf.l2 k x1 x6 (rd x33 x35) false x26 x27 x28 x33 x34 x35 x6 (x6.length:Int) 0 x180000 x180001) else (none)) else (none)) else (spec_CoverOf.l0 k x1 x6 x26 x27 (wrap64 (x28 + 1)))
def spec_CoverOf.l2 : Nat→Int→List (S37)→Int→Bool→List (S37)→Int→Int→List Int→Int→Int→List (S37)→Int→Int→List Int→List Int→Option ((List (S37)) × Bool)
 | 0,_,_,_,_,_,_,_,_,_,_,_,_,_,_,_=>none
 | k + 1,x1,x6,x10,x11,x26,x27,x28,x33,x34,x35,x39,x40,x41,x180000,x180001=>if x41 < x40 then (if 0≤x41 then (if x41 < (x39.length:Int) then (if x11=true then (spec_CoverOf.l2 k x1 x6 x10 true x26 x27 x28 x33 x34 x35 x39 x40 (wrap64 (x41 + 1)) x180000 x180001) else (if 0 < (((rd_T37 x39 x41).f1).length:Int) then (if (rd ((rd_T37 x39 x41).f1) 0)=x10 then ((spec_l7Same.f k ((rd_T37 x39 x41).f0) x180000).bind fun t184=>(spec_CoverOf.l2 k x1 x6 x10 t184 x26 x27 x28 x33 x34 x35 x39 x40 (wrap64 (x41 + 1)) x180000 x180001)) else (spec_CoverOf.l2 k x1 x6 x10 false x26 x27 x28 x33 x34 x35 x39 x40 (wrap64 (x41 + 1)) x180000 x180001)) else (none))) else (none)) else (none)) else (if x11=true then (spec_CoverOf.l1 k x1 x6 x26 x27 x28 x33 x34 (wrap64 (x35 + 1)) x180000 x180001) else ((some (([]:List Int):List Int)).bind fun y185=>(if y185.length + x180000.length < 17592186044416 then (if x6.length < 2932031007402 then (spec_CoverOf.l1 k x1 (x6 ++ [(⟨(y185 ++ x180000),(([x10]:List Int))⟩:S37)]) x26 x27 x28 x33 x34 (wrap64 (x35 + 1)) x180000 x180001) else (none)) else (none))))
def spec_CoverOf.l3 : Nat→Int→List (S37)→Int→Int→Option ((List (S37)) × Bool)
 | 0,_,_,_,_=>none
 | k + 1,x1,x6,x77,x78=>if x78 < x77 then ((some (([]:List Int):List Int)).bind fun y197=>(if 0≤x78 then (if x78 < (x6.length:Int) then (if y197.length + ((rd_T37 x6 x78).f0).length < 17592186044416 then ((some (y197 ++ ((rd_T37 x6 x78).f0):List Int)).bind fun y201=>(spec_CoverOf.l4 k x1 x6 x78 x77 x78 y201 (y201.length:Int) 0)) else (none)) else (none)) else (none))) else (spec_CoverOf.l6 k x1 x6 0)
def spec_CoverOf.l4 : Nat→Int→List (S37)→Int→Int→Int→List Int→Int→Int→Option ((List (S37)) × Bool)
 | 0,_,_,_,_,_,_,_,_=>none
 | k + 1,x1,x6,x14,x77,x78,x87,x88,x89=>if x89 < x88 then (if 0≤x89 then (if x89 < (x87.length:Int) then (if 0≤x14 then (if x14 < (x6.length:Int) then (spec_CoverOf.l5 k x1 x6 x14 (rd x87 x89) ([]:List Int) x77 x78 x87 x88 x89 ((rd_T37 x6 x14).f0) (((rd_T37 x6 x14).f0).length:Int) 0) else (none)) else (none)) else (none)) else (none)) else (spec_CoverOf.l3 k x1 x6 x77 (wrap64 (x78 + 1)))
def spec_CoverOf.l5 : Nat→Int→List (S37)→Int→Int→List Int→Int→Int→List Int→Int→Int→List Int→Int→Int→Option ((List (S37)) × Bool)
 | 0,_,_,_,_,_,_,_,_,_,_,_,_,_=>none
 | k + 1,x1,x6,x14,x16,x17,x77,x78,x87,x88,x89,x97,x98,x99=>if x99 < x98 then (if 0≤x99 then (if x99 < (x97.length:Int) then (if (rd x97 x99)=x16 then (spec_CoverOf.l5 k x1 x6 x14 x16 x17 x77 x78 x87 x88 x89 x97 x98 (wrap64 (x99 + 1))) else (if x17.length < 17592186044416 then (spec_CoverOf.l5 k x1 x6 x14 x16 (x17 ++ [rd x97 x99]) x77 x78 x87 x88 x89 x97 x98 (wrap64 (x99 + 1))) else (none))) else (none)) else (none)) else (if 0≤x14 then (if x14 < (x6.length:Int) then ((spec_l7Implies.f k x6 x17 ((rd_T37 x6 x14).f1)).bind fun t211=>(if t211=true then (spec_CoverOf.l4 k x1 (x6.set (x14:Int).toNat (⟨x17,(rd_T37 x6 x14).f1⟩:S37)) x14 x77 x78 x87 x88 (wrap64 (x89 + 1))) else (spec_CoverOf.l4 k x1 x6 x14 x77 x78 x87 x88 (wrap64 (x89 + 1))))) else (none)) else (none))
def spec_CoverOf.l6 : Nat→Int→List (S37)→Int→Option ((List (S37)) × Bool)
 | 0,_,_,_=>none
 | k + 1,x1,x6,x20=>if x20 < (x6.length:Int) then ((some (([]:List (S37)):List (S37))).bind fun y213=>(if 0≤x20 then (if x20≤(x6.length:Int) then ((some (x6.take (x20:Int).toNat:List (S37))).bind fun y216=>(if y213.length + y216.length < 2932031007402 then ((some (y213 ++ y216:List (S37))).bind fun y221=>(if 0≤(wrap64 (x20 + 1)) then (if (wrap64 (x20 + 1))≤(x6.length:Int) then ((some (x6.drop ((wrap64 (x20 + 1)):Int).toNat:List (S37))).bind fun y224=>(if y221.length + y224.length < 2932031007402 then ((some (y221 ++ y224:List (S37))).bind fun y229=>((spec_l7Implies.f k y229 ((rd_T37 x6 x20).f0) ((rd_T37 x6 x20).f1)).bind fun t233=>(if t233=true then (spec_CoverOf.l6 k x1 y229 x20) else (spec_CoverOf.l6 k x1 x6 (wrap64 (x20 + 1)))))) else (none))) else (none)) else (none))) else (none))) else (none)) else (none))) else ((spec_GoodDepends.f k x6 x1).bind fun t234=>(if t234=true then (some (x6,true)) else (some (([]:List (S37)),false))))
end
def spec_CoverOf.f (k:Nat) (l0:List (S37)) (a1:Int):Option ((List (S37)) × Bool):=(spec_GoodDepends.f k l0 a1).bind fun t177=>(if t177=true then (spec_CoverOf.l0 k a1 ([]:List (S37)) l0 (l0.length:Int) 0) else (some (([]:List (S37)),false)))
theorem spec_CoverOf.mono_l : ∀ k,(∀ y0 y1 y2 y3 y4,LeO (spec_CoverOf.l0 k y0 y1 y2 y3 y4) (spec_CoverOf.l0 (k + 1) y0 y1 y2 y3 y4))∧(∀ y0 y1 y2 y3 y4 y5 y6 y7 y8 y9,LeO (spec_CoverOf.l1 k y0 y1 y2 y3 y4 y5 y6 y7 y8 y9) (spec_CoverOf.l1 (k + 1) y0 y1 y2 y3 y4 y5 y6 y7 y8 y9))∧(∀ y0 y1 y2 y3 y4 y5 y6 y7 y8 y9 y10 y11 y12 y13 y14,LeO (spec_CoverOf.l2 k y0 y1 y2 y3 y4 y5 y6 y7 y8 y9 y10 y11 y12 y13 y14) (spec_CoverOf.l2 (k + 1) y0 y1 y2 y3 y4 y5 y6 y7 y8 y9 y10 y11 y12 y13 y14))∧(∀ y0 y1 y2 y3,LeO (spec_CoverOf.l3 k y0 y1 y2 y3) (spec_CoverOf.l3 (k + 1) y0 y1 y2 y3))∧(∀ y0 y1 y2 y3 y4 y5 y6 y7,LeO (spec_CoverOf.l4 k y0 y1 y2 y3 y4 y5 y6 y7) (spec_CoverOf.l4 (k + 1) y0 y1 y2 y3 y4 y5 y6 y7))∧(∀ y0 y1 y2 y3 y4 y5 y6 y7 y8 y9 y10 y11 y12,LeO (spec_CoverOf.l5 k y0 y1 y2 y3 y4 y5 y6 y7 y8 y9 y10 y11 y12) (spec_CoverOf.l5 (k + 1) y0 y1 y2 y3 y4 y5 y6 y7 y8 y9 y10 y11 y12))∧(∀ y0 y1 y2,LeO (spec_CoverOf.l6 k y0 y1 y2) (spec_CoverOf.l6 (k + 1) y0 y1 y2))
 | 0=>⟨fun _ _ _ _ _ r h=>by simp [spec_CoverOf.l0] at h,fun _ _ _ _ _ _ _ _ _ _ r h=>by simp [spec_CoverOf.l1] at h,fun _ _ _ _ _ _ _ _ _ _ _ _ _ _ _ r h=>by simp [spec_CoverOf.l2] at h,fun _ _ _ _ r h=>by simp [spec_CoverOf.l3] at h,fun _ _ _ _ _ _ _ _ r h=>by simp [spec_CoverOf.l4] at h,fun _ _ _ _ _ _ _ _ _ _ _ _ _ r h=>by simp [spec_CoverOf.l5] at h,fun _ _ _ r h=>by simp [spec_CoverOf.l6] at h⟩
 | k + 1=>by
  obtain ⟨ih0,ih1,ih2,ih3,ih4,ih5,ih6⟩:=spec_CoverOf.mono_l k;refine ⟨?_,?_,?_,?_,?_,?_,?_⟩
  ·intro y0 y1 y2 y3 y4;unfold spec_CoverOf.l0
   repeat' first
   | (with_reducible exact ih0 _ _ _ _ _)
   | (with_reducible exact ih1 _ _ _ _ _ _ _ _ _ _)
   | (with_reducible exact ih2 _ _ _ _ _ _ _ _ _ _ _ _ _ _ _)
   | (with_reducible exact ih3 _ _ _ _)
   | (with_reducible exact ih4 _ _ _ _ _ _ _ _)
   | (with_reducible exact ih5 _ _ _ _ _ _ _ _ _ _ _ _ _)
   | (with_reducible exact ih6 _ _ _)
   | (with_reducible exact spec_GoodDepends.mono _ _ _)
   | (with_reducible exact spec_l7Implies.mono _ _ _ _)
   | (with_reducible exact spec_l7Same.mono _ _ _)
   | (with_reducible exact LeO.refl _)
   | (with_reducible exact LeO.none _)
   | (with_reducible refine LeO.ite ?_ ?_)
   | (with_reducible refine LeO.bind ?_ (fun _=>?_))
   | exact ih0 _ _ _ _ _
   | exact ih1 _ _ _ _ _ _ _ _ _ _
   | exact ih2 _ _ _ _ _ _ _ _ _ _ _ _ _ _ _
   | exact ih3 _ _ _ _
   | exact ih4 _ _ _ _ _ _ _ _
   | exact ih5 _ _ _ _ _ _ _ _ _ _ _ _ _
   | exact ih6 _ _ _
   | exact spec_GoodDepends.mono _ _ _
   | exact spec_l7Implies.mono _ _ _ _
   | exact spec_l7Same.mono _ _ _
   | exact LeO.none _
   | refine LeO.ite ?_ ?_
   | refine LeO.bind ?_ (fun _=>?_)
  ·intro y0 y1 y2 y3 y4 y5 y6 y7 y8 y9;unfold spec_CoverOf.l1
   repeat' first
   | (with_reducible exact ih0 _ _ _ _ _)
   | (with_reducible exact ih1 _ _ _ _ _ _ _ _ _ _)
   | (with_reducible exact ih2 _ _ _ _ _ _ _ _ _ _ _ _ _ _ _)
   | (with_reducible exact ih3 _ _ _ _)
   | (with_reducible exact ih4 _ _ _ _ _ _ _ _)
   | (with_reducible exact ih5 _ _ _ _ _ _ _ _ _ _ _ _ _)
   | (with_reducible exact ih6 _ _ _)
   | (with_reducible exact spec_GoodDepends.mono _ _ _)
   | (with_reducible exact spec_l7Implies.mono _ _ _ _)
   | (with_reducible exact spec_l7Same.mono _ _ _)
   | (with_reducible exact LeO.refl _)
   | (with_reducible exact LeO.none _)
   | (with_reducible refine LeO.ite ?_ ?_)
   | (with_reducible refine LeO.bind ?_ (fun _=>?_))
   | exact ih0 _ _ _ _ _
   | exact ih1 _ _ _ _ _ _ _ _ _ _
   | exact ih2 _ _ _ _ _ _ _ _ _ _ _ _ _ _ _
   | exact ih3 _ _ _ _
   | exact ih4 _ _ _ _ _ _ _ _
   | exact ih5 _ _ _ _ _ _ _ _ _ _ _ _ _
   | exact ih6 _ _ _
   | exact spec_GoodDepends.mono _ _ _
   | exact spec_l7Implies.mono _ _ _ _
   | exact spec_l7Same.mono _ _ _
   | exact LeO.none _
   | refine LeO.ite ?_ ?_
   | refine LeO.bind ?_ (fun _=>?_)
  ·intro y0 y1 y2 y3 y4 y5 y6 y7 y8 y9 y10 y11 y12 y13 y14;unfold spec_CoverOf.l2
   repeat' first
   | (with_reducible exact ih0 _ _ _ _ _)
   | (with_reducible exact ih1 _ _ _ _ _ _ _ _ _ _)
   | (with_reducible exact ih2 _ _ _ _ _ _ _ _ _ _ _ _ _ _ _)
   | (with_reducible exact ih3 _ _ _ _)
   | (with_reducible exact ih4 _ _ _ _ _ _ _ _)
   | (with_reducible exact ih5 _ _ _ _ _ _ _ _ _ _ _ _ _)
   | (with_reducible exact ih6 _ _ _)
   | (with_reducible exact spec_GoodDepends.mono _ _ _)
   | (with_reducible exact spec_l7Implies.mono _ _ _ _)
   | (with_reducible exact spec_l7Same.mono _ _ _)
   | (with_reducible exact LeO.refl _)
   | (with_reducible exact LeO.none _)
   | (with_reducible refine LeO.ite ?_ ?_)
   | (with_reducible refine LeO.bind ?_ (fun _=>?_))
   | exact ih0 _ _ _ _ _
   | exact ih1 _ _ _ _ _ _ _ _ _ _
   | exact ih2 _ _ _ _ _ _ _ _ _ _ _ _ _ _ _
   | exact ih3 _ _ _ _
   | exact ih4 _ _ _ _ _ _ _ _
   | exact ih5 _ _ _ _ _ _ _ _ _ _ _ _ _
   | exact ih6 _ _ _
   | exact spec_GoodDepends.mono _ _ _
   | exact spec_l7Implies.mono _ _ _ _
   | exact spec_l7Same.mono _ _ _
   | exact LeO.none _
   | refine LeO.ite ?_ ?_
   | refine LeO.bind ?_ (fun _=>?_)
  ·intro y0 y1 y2 y3;unfold spec_CoverOf.l3
   repeat' first
   | (with_reducible exact ih0 _ _ _ _ _)
   | (with_reducible exact ih1 _ _ _ _ _ _ _ _ _ _)
   | (with_reducible exact ih2 _ _ _ _ _ _ _ _ _ _ _ _ _ _ _)
   | (with_reducible exact ih3 _ _ _ _)
   | (with_reducible exact ih4 _ _ _ _ _ _ _ _)
   | (with_reducible exact ih5 _ _ _ _ _ _ _ _ _ _ _ _ _)
   | (with_reducible exact ih6 _ _ _)
   | (with_reducible exact spec_GoodDepends.mono _ _ _)
   | (with_reducible exact spec_l7Implies.mono _ _ _ _)
   | (with_reducible exact spec_l7Same.mono _ _ _)
   | (with_reducible exact LeO.refl _)
   | (with_reducible exact LeO.none _)
   | (with_reducible refine LeO.ite ?_ ?_)
   | (with_reducible refine LeO.bind ?_ (fun _=>?_))
   | exact ih0 _ _ _ _ _
   | exact ih1 _ _ _ _ _ _ _ _ _ _
   | exact ih2 _ _ _ _ _ _ _ _ _ _ _ _ _ _ _
   | exact ih3 _ _ _ _
   | exact ih4 _ _ _ _ _ _ _ _
   | exact ih5 _ _ _ _ _ _ _ _ _ _ _ _ _
   | exact ih6 _ _ _
   | exact spec_GoodDepends.mono _ _ _
   | exact spec_l7Implies.mono _ _ _ _
   | exact spec_l7Same.mono _ _ _
   | exact LeO.none _
   | refine LeO.ite ?_ ?_
   | refine LeO.bind ?_ (fun _=>?_)
  ·intro y0 y1 y2 y3 y4 y5 y6 y7;unfold spec_CoverOf.l4
   repeat' first
   | (with_reducible exact ih0 _ _ _ _ _)
   | (with_reducible exact ih1 _ _ _ _ _ _ _ _ _ _)
   | (with_reducible exact ih2 _ _ _ _ _ _ _ _ _ _ _ _ _ _ _)
   | (with_reducible exact ih3 _ _ _ _)
   | (with_reducible exact ih4 _ _ _ _ _ _ _ _)
   | (with_reducible exact ih5 _ _ _ _ _ _ _ _ _ _ _ _ _)
   | (with_reducible exact ih6 _ _ _)
   | (with_reducible exact spec_GoodDepends.mono _ _ _)
   | (with_reducible exact spec_l7Implies.mono _ _ _ _)
   | (with_reducible exact spec_l7Same.mono _ _ _)
   | (with_reducible exact LeO.refl _)
   | (with_reducible exact LeO.none _)
   | (with_reducible refine LeO.ite ?_ ?_)
   | (with_reducible refine LeO.bind ?_ (fun _=>?_))
   | exact ih0 _ _ _ _ _
   | exact ih1 _ _ _ _ _ _ _ _ _ _
   | exact ih2 _ _ _ _ _ _ _ _ _ _ _ _ _ _ _
   | exact ih3 _ _ _ _
   | exact ih4 _ _ _ _ _ _ _ _
   | exact ih5 _ _ _ _ _ _ _ _ _ _ _ _ _
   | exact ih6 _ _ _
   | exact spec_GoodDepends.mono _ _ _
   | exact spec_l7Implies.mono _ _ _ _
   | exact spec_l7Same.mono _ _ _
   | exact LeO.none _
   | refine LeO.ite ?_ ?_
   | refine LeO.bind ?_ (fun _=>?_)
  ·intro y0 y1 y2 y3 y4 y5 y6 y7 y8 y9 y10 y11 y12;unfold spec_CoverOf.l5
   repeat' first
   | (with_reducible exact ih0 _ _ _ _ _)
   | (with_reducible exact ih1 _ _ _ _ _ _ _ _ _ _)
   | (with_reducible exact ih2 _ _ _ _ _ _ _ _ _ _ _ _ _ _ _)
   | (with_reducible exact ih3 _ _ _ _)
   | (with_reducible exact ih4 _ _ _ _ _ _ _ _)
   | (with_reducible exact ih5 _ _ _ _ _ _ _ _ _ _ _ _ _)
   | (with_reducible exact ih6 _ _ _)
   | (with_reducible exact spec_GoodDepends.mono _ _ _)
   | (with_reducible exact spec_l7Implies.mono _ _ _ _)
   | (with_reducible exact spec_l7Same.mono _ _ _)
   | (with_reducible exact LeO.refl _)
   | (with_reducible exact LeO.none _)
   | (with_reducible refine LeO.ite ?_ ?_)
   | (with_reducible refine LeO.bind ?_ (fun _=>?_))
   | exact ih0 _ _ _ _ _
   | exact ih1 _ _ _ _ _ _ _ _ _ _
   | exact ih2 _ _ _ _ _ _ _ _ _ _ _ _ _ _ _
   | exact ih3 _ _ _ _
   | exact ih4 _ _ _ _ _ _ _ _
   | exact ih5 _ _ _ _ _ _ _ _ _ _ _ _ _
   | exact ih6 _ _ _
   | exact spec_GoodDepends.mono _ _ _
   | exact spec_l7Implies.mono _ _ _ _
   | exact spec_l7Same.mono _ _ _
   | exact LeO.none _
   | refine LeO.ite ?_ ?_
   | refine LeO.bind ?_ (fun _=>?_)
  ·intro y0 y1 y2;unfold spec_CoverOf.l6
   repeat' first
   | (with_reducible exact ih0 _ _ _ _ _)
   | (with_reducible exact ih1 _ _ _ _ _ _ _ _ _ _)
   | (with_reducible exact ih2 _ _ _ _ _ _ _ _ _ _ _ _ _ _ _)
   | (with_reducible exact ih3 _ _ _ _)
   | (with_reducible exact ih4 _ _ _ _ _ _ _ _)
   | (with_reducible exact ih5 _ _ _ _ _ _ _ _ _ _ _ _ _)
   | (with_reducible exact ih6 _ _ _)
   | (with_reducible exact spec_GoodDepends.mono _ _ _)
   | (with_reducible exact spec_l7Implies.mono _ _ _ _)
   | (with_reducible exact spec_l7Same.mono _ _ _)
   | (with_reducible exact LeO.refl _)
   | (with_reducible exact LeO.none _)
   | (with_reducible refine LeO.ite ?_ ?_)
   | (with_reducible refine LeO.bind ?_ (fun _=>?_))
   | exact ih0 _ _ _ _ _
   | exact ih1 _ _ _ _ _ _ _ _ _ _
   | exact ih2 _ _ _ _ _ _ _ _ _ _ _ _ _ _ _
   | exact ih3 _ _ _ _
   | exact ih4 _ _ _ _ _ _ _ _
   | exact ih5 _ _ _ _ _ _ _ _ _ _ _ _ _
   | exact ih6 _ _ _
   | exact spec_GoodDepends.mono _ _ _
   | exact spec_l7Implies.mono _ _ _ _
   | exact spec_l7Same.mono _ _ _
   | exact LeO.none _
   | refine LeO.ite ?_ ?_
   | refine LeO.bind ?_ (fun _=>?_)
theorem spec_CoverOf.mono : ∀ a0 a1 k,LeO (spec_CoverOf.f k a0 a1) (spec_CoverOf.f (k + 1) a0 a1):=by
 intro a0 a1 k;obtain ⟨ih0,ih1,ih2,ih3,ih4,ih5,ih6⟩:=spec_CoverOf.mono_l k;unfold spec_CoverOf.f
 repeat' first
   | (with_reducible exact ih0 _ _ _ _ _)
   | (with_reducible exact ih1 _ _ _ _ _ _ _ _ _ _)
   | (with_reducible exact ih2 _ _ _ _ _ _ _ _ _ _ _ _ _ _ _)
   | (with_reducible exact ih3 _ _ _ _)
   | (with_reducible exact ih4 _ _ _ _ _ _ _ _)
   | (with_reducible exact ih5 _ _ _ _ _ _ _ _ _ _ _ _ _)
   | (with_reducible exact ih6 _ _ _)
   | (with_reducible exact spec_GoodDepends.mono _ _ _)
   | (with_reducible exact spec_l7Implies.mono _ _ _ _)
   | (with_reducible exact spec_l7Same.mono _ _ _)
   | (with_reducible exact LeO.refl _)
   | (with_reducible exact LeO.none _)
   | (with_reducible refine LeO.ite ?_ ?_)
   | (with_reducible refine LeO.bind ?_ (fun _=>?_))
   | exact ih0 _ _ _ _ _
   | exact ih1 _ _ _ _ _ _ _ _ _ _
   | exact ih2 _ _ _ _ _ _ _ _ _ _ _ _ _ _ _
   | exact ih3 _ _ _ _
   | exact ih4 _ _ _ _ _ _ _ _
   | exact ih5 _ _ _ _ _ _ _ _ _ _ _ _ _
   | exact ih6 _ _ _
   | exact spec_GoodDepends.mono _ _ _
   | exact spec_l7Implies.mono _ _ _ _
   | exact spec_l7Same.mono _ _ _
   | exact LeO.none _
   | refine LeO.ite ?_ ?_
   | refine LeO.bind ?_ (fun _=>?_)
def spec_CoverOf.T39 : Bool × List (List Nat × List Nat):=(true,[([],[]),([],[]),([],[]),([1,2],[1,2]),([0,3],[0,3]),([],[]),([],[]),([6],[6]),([5,7],[5,7]),([4,8,4],[4,8]),([9,9,0,1,2,3,4,5,6,7,8,9],[9])])
def spec_CoverOf.B39 : List Nat:=[0,0,0,6,15,0,0,64,224,511,1023]
theorem spec_CoverOf.tab39 : rtab .any (opsOf Try.f6 39)=spec_CoverOf.T39:=by kernel_rfl
theorem spec_CoverOf.bits39 : waitsOk spec_CoverOf.T39.2 spec_CoverOf.B39=true:=by kernel_rfl
set_option maxHeartbeats 8000000 in
set_option maxRecDepth 100000 in
theorem spec_CoverOf.calls (k:Nat) (A0:Option Addr) (c0:Nat) (l0:List (S37)) (a1:Int) (r1:List (S37)) (r2:Bool) (w:World) (hr0:Kd.C k37 w A0 l0.length l0) (hc0:l0.length≤c0) (h:spec_CoverOf.f k l0 a1=some (r1,r2)) :
  Calls Try.prog 6 #[.slice A0 l0.length c0,.int .i64 a1] w fun e w'=>∃ v0_:Value,e=.returned (.tuple #[v0_,.bool r2])∧Kd.N k37 37 w' w.heap.size (fun k_=>(w.heap.size≤k_)) v0_ r1∧Below w.heap.size w w':=by
 have hu37:=Try.underlying37;have HR0:=qK hr0;have HC0:=qK hc0;clear hr0 hc0;have HB:=qK (Below.refl w.heap.size w);have H:((spec_GoodDepends.f k l0 a1).bind fun t177=>(if t177=true then (spec_CoverOf.l0 k a1 ([]:List (S37)) l0 (l0.length:Int) 0) else (some (([]:List (S37)),false))))=some (r1,r2):=h;clear h;replace H:=Option.bind_eq_some_iff.mp H;obtain ⟨t177,A30,H⟩:=H;replace H:(if t177=true then (spec_CoverOf.l0 k a1 ([]:List (S37)) l0 (l0.length:Int) 0) else (some (([]:List (S37)),false)))=some (r1,r2):=H;have A3:=qK A30;clear A30;by_cases c4:t177=true
 ·subst c4;have H1:(spec_CoverOf.l0 k a1 ([]:List (S37)) l0 (l0.length:Int) 0)=some (r1,r2):=by rw [if_pos rfl] at H;exact H
  clear H;have H:=H1;clear H1;have H':=qK H;clear H;go_enter Try.func6,Try.ntmps6
  go_wp2_with (first|((with_reducible refine gate_callee (f:=19) rfl ?_);refine goesL_ (some 24) rfl rfl Try.func19 (by kernel_rfl) rfl #[.slice A0 l0.length c0,.int .i64 a1] rfl (by (try simp only [mT,mC,mN]);first|done|rfl|(simp only [lD,lT];rfl)) ?_;(with_reducible refine (spec_GoodDepends.calls k _ _ l0 a1 true _ ?side1 ?side2 A3.out).mono ?_);(case side1=>repeat (first|exact HR0.out|(with_reducible first|refine cL ?_ _|refine cN ?_ _|refine cW ?_)));(case side2=>exact HC0.out);rintro e w5 ⟨rfl,hb⟩;refine ⟨_,rfl,?_⟩;have n0_:=qK (qT (by repeat (with_reducible first|exact HB.out|apply qA|apply qD|apply qO)) hb);clear HB;have HB:=n0_;clear n0_;(try clear hb)))
  go_loopg [6,28] k (fun kq v6 v28 w'=>∃ (x6_1:List (S37)) (x28_1:Int),v28=.int .i64 x28_1∧Aside0 (spec_CoverOf.l0 kq a1 x6_1 l0 (l0.length:Int) x28_1=some (r1,r2))∧Aside0 (kq≤k)∧Aside0 (Kd.N k37 37 w' w.heap.size (fun k_=>(w.heap.size≤k_)) v6 x6_1)∧Aside0 (Below w.heap.size w w'))
  case atStart=>exact ⟨(([]:List (S37))),(0),(by first|rfl|(simp;done)|(simp [*];done)),H',⟨Nat.le_refl _⟩,⟨by first|exact Kd.S_nil _ _ _ _ _|exact Kd.N_nil _ _ _ _ _|exact Kd.V_nil _ _ _ _ _|exact Kd.Q_nil _ _ _ _ _|exact Kd.R_nil _ _ _ _ _⟩,⟨by repeat (first|(with_reducible first|exact HB.out|apply qA|apply qD|apply qO)|exact HB.out)⟩⟩
  case round =>
   clear H';try clear c1
   try clear p2
   try clear c4
   obtain ⟨x6_1,x28_1,rfl,HA,HK1,HO_6,HB⟩:=hrel;cases gk with
   | zero=>exact absurd HA.out (by simp [spec_CoverOf.l0])
   | succ k1 =>
    have H:=HA.out;clear HA;simp only [spec_CoverOf.l0] at H;by_cases c6:x28_1 < (l0.length:Int)
    ·rw [if_pos c6] at H;have c6b0:decide (x28_1 < (l0.length:Int))=true:=decide_eq_true c6;clear c6;by_cases c7:0≤x28_1
     ·rw [if_pos c7] at H;have c7b0:decide (0≤x28_1)=true:=decide_eq_true c7;clear c7;by_cases c8:x28_1 < (l0.length:Int)
      ·rw [if_pos c8] at H;have c8b0:decide (x28_1 < (l0.length:Int))=true:=decide_eq_true c8;clear c8;have H':=qK H;clear H;have p178:0≤(x28_1:Int):=of_decide_eq_true (by first|(with_reducible assumption)|assumption);have q178:x28_1 < (l0.length:Int):=of_decide_eq_true (by first|(with_reducible assumption)|assumption);obtain ⟨ad178,A178_0,c178_0,A178_1,c178_1,e178,hx178_0,hx178_1,hl178_0,hi178_0,hl178_1,hi178_1⟩:=at_T37 HR0.out x28_1 p178 q178;cases e178
       (try replace hx178_0:=(HB.out.cell (World.block_lt_of_cell? w _ hx178_0)).trans hx178_0);(try replace hx178_1:=(HB.out.cell (World.block_lt_of_cell? w _ hx178_1)).trans hx178_1);have HR178_0:=qK hi178_0;have HC178_0:=qK hl178_0;clear hi178_0 hl178_0;have HR178_1:=qK hi178_1;have HC178_1:=qK hl178_1;clear hi178_1 hl178_1;replace p178:=eq_true p178;replace q178:=eq_true q178;go_wp2_with (first|((with_reducible refine gate_dst (N:=8) rfl ?_);refine box_event ?hg (N:=8) ?hd (cs:=#[.slice none 0 0,.slice none 0 0]) (t:=37) ?hr ?_;(case hd=>rfl);(case hg=>rfl);(case hr=>(go_simp;try rfl));intro gb179 hg w9 hbox hb;have n0_:=qK (Kd.N_below (Kd.N_elderB (by (with_reducible repeat (first|apply Kd.N_alloc|apply Kd.N_drewN|apply Kd.N_drew));exact HO_6.out) gb179 (Nat.le_of_eq hg.symm)) hb);have n1_:=qK (qT (by repeat (with_reducible first|exact HB.out|apply qA|apply qD|apply qO)) hb);have n2_:=qK (hbox);have n3_:=qK ((by rw [hg];exact (qZ (by repeat (with_reducible first|exact HB.out|apply qA|apply qD|apply qO))):w.heap.size≤gb179));have n4_:=qK ((by rw [hg];exact (qZ (by repeat (with_reducible first|exact HB.out|apply qA|apply qD|apply qO))):w.heap.size≤gb179));clear HO_6;clear HB;have HO_6:=n0_;have HB:=n1_;have BK179:=n2_;have GW179:=n3_;have GE179:=n4_;clear n0_ n1_ n2_ n3_ n4_;clear hb hbox hg;have hcz10_0:w9.cell? ⟨gb179,0,none⟩=some (.slice none 0 0):=(qC BK179.out 0).trans rfl;have hcz10_1:w9.cell? ⟨gb179,1,none⟩=some (.slice none 0 0):=(qC BK179.out 1).trans rfl;have hfz10_0:=qF BK179.out 0;have hfz10_1:=qF BK179.out 1))
       go_loopg [6,35] k1 (fun kq v6 v35 w'=>∃ (x6_2:List (S37)) (x35_2:Int),v35=.int .i64 x35_2∧Aside0 (spec_CoverOf.l1 kq a1 x6_2 l0 (l0.length:Int) x28_1 ((rd_T37 l0 x28_1).f1) (((rd_T37 l0 x28_1).f1).length:Int) x35_2 ((rd_T37 l0 x28_1).f0) ((rd_T37 l0 x28_1).f1)=some (r1,r2))∧Aside0 (kq≤k1)∧Aside0 (Kd.N k37 37 w' w.heap.size (fun k_=>(w.heap.size≤k_)∧k_ ≠ gb179) v6 x6_2)∧Aside0 (w'.heap[gb179]?=some (.cells #[(.slice A178_0 ((rd_T37 l0 x28_1).f0).length c178_0),(.slice A178_1 ((rd_T37 l0 x28_1).f1).length c178_1)] 37 (0,0)))∧Aside0 (Below w.heap.size w w'))
       case atStart=>exact ⟨(x6_1),(0),(by first|rfl|(simp;done)|(simp [*];done)),H',⟨Nat.le_refl _⟩,⟨by (with_reducible repeat (first|apply Kd.N_alloc|apply Kd.N_drewN|apply Kd.N_drew));exact Kd.N_mono (Kd.N_far (p:=⟨gb179,1,none⟩) (Kd.N_far (p:=⟨gb179,0,none⟩) (Kd.N_mono HO_6.out (fun k_ hk=>(⟨hk,hk.2⟩:_∧k_ ≠ gb179))) (fun _ hk=>hk.2) (.slice A178_0 ((rd_T37 l0 x28_1).f0).length c178_0)) (fun _ hk=>hk.2) (.slice A178_1 ((rd_T37 l0 x28_1).f1).length c178_1)) (fun _ hk=>⟨hk.1.1,hk.1.2⟩)⟩,⟨by (with_reducible repeat (first|refine qN ?_ _|refine qW ?_|refine qL ?_ _));refine qP (cs:=#[.slice A178_0 ((rd_T37 l0 x28_1).f0).length c178_0,.slice none 0 0]) ?_ 1 _ rfl;(with_reducible repeat (first|refine qN ?_ _|refine qW ?_|refine qL ?_ _));refine qP (cs:=#[.slice none 0 0,.slice none 0 0]) ?_ 0 _ rfl;(with_reducible repeat (first|refine qN ?_ _|refine qW ?_|refine qL ?_ _));exact BK179.out⟩,⟨by repeat (first|(with_reducible first|exact HB.out|apply qA|apply qD|apply qO|refine qS ?_ GE179.out)|exact HB.out)⟩⟩
       case round =>
        clear H';try clear c1
        try clear p1
        try clear q1
        try clear hx1
        try clear p2
        try clear c4
        try clear c6
        try clear c6b0
        try clear c7
        try clear c7b0
        try clear c8
        try clear c8b0
        try clear hcz10_0
        try clear hcz10_1
        try clear hfz10_0
        try clear hfz10_1
        try clear hx178_0
        try clear hx178_1
        try clear p178
        try clear p2
        try clear q178
        obtain ⟨x6_2,x35_2,rfl,HA,HK2,HO_6,BK179,HB⟩:=hrel;cases gk with
        | zero=>exact absurd HA.out (by simp [spec_CoverOf.l1])
        | succ k2 =>
         have H:=HA.out;clear HA;simp only [spec_CoverOf.l1] at H;by_cases c11:x35_2 < (((rd_T37 l0 x28_1).f1).length:Int)
         ·rw [if_pos c11] at H;have c11b0:decide (x35_2 < (((rd_T37 l0 x28_1).f1).length:Int))=true:=decide_eq_true c11;clear c11;by_cases c12:0≤x35_2
          ·rw [if_pos c12] at H;have c12b0:decide (0≤x35_2)=true:=decide_eq_true c12;clear c12;by_cases c13:x35_2 < (((rd_T37 l0 x28_1).f1).length:Int)
           ·rw [if_pos c13] at H;have c13b0:decide (x35_2 < (((rd_T37 l0 x28_1).f1).length:Int))=true:=decide_eq_true c13;clear c13;have H':=qK H;clear H;have p180:0≤(x35_2:Int):=of_decide_eq_true (by first|(with_reducible assumption)|assumption);have q180:x35_2 < (((rd_T37 l0 x28_1).f1).length:Int):=of_decide_eq_true (by first|(with_reducible assumption)|assumption);obtain ⟨ad180,e180,hx180_0⟩:=Kd.at_int HR178_1.out x35_2 p180 q180;cases e180
            (try replace hx180_0:=(HB.out.cell (World.block_lt_of_cell? w _ hx180_0)).trans hx180_0);replace p180:=eq_true p180;replace q180:=eq_true q180;obtain ⟨Ao14,co14,eo14⟩:=Kd.N_slice HO_6.out;subst eo14;go_wp2
            go_loopg [11,41] k2 (fun kq v11 v41 w'=>∃ (x11_3:Bool) (x41_3:Int),v11=.bool x11_3∧v41=.int .i64 x41_3∧Aside0 (spec_CoverOf.l2 kq a1 x6_2 (rd ((rd_T37 l0 x28_1).f1) x35_2) x11_3 l0 (l0.length:Int) x28_1 ((rd_T37 l0 x28_1).f1) (((rd_T37 l0 x28_1).f1).length:Int) x35_2 x6_2 (x6_2.length:Int) x41_3 ((rd_T37 l0 x28_1).f0) ((rd_T37 l0 x28_1).f1)=some (r1,r2))∧Aside0 (kq≤k2)∧Aside0 (Kd.N k37 37 w' w.heap.size (fun k_=>(w.heap.size≤k_)∧k_ ≠ gb179) (.slice Ao14 x6_2.length co14) x6_2)∧Aside0 (Kd.N k37 37 w' w.heap.size (fun k_=>(w.heap.size≤k_)∧k_ ≠ gb179) (.slice Ao14 x6_2.length co14) x6_2)∧Aside0 (w'.heap[gb179]?=some (.cells #[(.slice A178_0 ((rd_T37 l0 x28_1).f0).length c178_0),(.slice (some ad180) ((rd_T37 l0 x28_1).f1).length c178_1)] 37 (0,0)))∧Aside0 (Below w.heap.size w w'))
            case atStart=>exact ⟨(false),(0),(by first|rfl|(simp;done)|(simp [*];done)),(by first|rfl|(simp;done)|(simp [*];done)),H',⟨Nat.le_refl _⟩,⟨by (with_reducible repeat (first|apply Kd.N_alloc|apply Kd.N_drewN|apply Kd.N_drew));exact HO_6.out⟩,⟨by (with_reducible repeat (first|apply Kd.N_alloc|apply Kd.N_drewN|apply Kd.N_drew));exact HO_6.out⟩,⟨by (with_reducible repeat (first|refine qN ?_ _|refine qW ?_|refine qL ?_ _));exact BK179.out⟩,⟨by repeat (first|(with_reducible first|exact HB.out|apply qA|apply qD|apply qO|refine qS ?_ GE179.out)|exact HB.out)⟩⟩
            case round =>
             clear H';try clear c1
             try clear p1
             try clear q1
             try clear hx1
             try clear p2
             try clear c4
             try clear c6
             try clear c6b0
             try clear c7
             try clear c7b0
             try clear c8
             try clear c8b0
             try clear c11
             try clear c11b0
             try clear c12
             try clear c12b0
             try clear c13
             try clear c13b0
             try clear hcz10_0
             try clear hcz10_1
             try clear hfz10_0
             try clear hfz10_1
             try clear hx178_0
             try clear hx178_1
             try clear hx180_0
             try clear p1
             try clear p178
             try clear p180
             try clear p2
             try clear q1
             try clear q178
             try clear q180
             obtain ⟨x11_3,x41_3,rfl,rfl,HA,HK3,HO_6,HO_39,BK179,HB⟩:=hrel;cases gk with
             | zero=>exact absurd HA.out (by simp [spec_CoverOf.l2])
             | succ k3 =>
              have H:=HA.out;clear HA;simp only [spec_CoverOf.l2] at H;by_cases c15:x41_3 < (x6_2.length:Int)
              ·rw [if_pos c15] at H;have c15b0:decide (x41_3 < (x6_2.length:Int))=true:=decide_eq_true c15;clear c15;by_cases c16:0≤x41_3
               ·rw [if_pos c16] at H;have c16b0:decide (0≤x41_3)=true:=decide_eq_true c16;clear c16;by_cases c17:x41_3 < (x6_2.length:Int)
                ·rw [if_pos c17] at H;have c17b0:decide (x41_3 < (x6_2.length:Int))=true:=decide_eq_true c17;clear c17;by_cases c18:x11_3=true
                 ·subst c18;have H1:(spec_CoverOf.l2 k3 a1 x6_2 (rd ((rd_T37 l0 x28_1).f1) x35_2) true l0 (l0.length:Int) x28_1 ((rd_T37 l0 x28_1).f1) (((rd_T37 l0 x28_1).f1).length:Int) x35_2 x6_2 (x6_2.length:Int) (wrap64 (x41_3 + 1)) ((rd_T37 l0 x28_1).f0) ((rd_T37 l0 x28_1).f1))=some (r1,r2):=by rw [if_pos rfl] at H;exact H
                  clear H;have H:=H1;clear H1;have H':=qK H;clear H;have p181:0≤(x41_3:Int):=of_decide_eq_true (by first|(with_reducible assumption)|assumption);have q181:x41_3 < (x6_2.length:Int):=of_decide_eq_true (by first|(with_reducible assumption)|assumption);obtain ⟨ad181,A181_0,c181_0,A181_1,c181_1,e181,hx181_0,hx181_1,hl181_0,hi181_0,hl181_1,hi181_1⟩:=at_T37 (Kd.N_reads' HO_39.out).2.2 x41_3 p181 q181;cases e181
                  obtain ⟨ce181,hce181,hMe181,hcc181⟩:=Kd.N_get HO_39.out z37 x41_3 p181 (by first|exact q181|exact of_decide_eq_true (by first|(with_reducible assumption)|assumption)|(have e_:=(Kd.N_reads' HO_39.out).1;omega));obtain ⟨ua181_0,uc181_0,ua181_1,uc181_1,rfl,ul181_0,ge181_0,ul181_1,ge181_1⟩:=k37_openF hMe181;have hv181_0:=hcc181 0 _ rfl;rw [Nat.add_zero] at hv181_0;replace hv181_0:=Option.some.inj (hv181_0.symm.trans hx181_0);injection hv181_0 with hva_ hvn_ hvc_
                  rw [hva_] at ge181_0;rw [hvc_] at ul181_0;have HL181_0:=qK (show Kd.V (Kd.int .i64) 3 _ w.heap.size _ _ ((rd_T37 x6_2 x41_3).f0) from Kd.V_mk ul181_0 ge181_0);clear hva_ hvn_ hvc_ ge181_0 ul181_0;have hv181_1:=hcc181 1 _ rfl;rw [add_field _ _ 1 (by omega)] at hv181_1;replace hv181_1:=Option.some.inj (hv181_1.symm.trans hx181_1);injection hv181_1 with hva_ hvn_ hvc_
                  rw [hva_] at ge181_1;rw [hvc_] at ul181_1;have HL181_1:=qK (show Kd.V (Kd.int .i64) 3 _ w.heap.size _ _ ((rd_T37 x6_2 x41_3).f1) from Kd.V_mk ul181_1 ge181_1);clear hva_ hvn_ hvc_ ge181_1 ul181_1;clear hcc181 hce181;have HR181_0:=qK hi181_0;have HC181_0:=qK hl181_0;clear hi181_0 hl181_0;have HR181_1:=qK hi181_1;have HC181_1:=qK hl181_1;clear hi181_1 hl181_1;replace p181:=eq_true p181;replace q181:=eq_true q181;go_wp2_with (first|((with_reducible refine gate_dst (N:=13) rfl ?_);refine box_event ?hg (N:=13) ?hd (cs:=#[.slice none 0 0,.slice none 0 0]) (t:=37) ?hr ?_;(case hd=>rfl);(case hg=>rfl);(case hr=>(go_simp;try rfl));intro gb182 hg w19 hbox hb;have n0_:=qK (Kd.N_below (Kd.N_elderB (by (with_reducible repeat (first|apply Kd.N_alloc|apply Kd.N_drewN|apply Kd.N_drew));exact HO_6.out) gb182 (Nat.le_of_eq hg.symm)) hb);have n1_:=qK (Kd.N_below (Kd.N_elderB (by (with_reducible repeat (first|apply Kd.N_alloc|apply Kd.N_drewN|apply Kd.N_drew));exact HO_39.out) gb182 (Nat.le_of_eq hg.symm)) hb);have n2_:=qK (Kd.V_below (Kd.V_elderB (by (with_reducible repeat (first|apply Kd.V_alloc|apply Kd.V_drewN|apply Kd.V_drew));exact HL181_0.out) gb182 (Nat.le_of_eq hg.symm)) hb);have n3_:=qK (Kd.V_below (Kd.V_elderB (by (with_reducible repeat (first|apply Kd.V_alloc|apply Kd.V_drewN|apply Kd.V_drew));exact HL181_1.out) gb182 (Nat.le_of_eq hg.symm)) hb);have n4_:=qK (qB (g:=gb179) (o:=_) (by (with_reducible repeat (first|refine qN ?_ _|refine qW ?_|refine qL ?_ _));exact BK179.out) hb);have n5_:=qK (cB (by repeat (first|(with_reducible exact HR181_0.out)|(with_reducible first|refine cL ?_ _|refine cN ?_ _|refine cW ?_)|exact HR181_0.out)) hb);have n6_:=qK (cB (by repeat (first|(with_reducible exact HR181_1.out)|(with_reducible first|refine cL ?_ _|refine cN ?_ _|refine cW ?_)|exact HR181_1.out)) hb);have n7_:=qK (qT (by repeat (with_reducible first|exact HB.out|apply qA|apply qD|apply qO|refine qS ?_ GE179.out)) hb);have n8_:=qK (hbox);have n9_:=qK ((by rw [hg];exact (qZ (by repeat (with_reducible first|exact HB.out|apply qA|apply qD|apply qO|refine qS ?_ GE179.out))):w.heap.size≤gb182));have n10_:=qK ((by rw [hg];exact (qZ (by repeat (with_reducible first|exact HB.out|apply qA|apply qD|apply qO|refine qS ?_ GE179.out))):w.heap.size≤gb182));have n11_:=qK ((by rw [hg];exact Nat.ne_of_lt (blk_lt (g:=gb179) (o:=_) (by (with_reducible repeat (first|refine qN ?_ _|refine qW ?_|refine qL ?_ _));exact BK179.out)):gb179 ≠ gb182));have n12_:=qK ((by rw [hg];exact Nat.ne_of_gt (blk_lt (g:=gb179) (o:=_) (by (with_reducible repeat (first|refine qN ?_ _|refine qW ?_|refine qL ?_ _));exact BK179.out)):gb182 ≠ gb179));clear HO_6;clear HO_39;clear HL181_0;clear HL181_1;clear BK179;clear HR181_0;clear HR181_1;clear HB;have HO_6:=n0_;have HO_39:=n1_;have HL181_0:=n2_;have HL181_1:=n3_;have BK179:=n4_;have HR181_0:=n5_;have HR181_1:=n6_;have HB:=n7_;have BK182:=n8_;have GW182:=n9_;have GE182:=n10_;have NB179_182:=n11_;have NB182_179:=n12_;clear n0_ n1_ n2_ n3_ n4_ n5_ n6_ n7_ n8_ n9_ n10_ n11_ n12_;clear hb hbox hg;have hnb20:=NB182_179.out;have hnc20:=NB179_182.out;have hcz21_0:w19.cell? ⟨gb182,0,none⟩=some (.slice none 0 0):=(qC BK182.out 0).trans rfl;have hcz21_1:w19.cell? ⟨gb182,1,none⟩=some (.slice none 0 0):=(qC BK182.out 1).trans rfl;have hfz21_0:=qF BK182.out 0;have hfz21_1:=qF BK182.out 1))
                  go_roundg k3
                  case measure=>have:=HK1.out;have:=HK2.out;have:=HK3.out;omega
                  case rel=>exact ⟨(true),(wrap64 (x41_3 + 1)),(by first|rfl|(simp;done)|(simp [*];done)),(by first|rfl|(simp;done)|(simp [*];done)),H',⟨by have:=HK1.out;have:=HK2.out;have:=HK3.out;omega⟩,⟨by (with_reducible repeat (first|apply Kd.N_alloc|apply Kd.N_drewN|apply Kd.N_drew));exact Kd.N_mono (Kd.N_far (p:=⟨gb182,1,none⟩) (Kd.N_far (p:=⟨gb182,0,none⟩) (Kd.N_mono HO_6.out (fun k_ hk=>(⟨hk,hk.2⟩:_∧k_ ≠ gb182))) (fun _ hk=>hk.2) (.slice A181_0 ((rd_T37 x6_2 x41_3).f0).length c181_0)) (fun _ hk=>hk.2) (.slice A181_1 ((rd_T37 x6_2 x41_3).f1).length c181_1)) (fun _ hk=>⟨hk.1.1.1,hk.1.1.2⟩)⟩,⟨by (with_reducible repeat (first|apply Kd.N_alloc|apply Kd.N_drewN|apply Kd.N_drew));exact Kd.N_mono (Kd.N_far (p:=⟨gb182,1,none⟩) (Kd.N_far (p:=⟨gb182,0,none⟩) (Kd.N_mono HO_39.out (fun k_ hk=>(⟨hk,hk.2⟩:_∧k_ ≠ gb182))) (fun _ hk=>hk.2) (.slice A181_0 ((rd_T37 x6_2 x41_3).f0).length c181_0)) (fun _ hk=>hk.2) (.slice A181_1 ((rd_T37 x6_2 x41_3).f1).length c181_1)) (fun _ hk=>⟨hk.1.1.1,hk.1.1.2⟩)⟩,⟨by (with_reducible repeat (first|refine qN ?_ _|refine qW ?_|refine qL ?_ _));refine qR ?_ NB179_182.out _;(with_reducible repeat (first|refine qN ?_ _|refine qW ?_|refine qL ?_ _));refine qR ?_ NB179_182.out _;(with_reducible repeat (first|refine qN ?_ _|refine qW ?_|refine qL ?_ _));exact BK179.out⟩,⟨by repeat (first|(with_reducible first|exact HB.out|apply qA|apply qD|apply qO|refine qS ?_ GE179.out|refine qS ?_ GE182.out)|exact HB.out)⟩⟩
                 ·replace c18:=Bool.eq_false_iff.mpr c18;subst c18;have H1:(if 0 < (((rd_T37 x6_2 x41_3).f1).length:Int) then (if (rd ((rd_T37 x6_2 x41_3).f1) 0)=(rd ((rd_T37 l0 x28_1).f1) x35_2) then ((spec_l7Same.f k3 ((rd_T37 x6_2 x41_3).f0) ((rd_T37 l0 x28_1).f0)).bind fun t184=>(spec_CoverOf.l2 k3 a1 x6_2 (rd ((rd_T37 l0 x28_1).f1) x35_2) t184 l0 (l0.length:Int) x28_1 ((rd_T37 l0 x28_1).f1) (((rd_T37 l0 x28_1).f1).length:Int) x35_2 x6_2 (x6_2.length:Int) (wrap64 (x41_3 + 1)) ((rd_T37 l0 x28_1).f0) ((rd_T37 l0 x28_1).f1))) else (spec_CoverOf.l2 k3 a1 x6_2 (rd ((rd_T37 l0 x28_1).f1) x35_2) false l0 (l0.length:Int) x28_1 ((rd_T37 l0 x28_1).f1) (((rd_T37 l0 x28_1).f1).length:Int) x35_2 x6_2 (x6_2.length:Int) (wrap64 (x41_3 + 1)) ((rd_T37 l0 x28_1).f0) ((rd_T37 l0 x28_1).f1))) else (none))=some (r1,r2):=by rw [if_neg (show ¬ (false=true) by decide)] at H;exact H
                  clear H;have H:=H1;clear H1;by_cases c22:0 < (((rd_T37 x6_2 x41_3).f1).length:Int)
                  ·rw [if_pos c22] at H;have c22b0:decide (0 < (((rd_T37 x6_2 x41_3).f1).length:Int))=true:=decide_eq_true c22;have c22b1:decide (0 < ((rd_T37 x6_2 x41_3).f1).length)=true:=decide_eq_true (by omega);clear c22;by_cases c23:(rd ((rd_T37 x6_2 x41_3).f1) 0)=(rd ((rd_T37 l0 x28_1).f1) x35_2)
                   ·rw [if_pos c23] at H;have c23b0:((rd ((rd_T37 x6_2 x41_3).f1) 0) == (rd ((rd_T37 l0 x28_1).f1) x35_2))=true:=beq_iff_eq.mpr c23;have c23b1:((rd ((rd_T37 x6_2 x41_3).f1) 0) != (rd ((rd_T37 l0 x28_1).f1) x35_2))=false:=bne_eq_false_iff_eq.mpr c23;clear c23;replace H:=Option.bind_eq_some_iff.mp H;obtain ⟨t184,A240,H⟩:=H;replace H:(spec_CoverOf.l2 k3 a1 x6_2 (rd ((rd_T37 l0 x28_1).f1) x35_2) t184 l0 (l0.length:Int) x28_1 ((rd_T37 l0 x28_1).f1) (((rd_T37 l0 x28_1).f1).length:Int) x35_2 x6_2 (x6_2.length:Int) (wrap64 (x41_3 + 1)) ((rd_T37 l0 x28_1).f0) ((rd_T37 l0 x28_1).f1))=some (r1,r2):=H;have A24:=qK A240;clear A240;have H':=qK H;clear H;have p181:0≤(x41_3:Int):=of_decide_eq_true (by first|(with_reducible assumption)|assumption);have q181:x41_3 < (x6_2.length:Int):=of_decide_eq_true (by first|(with_reducible assumption)|assumption);obtain ⟨ad181,A181_0,c181_0,A181_1,c181_1,e181,hx181_0,hx181_1,hl181_0,hi181_0,hl181_1,hi181_1⟩:=at_T37 (Kd.N_reads' HO_39.out).2.2 x41_3 p181 q181;cases e181
                    obtain ⟨ce181,hce181,hMe181,hcc181⟩:=Kd.N_get HO_39.out z37 x41_3 p181 (by first|exact q181|exact of_decide_eq_true (by first|(with_reducible assumption)|assumption)|(have e_:=(Kd.N_reads' HO_39.out).1;omega));obtain ⟨ua181_0,uc181_0,ua181_1,uc181_1,rfl,ul181_0,ge181_0,ul181_1,ge181_1⟩:=k37_openF hMe181;have hv181_0:=hcc181 0 _ rfl;rw [Nat.add_zero] at hv181_0;replace hv181_0:=Option.some.inj (hv181_0.symm.trans hx181_0);injection hv181_0 with hva_ hvn_ hvc_
                    rw [hva_] at ge181_0;rw [hvc_] at ul181_0;have HL181_0:=qK (show Kd.V (Kd.int .i64) 3 _ w.heap.size _ _ ((rd_T37 x6_2 x41_3).f0) from Kd.V_mk ul181_0 ge181_0);clear hva_ hvn_ hvc_ ge181_0 ul181_0;have hv181_1:=hcc181 1 _ rfl;rw [add_field _ _ 1 (by omega)] at hv181_1;replace hv181_1:=Option.some.inj (hv181_1.symm.trans hx181_1);injection hv181_1 with hva_ hvn_ hvc_
                    rw [hva_] at ge181_1;rw [hvc_] at ul181_1;have HL181_1:=qK (show Kd.V (Kd.int .i64) 3 _ w.heap.size _ _ ((rd_T37 x6_2 x41_3).f1) from Kd.V_mk ul181_1 ge181_1);clear hva_ hvn_ hvc_ ge181_1 ul181_1;clear hcc181 hce181;have HR181_0:=qK hi181_0;have HC181_0:=qK hl181_0;clear hi181_0 hl181_0;have HR181_1:=qK hi181_1;have HC181_1:=qK hl181_1;clear hi181_1 hl181_1;replace p181:=eq_true p181;replace q181:=eq_true q181;go_wp2_with (first|((with_reducible refine gate_dst (N:=13) rfl ?_);refine box_event ?hg (N:=13) ?hd (cs:=#[.slice none 0 0,.slice none 0 0]) (t:=37) ?hr ?_;(case hd=>rfl);(case hg=>rfl);(case hr=>(go_simp;try rfl));intro gb182 hg w25 hbox hb;have n0_:=qK (Kd.N_below (Kd.N_elderB (by (with_reducible repeat (first|apply Kd.N_alloc|apply Kd.N_drewN|apply Kd.N_drew));exact HO_6.out) gb182 (Nat.le_of_eq hg.symm)) hb);have n1_:=qK (Kd.N_below (Kd.N_elderB (by (with_reducible repeat (first|apply Kd.N_alloc|apply Kd.N_drewN|apply Kd.N_drew));exact HO_39.out) gb182 (Nat.le_of_eq hg.symm)) hb);have n2_:=qK (Kd.V_below (Kd.V_elderB (by (with_reducible repeat (first|apply Kd.V_alloc|apply Kd.V_drewN|apply Kd.V_drew));exact HL181_0.out) gb182 (Nat.le_of_eq hg.symm)) hb);have n3_:=qK (Kd.V_below (Kd.V_elderB (by (with_reducible repeat (first|apply Kd.V_alloc|apply Kd.V_drewN|apply Kd.V_drew));exact HL181_1.out) gb182 (Nat.le_of_eq hg.symm)) hb);have n4_:=qK (qB (g:=gb179) (o:=_) (by (with_reducible repeat (first|refine qN ?_ _|refine qW ?_|refine qL ?_ _));exact BK179.out) hb);have n5_:=qK (cB (by repeat (first|(with_reducible exact HR181_0.out)|(with_reducible first|refine cL ?_ _|refine cN ?_ _|refine cW ?_)|exact HR181_0.out)) hb);have n6_:=qK (cB (by repeat (first|(with_reducible exact HR181_1.out)|(with_reducible first|refine cL ?_ _|refine cN ?_ _|refine cW ?_)|exact HR181_1.out)) hb);have n7_:=qK (qT (by repeat (with_reducible first|exact HB.out|apply qA|apply qD|apply qO|refine qS ?_ GE179.out)) hb);have n8_:=qK (hbox);have n9_:=qK ((by rw [hg];exact (qZ (by repeat (with_reducible first|exact HB.out|apply qA|apply qD|apply qO|refine qS ?_ GE179.out))):w.heap.size≤gb182));have n10_:=qK ((by rw [hg];exact (qZ (by repeat (with_reducible first|exact HB.out|apply qA|apply qD|apply qO|refine qS ?_ GE179.out))):w.heap.size≤gb182));have n11_:=qK ((by rw [hg];exact Nat.ne_of_lt (blk_lt (g:=gb179) (o:=_) (by (with_reducible repeat (first|refine qN ?_ _|refine qW ?_|refine qL ?_ _));exact BK179.out)):gb179 ≠ gb182));have n12_:=qK ((by rw [hg];exact Nat.ne_of_gt (blk_lt (g:=gb179) (o:=_) (by (with_reducible repeat (first|refine qN ?_ _|refine qW ?_|refine qL ?_ _));exact BK179.out)):gb182 ≠ gb179));clear HO_6;clear HO_39;clear HL181_0;clear HL181_1;clear BK179;clear HR181_0;clear HR181_1;clear HB;have HO_6:=n0_;have HO_39:=n1_;have HL181_0:=n2_;have HL181_1:=n3_;have BK179:=n4_;have HR181_0:=n5_;have HR181_1:=n6_;have HB:=n7_;have BK182:=n8_;have GW182:=n9_;have GE182:=n10_;have NB179_182:=n11_;have NB182_179:=n12_;clear n0_ n1_ n2_ n3_ n4_ n5_ n6_ n7_ n8_ n9_ n10_ n11_ n12_;clear hb hbox hg;have hnb26:=NB182_179.out;have hnc26:=NB179_182.out;have hcz27_0:w25.cell? ⟨gb182,0,none⟩=some (.slice none 0 0):=(qC BK182.out 0).trans rfl;have hcz27_1:w25.cell? ⟨gb182,1,none⟩=some (.slice none 0 0):=(qC BK182.out 1).trans rfl;have hfz27_0:=qF BK182.out 0;have hfz27_1:=qF BK182.out 1)|((with_reducible refine gate_store (t:=37) (p:=13) rfl ?_);refine store_event (t:=37) (p:=13) (v:=?vo_w28) (w1:=((w25.setCell ⟨gb182,0,none⟩ (.slice A181_0 ((rd_T37 x6_2 x41_3).f0).length c181_0)).setCell ⟨gb182,1,none⟩ (.slice A181_1 ((rd_T37 x6_2 x41_3).f1).length c181_1))) ?hg ?ho ?hn ?hr ?_;(case ho=>rfl);(case hg=>rfl);(case hn=>rfl);(case hr=>(go_simp;try rfl));intro w28 hw;have n0_:Aside0 (Kd.N k37 37 w28 w.heap.size (fun k_=>(w.heap.size≤k_)∧k_ ≠ gb179∧k_ ≠ gb182) (.slice (some ad181) x6_2.length co14) x6_2):=⟨(by rw [hw];exact (by (with_reducible repeat (first|apply Kd.N_alloc|apply Kd.N_drewN|apply Kd.N_drew));exact Kd.N_mono (Kd.N_far (p:=⟨gb182,1,none⟩) (Kd.N_far (p:=⟨gb182,0,none⟩) (Kd.N_mono HO_6.out (fun k_ hk=>(⟨hk,hk.2⟩:_∧k_ ≠ gb182))) (fun _ hk=>hk.2) (.slice A181_0 ((rd_T37 x6_2 x41_3).f0).length c181_0)) (fun _ hk=>hk.2) (.slice A181_1 ((rd_T37 x6_2 x41_3).f1).length c181_1)) (fun _ hk=>⟨hk.1.1.1,⟨hk.1.1.2,hk.1.2⟩⟩)))⟩;have n1_:Aside0 (Kd.N k37 37 w28 w.heap.size (fun k_=>(w.heap.size≤k_)∧k_ ≠ gb179∧k_ ≠ gb182) (.slice (some ad181) x6_2.length co14) x6_2):=⟨(by rw [hw];exact (by (with_reducible repeat (first|apply Kd.N_alloc|apply Kd.N_drewN|apply Kd.N_drew));exact Kd.N_mono (Kd.N_far (p:=⟨gb182,1,none⟩) (Kd.N_far (p:=⟨gb182,0,none⟩) (Kd.N_mono HO_39.out (fun k_ hk=>(⟨hk,hk.2⟩:_∧k_ ≠ gb182))) (fun _ hk=>hk.2) (.slice A181_0 ((rd_T37 x6_2 x41_3).f0).length c181_0)) (fun _ hk=>hk.2) (.slice A181_1 ((rd_T37 x6_2 x41_3).f1).length c181_1)) (fun _ hk=>⟨hk.1.1.1,⟨hk.1.1.2,hk.1.2⟩⟩)))⟩;have n2_:Aside0 (Kd.V (Kd.int .i64) 3 w28 w.heap.size (fun k_=>(w.heap.size≤k_)∧some k_ ≠ (.slice (some ad181) x6_2.length co14:Value).ownBlock∧k_ ≠ gb179∧k_ ≠ gb182) (.slice A181_0 ((rd_T37 x6_2 x41_3).f0).length c181_0) ((rd_T37 x6_2 x41_3).f0)):=⟨(by rw [hw];exact (by (with_reducible repeat (first|apply Kd.V_alloc|apply Kd.V_drewN|apply Kd.V_drew));exact Kd.V_mono (Kd.V_far (p:=⟨gb182,1,none⟩) (Kd.V_far (p:=⟨gb182,0,none⟩) (Kd.V_mono HL181_0.out (fun k_ hk=>(⟨hk,hk.2⟩:_∧k_ ≠ gb182))) (fun _ hk=>hk.2) (.slice A181_0 ((rd_T37 x6_2 x41_3).f0).length c181_0)) (fun _ hk=>hk.2) (.slice A181_1 ((rd_T37 x6_2 x41_3).f1).length c181_1)) (fun _ hk=>⟨hk.1.1.1.1,⟨hk.1.1.2,⟨hk.1.1.1.2,hk.1.2⟩⟩⟩)))⟩;have n3_:Aside0 (Kd.V (Kd.int .i64) 3 w28 w.heap.size (fun k_=>(w.heap.size≤k_)∧some k_ ≠ (.slice (some ad181) x6_2.length co14:Value).ownBlock∧k_ ≠ gb179∧k_ ≠ gb182) (.slice A181_1 ((rd_T37 x6_2 x41_3).f1).length c181_1) ((rd_T37 x6_2 x41_3).f1)):=⟨(by rw [hw];exact (by (with_reducible repeat (first|apply Kd.V_alloc|apply Kd.V_drewN|apply Kd.V_drew));exact Kd.V_mono (Kd.V_far (p:=⟨gb182,1,none⟩) (Kd.V_far (p:=⟨gb182,0,none⟩) (Kd.V_mono HL181_1.out (fun k_ hk=>(⟨hk,hk.2⟩:_∧k_ ≠ gb182))) (fun _ hk=>hk.2) (.slice A181_0 ((rd_T37 x6_2 x41_3).f0).length c181_0)) (fun _ hk=>hk.2) (.slice A181_1 ((rd_T37 x6_2 x41_3).f1).length c181_1)) (fun _ hk=>⟨hk.1.1.1.1,⟨hk.1.1.2,⟨hk.1.1.1.2,hk.1.2⟩⟩⟩)))⟩;have n4_:Aside0 (w28.heap[gb179]?=some (.cells #[.slice A178_0 ((rd_T37 l0 x28_1).f0).length c178_0,.slice (some ad180) ((rd_T37 l0 x28_1).f1).length c178_1] 37 (0,0))):=⟨(by rw [hw];exact (by (with_reducible repeat (first|refine qN ?_ _|refine qW ?_|refine qL ?_ _));refine qR ?_ NB179_182.out _;(with_reducible repeat (first|refine qN ?_ _|refine qW ?_|refine qL ?_ _));refine qR ?_ NB179_182.out _;(with_reducible repeat (first|refine qN ?_ _|refine qW ?_|refine qL ?_ _));exact BK179.out))⟩;have n5_:Aside0 (w28.heap[gb182]?=some (.cells #[.slice A181_0 ((rd_T37 x6_2 x41_3).f0).length c181_0,.slice A181_1 ((rd_T37 x6_2 x41_3).f1).length c181_1] 37 (0,0))):=⟨(by rw [hw];exact (by (with_reducible repeat (first|refine qN ?_ _|refine qW ?_|refine qL ?_ _));refine qP (cs:=#[.slice A181_0 ((rd_T37 x6_2 x41_3).f0).length c181_0,.slice none 0 0]) ?_ 1 _ rfl;(with_reducible repeat (first|refine qN ?_ _|refine qW ?_|refine qL ?_ _));refine qP (cs:=#[.slice none 0 0,.slice none 0 0]) ?_ 0 _ rfl;(with_reducible repeat (first|refine qN ?_ _|refine qW ?_|refine qL ?_ _));exact BK182.out))⟩;have n6_:Aside0 (Below w.heap.size w w28):=⟨(by rw [hw];exact (by repeat (with_reducible first|exact HB.out|apply qA|apply qD|apply qO|refine qS ?_ GE179.out|refine qS ?_ GE182.out)))⟩;clear hw;clear HO_6;clear HO_39;clear HL181_0;clear HL181_1;clear BK179;clear BK182;clear HB;have HO_6:=n0_;have HO_39:=n1_;have HL181_0:=n2_;have HL181_1:=n3_;have BK179:=n4_;have BK182:=n5_;have HB:=n6_;clear n0_ n1_ n2_ n3_ n4_ n5_ n6_;clear HR181_0;have HR181_0:=qK ((Kd.V_reads' HL181_0.out).2.2);clear HR181_1;have HR181_1:=qK ((Kd.V_reads' HL181_1.out).2.2);have hcz29_0:w28.cell? ⟨gb182,0,none⟩=some (.slice A181_0 ((rd_T37 x6_2 x41_3).f0).length c181_0):=(qC BK182.out 0).trans rfl;have hcz29_1:w28.cell? ⟨gb182,1,none⟩=some (.slice A181_1 ((rd_T37 x6_2 x41_3).f1).length c181_1):=(qC BK182.out 1).trans rfl;have hfz29_0:=qF BK182.out 0;have hfz29_1:=qF BK182.out 1;have p183:0≤(0:Int):=(by omega);have q183:0 < (((rd_T37 x6_2 x41_3).f1).length:Int):=of_decide_eq_true (by first|(with_reducible assumption)|assumption);obtain ⟨ad183,e183,hx183_0⟩:=Kd.at_int (by repeat (first|(with_reducible exact HR181_1.out)|(with_reducible first|refine cL ?_ _|refine cN ?_ _|refine cW ?_)|exact HR181_1.out)) 0 p183 q183;cases e183;have qi183:(0 < ((rd_T37 x6_2 x41_3).f1).length)=True:=eq_true (by omega);(try rw [show ((0:Int)).toNat=0 from rfl] at hx183_0);(try rw [Addr.add_zero'] at hx183_0);replace p183:=eq_true p183;replace q183:=eq_true q183;have hcz30_0:w28.cell? ⟨gb179,0,none⟩=some (.slice A178_0 ((rd_T37 l0 x28_1).f0).length c178_0):=(qC BK179.out 0).trans rfl;have hcz30_1:w28.cell? ⟨gb179,1,none⟩=some (.slice (some ad180) ((rd_T37 l0 x28_1).f1).length c178_1):=(qC BK179.out 1).trans rfl;have hfz30_0:=qF BK179.out 0;have hfz30_1:=qF BK179.out 1)|(go_at_call 20;(with_reducible refine (spec_l7Same.calls k3 _ _ ((rd_T37 x6_2 x41_3).f0) _ _ ((rd_T37 l0 x28_1).f0) t184 _ ?side1 ?side2 ?side3 ?side4 A24.out).mono ?_);(case side1=>repeat (first|exact (by repeat (first|(with_reducible exact HR181_0.out)|(with_reducible first|refine cL ?_ _|refine cN ?_ _|refine cW ?_)|exact HR181_0.out))|(with_reducible first|refine cL ?_ _|refine cN ?_ _|refine cW ?_)));(case side2=>exact HC181_0.out);(case side3=>repeat (first|exact (cB HR178_0.out HB.out)|(with_reducible first|refine cL ?_ _|refine cN ?_ _|refine cW ?_)));(case side4=>exact HC178_0.out);rintro e w' ⟨rfl,⟨nd,rfl⟩⟩))
                    go_roundg k3
                    case measure=>have:=HK1.out;have:=HK2.out;have:=HK3.out;omega
                    case rel=>exact ⟨(t184),(wrap64 (x41_3 + 1)),(by first|rfl|(simp;done)|(simp [*];done)),(by first|rfl|(simp;done)|(simp [*];done)),H',⟨by have:=HK1.out;have:=HK2.out;have:=HK3.out;omega⟩,⟨by (with_reducible repeat (first|apply Kd.N_alloc|apply Kd.N_drewN|apply Kd.N_drew));exact Kd.N_mono HO_6.out (fun _ hk=>⟨hk.1,hk.2.1⟩)⟩,⟨by (with_reducible repeat (first|apply Kd.N_alloc|apply Kd.N_drewN|apply Kd.N_drew));exact Kd.N_mono HO_39.out (fun _ hk=>⟨hk.1,hk.2.1⟩)⟩,⟨by (with_reducible repeat (first|refine qN ?_ _|refine qW ?_|refine qL ?_ _));exact BK179.out⟩,⟨by repeat (first|(with_reducible first|exact HB.out|apply qA|apply qD|apply qO|refine qS ?_ GE179.out|refine qS ?_ GE182.out)|exact HB.out)⟩⟩
                   ·rw [if_neg c23] at H;have c23b0:((rd ((rd_T37 x6_2 x41_3).f1) 0) == (rd ((rd_T37 l0 x28_1).f1) x35_2))=false:=beq_eq_false_iff_ne.mpr c23;have c23b1:((rd ((rd_T37 x6_2 x41_3).f1) 0) != (rd ((rd_T37 l0 x28_1).f1) x35_2))=true:=bne_iff_ne.mpr c23;have H':=qK H;clear H;have p181:0≤(x41_3:Int):=of_decide_eq_true (by first|(with_reducible assumption)|assumption);have q181:x41_3 < (x6_2.length:Int):=of_decide_eq_true (by first|(with_reducible assumption)|assumption);obtain ⟨ad181,A181_0,c181_0,A181_1,c181_1,e181,hx181_0,hx181_1,hl181_0,hi181_0,hl181_1,hi181_1⟩:=at_T37 (Kd.N_reads' HO_39.out).2.2 x41_3 p181 q181;cases e181
                    obtain ⟨ce181,hce181,hMe181,hcc181⟩:=Kd.N_get HO_39.out z37 x41_3 p181 (by first|exact q181|exact of_decide_eq_true (by first|(with_reducible assumption)|assumption)|(have e_:=(Kd.N_reads' HO_39.out).1;omega));obtain ⟨ua181_0,uc181_0,ua181_1,uc181_1,rfl,ul181_0,ge181_0,ul181_1,ge181_1⟩:=k37_openF hMe181;have hv181_0:=hcc181 0 _ rfl;rw [Nat.add_zero] at hv181_0;replace hv181_0:=Option.some.inj (hv181_0.symm.trans hx181_0);injection hv181_0 with hva_ hvn_ hvc_
                    rw [hva_] at ge181_0;rw [hvc_] at ul181_0;have HL181_0:=qK (show Kd.V (Kd.int .i64) 3 _ w.heap.size _ _ ((rd_T37 x6_2 x41_3).f0) from Kd.V_mk ul181_0 ge181_0);clear hva_ hvn_ hvc_ ge181_0 ul181_0;have hv181_1:=hcc181 1 _ rfl;rw [add_field _ _ 1 (by omega)] at hv181_1;replace hv181_1:=Option.some.inj (hv181_1.symm.trans hx181_1);injection hv181_1 with hva_ hvn_ hvc_
                    rw [hva_] at ge181_1;rw [hvc_] at ul181_1;have HL181_1:=qK (show Kd.V (Kd.int .i64) 3 _ w.heap.size _ _ ((rd_T37 x6_2 x41_3).f1) from Kd.V_mk ul181_1 ge181_1);clear hva_ hvn_ hvc_ ge181_1 ul181_1;clear hcc181 hce181;have HR181_0:=qK hi181_0;have HC181_0:=qK hl181_0;clear hi181_0 hl181_0;have HR181_1:=qK hi181_1;have HC181_1:=qK hl181_1;clear hi181_1 hl181_1;replace p181:=eq_true p181;replace q181:=eq_true q181;go_wp2_with (first|((with_reducible refine gate_dst (N:=13) rfl ?_);refine box_event ?hg (N:=13) ?hd (cs:=#[.slice none 0 0,.slice none 0 0]) (t:=37) ?hr ?_;(case hd=>rfl);(case hg=>rfl);(case hr=>(go_simp;try rfl));intro gb182 hg w31 hbox hb;have n0_:=qK (Kd.N_below (Kd.N_elderB (by (with_reducible repeat (first|apply Kd.N_alloc|apply Kd.N_drewN|apply Kd.N_drew));exact HO_6.out) gb182 (Nat.le_of_eq hg.symm)) hb);have n1_:=qK (Kd.N_below (Kd.N_elderB (by (with_reducible repeat (first|apply Kd.N_alloc|apply Kd.N_drewN|apply Kd.N_drew));exact HO_39.out) gb182 (Nat.le_of_eq hg.symm)) hb);have n2_:=qK (Kd.V_below (Kd.V_elderB (by (with_reducible repeat (first|apply Kd.V_alloc|apply Kd.V_drewN|apply Kd.V_drew));exact HL181_0.out) gb182 (Nat.le_of_eq hg.symm)) hb);have n3_:=qK (Kd.V_below (Kd.V_elderB (by (with_reducible repeat (first|apply Kd.V_alloc|apply Kd.V_drewN|apply Kd.V_drew));exact HL181_1.out) gb182 (Nat.le_of_eq hg.symm)) hb);have n4_:=qK (qB (g:=gb179) (o:=_) (by (with_reducible repeat (first|refine qN ?_ _|refine qW ?_|refine qL ?_ _));exact BK179.out) hb);have n5_:=qK (cB (by repeat (first|(with_reducible exact HR181_0.out)|(with_reducible first|refine cL ?_ _|refine cN ?_ _|refine cW ?_)|exact HR181_0.out)) hb);have n6_:=qK (cB (by repeat (first|(with_reducible exact HR181_1.out)|(with_reducible first|refine cL ?_ _|refine cN ?_ _|refine cW ?_)|exact HR181_1.out)) hb);have n7_:=qK (qT (by repeat (with_reducible first|exact HB.out|apply qA|apply qD|apply qO|refine qS ?_ GE179.out)) hb);have n8_:=qK (hbox);have n9_:=qK ((by rw [hg];exact (qZ (by repeat (with_reducible first|exact HB.out|apply qA|apply qD|apply qO|refine qS ?_ GE179.out))):w.heap.size≤gb182));have n10_:=qK ((by rw [hg];exact (qZ (by repeat (with_reducible first|exact HB.out|apply qA|apply qD|apply qO|refine qS ?_ GE179.out))):w.heap.size≤gb182));have n11_:=qK ((by rw [hg];exact Nat.ne_of_lt (blk_lt (g:=gb179) (o:=_) (by (with_reducible repeat (first|refine qN ?_ _|refine qW ?_|refine qL ?_ _));exact BK179.out)):gb179 ≠ gb182));have n12_:=qK ((by rw [hg];exact Nat.ne_of_gt (blk_lt (g:=gb179) (o:=_) (by (with_reducible repeat (first|refine qN ?_ _|refine qW ?_|refine qL ?_ _));exact BK179.out)):gb182 ≠ gb179));clear HO_6;clear HO_39;clear HL181_0;clear HL181_1;clear BK179;clear HR181_0;clear HR181_1;clear HB;have HO_6:=n0_;have HO_39:=n1_;have HL181_0:=n2_;have HL181_1:=n3_;have BK179:=n4_;have HR181_0:=n5_;have HR181_1:=n6_;have HB:=n7_;have BK182:=n8_;have GW182:=n9_;have GE182:=n10_;have NB179_182:=n11_;have NB182_179:=n12_;clear n0_ n1_ n2_ n3_ n4_ n5_ n6_ n7_ n8_ n9_ n10_ n11_ n12_;clear hb hbox hg;have hnb32:=NB182_179.out;have hnc32:=NB179_182.out;have hcz33_0:w31.cell? ⟨gb182,0,none⟩=some (.slice none 0 0):=(qC BK182.out 0).trans rfl;have hcz33_1:w31.cell? ⟨gb182,1,none⟩=some (.slice none 0 0):=(qC BK182.out 1).trans rfl;have hfz33_0:=qF BK182.out 0;have hfz33_1:=qF BK182.out 1)|((with_reducible refine gate_store (t:=37) (p:=13) rfl ?_);refine store_event (t:=37) (p:=13) (v:=?vo_w34) (w1:=((w31.setCell ⟨gb182,0,none⟩ (.slice A181_0 ((rd_T37 x6_2 x41_3).f0).length c181_0)).setCell ⟨gb182,1,none⟩ (.slice A181_1 ((rd_T37 x6_2 x41_3).f1).length c181_1))) ?hg ?ho ?hn ?hr ?_;(case ho=>rfl);(case hg=>rfl);(case hn=>rfl);(case hr=>(go_simp;try rfl));intro w34 hw;have n0_:Aside0 (Kd.N k37 37 w34 w.heap.size (fun k_=>(w.heap.size≤k_)∧k_ ≠ gb179∧k_ ≠ gb182) (.slice (some ad181) x6_2.length co14) x6_2):=⟨(by rw [hw];exact (by (with_reducible repeat (first|apply Kd.N_alloc|apply Kd.N_drewN|apply Kd.N_drew));exact Kd.N_mono (Kd.N_far (p:=⟨gb182,1,none⟩) (Kd.N_far (p:=⟨gb182,0,none⟩) (Kd.N_mono HO_6.out (fun k_ hk=>(⟨hk,hk.2⟩:_∧k_ ≠ gb182))) (fun _ hk=>hk.2) (.slice A181_0 ((rd_T37 x6_2 x41_3).f0).length c181_0)) (fun _ hk=>hk.2) (.slice A181_1 ((rd_T37 x6_2 x41_3).f1).length c181_1)) (fun _ hk=>⟨hk.1.1.1,⟨hk.1.1.2,hk.1.2⟩⟩)))⟩;have n1_:Aside0 (Kd.N k37 37 w34 w.heap.size (fun k_=>(w.heap.size≤k_)∧k_ ≠ gb179∧k_ ≠ gb182) (.slice (some ad181) x6_2.length co14) x6_2):=⟨(by rw [hw];exact (by (with_reducible repeat (first|apply Kd.N_alloc|apply Kd.N_drewN|apply Kd.N_drew));exact Kd.N_mono (Kd.N_far (p:=⟨gb182,1,none⟩) (Kd.N_far (p:=⟨gb182,0,none⟩) (Kd.N_mono HO_39.out (fun k_ hk=>(⟨hk,hk.2⟩:_∧k_ ≠ gb182))) (fun _ hk=>hk.2) (.slice A181_0 ((rd_T37 x6_2 x41_3).f0).length c181_0)) (fun _ hk=>hk.2) (.slice A181_1 ((rd_T37 x6_2 x41_3).f1).length c181_1)) (fun _ hk=>⟨hk.1.1.1,⟨hk.1.1.2,hk.1.2⟩⟩)))⟩;have n2_:Aside0 (Kd.V (Kd.int .i64) 3 w34 w.heap.size (fun k_=>(w.heap.size≤k_)∧some k_ ≠ (.slice (some ad181) x6_2.length co14:Value).ownBlock∧k_ ≠ gb179∧k_ ≠ gb182) (.slice A181_0 ((rd_T37 x6_2 x41_3).f0).length c181_0) ((rd_T37 x6_2 x41_3).f0)):=⟨(by rw [hw];exact (by (with_reducible repeat (first|apply Kd.V_alloc|apply Kd.V_drewN|apply Kd.V_drew));exact Kd.V_mono (Kd.V_far (p:=⟨gb182,1,none⟩) (Kd.V_far (p:=⟨gb182,0,none⟩) (Kd.V_mono HL181_0.out (fun k_ hk=>(⟨hk,hk.2⟩:_∧k_ ≠ gb182))) (fun _ hk=>hk.2) (.slice A181_0 ((rd_T37 x6_2 x41_3).f0).length c181_0)) (fun _ hk=>hk.2) (.slice A181_1 ((rd_T37 x6_2 x41_3).f1).length c181_1)) (fun _ hk=>⟨hk.1.1.1.1,⟨hk.1.1.2,⟨hk.1.1.1.2,hk.1.2⟩⟩⟩)))⟩;have n3_:Aside0 (Kd.V (Kd.int .i64) 3 w34 w.heap.size (fun k_=>(w.heap.size≤k_)∧some k_ ≠ (.slice (some ad181) x6_2.length co14:Value).ownBlock∧k_ ≠ gb179∧k_ ≠ gb182) (.slice A181_1 ((rd_T37 x6_2 x41_3).f1).length c181_1) ((rd_T37 x6_2 x41_3).f1)):=⟨(by rw [hw];exact (by (with_reducible repeat (first|apply Kd.V_alloc|apply Kd.V_drewN|apply Kd.V_drew));exact Kd.V_mono (Kd.V_far (p:=⟨gb182,1,none⟩) (Kd.V_far (p:=⟨gb182,0,none⟩) (Kd.V_mono HL181_1.out (fun k_ hk=>(⟨hk,hk.2⟩:_∧k_ ≠ gb182))) (fun _ hk=>hk.2) (.slice A181_0 ((rd_T37 x6_2 x41_3).f0).length c181_0)) (fun _ hk=>hk.2) (.slice A181_1 ((rd_T37 x6_2 x41_3).f1).length c181_1)) (fun _ hk=>⟨hk.1.1.1.1,⟨hk.1.1.2,⟨hk.1.1.1.2,hk.1.2⟩⟩⟩)))⟩;have n4_:Aside0 (w34.heap[gb179]?=some (.cells #[.slice A178_0 ((rd_T37 l0 x28_1).f0).length c178_0,.slice (some ad180) ((rd_T37 l0 x28_1).f1).length c178_1] 37 (0,0))):=⟨(by rw [hw];exact (by (with_reducible repeat (first|refine qN ?_ _|refine qW ?_|refine qL ?_ _));refine qR ?_ NB179_182.out _;(with_reducible repeat (first|refine qN ?_ _|refine qW ?_|refine qL ?_ _));refine qR ?_ NB179_182.out _;(with_reducible repeat (first|refine qN ?_ _|refine qW ?_|refine qL ?_ _));exact BK179.out))⟩;have n5_:Aside0 (w34.heap[gb182]?=some (.cells #[.slice A181_0 ((rd_T37 x6_2 x41_3).f0).length c181_0,.slice A181_1 ((rd_T37 x6_2 x41_3).f1).length c181_1] 37 (0,0))):=⟨(by rw [hw];exact (by (with_reducible repeat (first|refine qN ?_ _|refine qW ?_|refine qL ?_ _));refine qP (cs:=#[.slice A181_0 ((rd_T37 x6_2 x41_3).f0).length c181_0,.slice none 0 0]) ?_ 1 _ rfl;(with_reducible repeat (first|refine qN ?_ _|refine qW ?_|refine qL ?_ _));refine qP (cs:=#[.slice none 0 0,.slice none 0 0]) ?_ 0 _ rfl;(with_reducible repeat (first|refine qN ?_ _|refine qW ?_|refine qL ?_ _));exact BK182.out))⟩;have n6_:Aside0 (Below w.heap.size w w34):=⟨(by rw [hw];exact (by repeat (with_reducible first|exact HB.out|apply qA|apply qD|apply qO|refine qS ?_ GE179.out|refine qS ?_ GE182.out)))⟩;clear hw;clear HO_6;clear HO_39;clear HL181_0;clear HL181_1;clear BK179;clear BK182;clear HB;have HO_6:=n0_;have HO_39:=n1_;have HL181_0:=n2_;have HL181_1:=n3_;have BK179:=n4_;have BK182:=n5_;have HB:=n6_;clear n0_ n1_ n2_ n3_ n4_ n5_ n6_;clear HR181_0;have HR181_0:=qK ((Kd.V_reads' HL181_0.out).2.2);clear HR181_1;have HR181_1:=qK ((Kd.V_reads' HL181_1.out).2.2);have hcz35_0:w34.cell? ⟨gb182,0,none⟩=some (.slice A181_0 ((rd_T37 x6_2 x41_3).f0).length c181_0):=(qC BK182.out 0).trans rfl;have hcz35_1:w34.cell? ⟨gb182,1,none⟩=some (.slice A181_1 ((rd_T37 x6_2 x41_3).f1).length c181_1):=(qC BK182.out 1).trans rfl;have hfz35_0:=qF BK182.out 0;have hfz35_1:=qF BK182.out 1;have p183:0≤(0:Int):=(by omega);have q183:0 < (((rd_T37 x6_2 x41_3).f1).length:Int):=of_decide_eq_true (by first|(with_reducible assumption)|assumption);obtain ⟨ad183,e183,hx183_0⟩:=Kd.at_int (by repeat (first|(with_reducible exact HR181_1.out)|(with_reducible first|refine cL ?_ _|refine cN ?_ _|refine cW ?_)|exact HR181_1.out)) 0 p183 q183;cases e183;have qi183:(0 < ((rd_T37 x6_2 x41_3).f1).length)=True:=eq_true (by omega);(try rw [show ((0:Int)).toNat=0 from rfl] at hx183_0);(try rw [Addr.add_zero'] at hx183_0);replace p183:=eq_true p183;replace q183:=eq_true q183))
                    go_roundg k3
                    case measure=>have:=HK1.out;have:=HK2.out;have:=HK3.out;omega
                    case rel=>exact ⟨(false),(wrap64 (x41_3 + 1)),(by first|rfl|(simp;done)|(simp [*];done)),(by first|rfl|(simp;done)|(simp [*];done)),H',⟨by have:=HK1.out;have:=HK2.out;have:=HK3.out;omega⟩,⟨by (with_reducible repeat (first|apply Kd.N_alloc|apply Kd.N_drewN|apply Kd.N_drew));exact Kd.N_mono HO_6.out (fun _ hk=>⟨hk.1,hk.2.1⟩)⟩,⟨by (with_reducible repeat (first|apply Kd.N_alloc|apply Kd.N_drewN|apply Kd.N_drew));exact Kd.N_mono HO_39.out (fun _ hk=>⟨hk.1,hk.2.1⟩)⟩,⟨by (with_reducible repeat (first|refine qN ?_ _|refine qW ?_|refine qL ?_ _));exact BK179.out⟩,⟨by repeat (first|(with_reducible first|exact HB.out|apply qA|apply qD|apply qO|refine qS ?_ GE179.out|refine qS ?_ GE182.out)|exact HB.out)⟩⟩
                  ·rw [if_neg c22] at H;exact absurd H (by simp)
                ·rw [if_neg c17] at H;exact absurd H (by simp)
               ·rw [if_neg c16] at H;exact absurd H (by simp)
              ·rw [if_neg c15] at H;have c15b0:decide (x41_3 < (x6_2.length:Int))=false:=decide_eq_false c15;clear c15;by_cases c36:x11_3=true
               ·subst c36;have H1:(spec_CoverOf.l1 k3 a1 x6_2 l0 (l0.length:Int) x28_1 ((rd_T37 l0 x28_1).f1) (((rd_T37 l0 x28_1).f1).length:Int) (wrap64 (x35_2 + 1)) ((rd_T37 l0 x28_1).f0) ((rd_T37 l0 x28_1).f1))=some (r1,r2):=by rw [if_pos rfl] at H;exact H
                clear H;have H:=H1;clear H1;have H':=qK H;clear H;go_wp2
                go_roundg k3
                case measure=>have:=HK1.out;have:=HK2.out;have:=HK3.out;omega
                case rel=>exact ⟨(x6_2),(wrap64 (x35_2 + 1)),(by first|rfl|(simp;done)|(simp [*];done)),H',⟨by have:=HK1.out;have:=HK2.out;have:=HK3.out;omega⟩,⟨by (with_reducible repeat (first|apply Kd.N_alloc|apply Kd.N_drewN|apply Kd.N_drew));exact HO_6.out⟩,⟨by (with_reducible repeat (first|refine qN ?_ _|refine qW ?_|refine qL ?_ _));exact BK179.out⟩,⟨by repeat (first|(with_reducible first|exact HB.out|apply qA|apply qD|apply qO|refine qS ?_ GE179.out)|exact HB.out)⟩⟩
               ·replace c36:=Bool.eq_false_iff.mpr c36;subst c36;have H1:((some (([]:List Int):List Int)).bind fun y185=>(if y185.length + ((rd_T37 l0 x28_1).f0).length < 17592186044416 then (if x6_2.length < 2932031007402 then (spec_CoverOf.l1 k3 a1 (x6_2 ++ [(⟨(y185 ++ ((rd_T37 l0 x28_1).f0)),(([(rd ((rd_T37 l0 x28_1).f1) x35_2)]:List Int))⟩:S37)]) l0 (l0.length:Int) x28_1 ((rd_T37 l0 x28_1).f1) (((rd_T37 l0 x28_1).f1).length:Int) (wrap64 (x35_2 + 1)) ((rd_T37 l0 x28_1).f0) ((rd_T37 l0 x28_1).f1)) else (none)) else (none)))=some (r1,r2):=by rw [if_neg (show ¬ (false=true) by decide)] at H;exact H
                clear H;have H:=H1;clear H1;obtain ⟨y185,hy185⟩:∃ y_:List Int,y_=(([]:List Int)):=⟨_,rfl⟩;replace H:(if y185.length + ((rd_T37 l0 x28_1).f0).length < 17592186044416 then (if x6_2.length < 2932031007402 then (spec_CoverOf.l1 k3 a1 (x6_2 ++ [(⟨(y185 ++ ((rd_T37 l0 x28_1).f0)),(([(rd ((rd_T37 l0 x28_1).f1) x35_2)]:List Int))⟩:S37)]) l0 (l0.length:Int) x28_1 ((rd_T37 l0 x28_1).f1) (((rd_T37 l0 x28_1).f1).length:Int) (wrap64 (x35_2 + 1)) ((rd_T37 l0 x28_1).f0) ((rd_T37 l0 x28_1).f1)) else (none)) else (none))=some (r1,r2):=by first|(rw [hy185];with_reducible exact H)|(have H2_:=(Option.bind_some _ _).symm.trans H;rw [hy185];with_reducible exact H2_)|(have H2_:=(Option.bind_some _ _).symm.trans H;with_reducible exact H2_)|with_reducible exact H|(rw [hy185];exact H)|exact H
                have Ny185:=qK hy185;clear hy185;by_cases c37:y185.length + ((rd_T37 l0 x28_1).f0).length < 17592186044416
                ·rw [if_pos c37] at H;have LMc37:=qK c37;clear c37;obtain ⟨y188,hy188⟩:∃ y_:List Int,y_=(y185 ++ ((rd_T37 l0 x28_1).f0)):=⟨_,rfl⟩;replace H:(if x6_2.length < 2932031007402 then (spec_CoverOf.l1 k3 a1 (x6_2 ++ [(⟨y188,(([(rd ((rd_T37 l0 x28_1).f1) x35_2)]:List Int))⟩:S37)]) l0 (l0.length:Int) x28_1 ((rd_T37 l0 x28_1).f1) (((rd_T37 l0 x28_1).f1).length:Int) (wrap64 (x35_2 + 1)) ((rd_T37 l0 x28_1).f0) ((rd_T37 l0 x28_1).f1)) else (none))=some (r1,r2):=by first|(rw [hy188];with_reducible exact H)|(have H2_:=(Option.bind_some _ _).symm.trans H;rw [hy188];with_reducible exact H2_)|(have H2_:=(Option.bind_some _ _).symm.trans H;with_reducible exact H2_)|with_reducible exact H|(rw [hy188];exact H)|exact H
                 have Ny188:=qK hy188;clear hy188;obtain ⟨y191,hy191⟩:∃ y_:List Int,y_=(([(rd ((rd_T37 l0 x28_1).f1) x35_2)]:List Int)):=⟨_,rfl⟩;replace H:(if x6_2.length < 2932031007402 then (spec_CoverOf.l1 k3 a1 (x6_2 ++ [(⟨y188,y191⟩:S37)]) l0 (l0.length:Int) x28_1 ((rd_T37 l0 x28_1).f1) (((rd_T37 l0 x28_1).f1).length:Int) (wrap64 (x35_2 + 1)) ((rd_T37 l0 x28_1).f0) ((rd_T37 l0 x28_1).f1)) else (none))=some (r1,r2):=by first|(rw [hy191];with_reducible exact H)|(have H2_:=(Option.bind_some _ _).symm.trans H;rw [hy191];with_reducible exact H2_)|(have H2_:=(Option.bind_some _ _).symm.trans H;with_reducible exact H2_)|with_reducible exact H|(rw [hy191];exact H)|exact H
                 have Ny191:=qK hy191;clear hy191;by_cases c38:x6_2.length < 2932031007402
                 ·rw [if_pos c38] at H;have LMc38:=qK c38;clear c38;obtain ⟨y194,hy194⟩:∃ y_:List (S37),y_=(x6_2 ++ [(⟨y188,y191⟩:S37)]):=⟨_,rfl⟩;replace H:(spec_CoverOf.l1 k3 a1 y194 l0 (l0.length:Int) x28_1 ((rd_T37 l0 x28_1).f1) (((rd_T37 l0 x28_1).f1).length:Int) (wrap64 (x35_2 + 1)) ((rd_T37 l0 x28_1).f0) ((rd_T37 l0 x28_1).f1))=some (r1,r2):=by first|(rw [hy194];with_reducible exact H)|(have H2_:=(Option.bind_some _ _).symm.trans H;rw [hy194];with_reducible exact H2_)|(have H2_:=(Option.bind_some _ _).symm.trans H;with_reducible exact H2_)|with_reducible exact H|(rw [hy194];exact H)|exact H
                  have Ny194:=qK hy194;clear hy194;have H':=qK H;clear H;go_wp2_with (first|((with_reducible refine gate_dst (N:=65) rfl ?_);refine Kd.R_lit (Kd.int .i64) _ 3 ?hg (N:=65) ?hd (xs:=([]:List Int)) (inner:=[]) (ok:=fun _=>True) (okp:=fun _=>True) ?hr ?hp (fun _ hk=>hk) trivial (Below.refl _ _) (Nat.le_refl _) (by simp) ?_;(case hd=>rfl);(case hg=>rfl);(case hr=>(go_simp;try rfl));(case hp=>exact (Reps.none _ _));intro v186 w39 ho40 hb hg_ hnew_;clear hg_ hnew_;(first|rw [← Ny185.out] at ho40|(simp only [Int.reduceToNat] at ho40;rw [← Ny185.out] at ho40));have n0_:=qK (Kd.N_elder' (by (with_reducible repeat (first|apply Kd.N_alloc|apply Kd.N_drewN|apply Kd.N_drew));exact HO_6.out) (Kd.R_base ho40) hb);have n1_:=qK (Kd.N_elder' (by (with_reducible repeat (first|apply Kd.N_alloc|apply Kd.N_drewN|apply Kd.N_drew));exact HO_39.out) (Kd.R_base ho40) hb);have n2_:=qK (Kd.R_lower (Kd.R_newM (M:=fun k_=>(w.heap.size≤k_)) ho40 (qZ (by repeat (with_reducible first|exact HB.out|apply qA|apply qD|apply qO|refine qS ?_ GE179.out))) (fun k_ h_=>h_)) (qZ (by repeat (with_reducible first|exact HB.out|apply qA|apply qD|apply qO|refine qS ?_ GE179.out))));have n3_:=qK (qB (g:=gb179) (o:=_) (by (with_reducible repeat (first|refine qN ?_ _|refine qW ?_|refine qL ?_ _));exact BK179.out) hb);have n4_:=qK (qT (by repeat (with_reducible first|exact HB.out|apply qA|apply qD|apply qO|refine qS ?_ GE179.out)) hb);clear HO_6;clear HO_39;clear BK179;clear HB;have HO_6:=n0_;have HO_39:=n1_;have HO187:=n2_;have BK179:=n3_;have HB:=n4_;clear n0_ n1_ n2_ n3_ n4_;clear hb ho40;have hcz41_0:w39.cell? ⟨gb179,0,none⟩=some (.slice A178_0 ((rd_T37 l0 x28_1).f0).length c178_0):=(qC BK179.out 0).trans rfl;have hcz41_1:w39.cell? ⟨gb179,1,none⟩=some (.slice (some ad180) ((rd_T37 l0 x28_1).f1).length c178_1):=(qC BK179.out 1).trans rfl;have hfz41_0:=qF BK179.out 0;have hfz41_1:=qF BK179.out 1)|((with_reducible refine gate_builtin (b:=.append) (xs:=#[.tmp 65,.tmp 67]) rfl ?_);at_builtin;refine Kd.R_append_rows (Kd.int .i64) (w0:=w) w.heap.size rfl (.tmp 65) (.tmp 67) 35 3 (.int .i64 0) 8 rfl Try.underlying35 info3 rfl (by decide) (by omega) v186 y185 ((rd_T37 l0 x28_1).f0) _ _ _ (fun k_=>(w.heap.size≤k_)) (fun _=>False) rfl rfl ?aO ?aR (fun _ _ h=>h) (fun _ h=>h.elim) ?aF ?aB ?aS ?aL ?_;(case aR=>repeat (first|exact (cB HR178_0.out HB.out)|(with_reducible first|refine cL ?_ _|refine cN ?_ _|refine cW ?_)));(case aB=>exact (by repeat (with_reducible first|exact HB.out|apply qA|apply qD|apply qO|refine qS ?_ GE179.out)));(case aF=>exact (fun k_ hk=>(Nat.le_trans (qZ (by repeat (with_reducible first|exact HB.out|apply qA|apply qD|apply qO|refine qS ?_ GE179.out))) hk)));(case aO=>exact (by (with_reducible repeat (first|apply rL|apply rN|apply rW));exact Kd.R_mono HO187.out (fun _ hk=>hk.1)));(case aS=>exact (qZ (by repeat (with_reducible first|exact HB.out|apply qA|apply qD|apply qO|refine qS ?_ GE179.out))));(case aL=>have:=LMc37.out;omega);intro v189 w42 ho hb hg hat;rw [← Ny188.out] at ho;have n0_:=qK (Kd.N_afterv (ok:=(fun k_=>(w.heap.size≤k_)∧k_ ≠ gb179)) (by (with_reducible repeat (first|apply Kd.N_alloc|apply Kd.N_drewN|apply Kd.N_drew));exact HO_6.out) hg hat);have n1_:=qK (Kd.N_afterv (ok:=(fun k_=>(w.heap.size≤k_)∧k_ ≠ gb179)) (by (with_reducible repeat (first|apply Kd.N_alloc|apply Kd.N_drewN|apply Kd.N_drew));exact HO_39.out) hg hat);have n2_:=qK (blk_grown (g:=gb179) (o:=_) (by (with_reducible repeat (first|refine qN ?_ _|refine qW ?_|refine qL ?_ _));exact BK179.out) hg (Kd.R_ne HO187.out BK179.out (by decide)));have n3_:=qK (hb);have n4_:=qK (ho);clear HO_6;clear HO_39;clear BK179;clear HB;clear HO187;have HO_6:=n0_;have HO_39:=n1_;have BK179:=n2_;have HB:=n3_;have HO190:=n4_;clear n0_ n1_ n2_ n3_ n4_;clear ho hb hg hat)|((with_reducible refine gate_dst (N:=70) rfl ?_);refine Kd.R_lit (Kd.int .i64) _ 3 ?hg (N:=70) ?hd (xs:=([(rd ((rd_T37 l0 x28_1).f1) x35_2)]:List Int)) (inner:=[.int .i64 (rd ((rd_T37 l0 x28_1).f1) x35_2)]) (ok:=fun _=>True) (okp:=fun _=>True) ?hr ?hp (fun _ hk=>hk) trivial (Below.refl _ _) (Nat.le_refl _) (by simp) ?_;(case hd=>rfl);(case hg=>rfl);(case hr=>(go_simp;try rfl));(case hp=>exact (Reps.one (show Kd.M (Kd.int .i64) _ _ _ (rd ((rd_T37 l0 x28_1).f1) x35_2) [.int .i64 (rd ((rd_T37 l0 x28_1).f1) x35_2)] from rfl) (Reps.none _ _)));intro v192 w43 ho44 hb hg_ hnew_;clear hg_ hnew_;(first|rw [← Ny191.out] at ho44|(simp only [Int.reduceToNat] at ho44;rw [← Ny191.out] at ho44));have n0_:=qK (Kd.N_elder' (by (with_reducible repeat (first|apply Kd.N_alloc|apply Kd.N_drewN|apply Kd.N_drew));exact HO_6.out) (Kd.R_base ho44) hb);have n1_:=qK (Kd.N_elder' (by (with_reducible repeat (first|apply Kd.N_alloc|apply Kd.N_drewN|apply Kd.N_drew));exact HO_39.out) (Kd.R_base ho44) hb);have n2_:=qK (Kd.R_elder' (by (with_reducible repeat (first|apply rL|apply rN|apply rW));exact HO190.out) (Kd.R_base ho44) hb);have n3_:=qK (Kd.R_lower (Kd.R_new' (Kd.R_newM (M:=fun k_=>(w.heap.size≤k_)) ho44 (qZ (by repeat (with_reducible first|exact HB.out|apply qA|apply qD|apply qO|refine qS ?_ GE179.out))) (fun k_ h_=>h_)) (Kd.R_lt (by (with_reducible repeat (first|apply rL|apply rN|apply rW));exact HO190.out))) (qZ (by repeat (with_reducible first|exact HB.out|apply qA|apply qD|apply qO|refine qS ?_ GE179.out))));have n4_:=qK (qB (g:=gb179) (o:=_) (by (with_reducible repeat (first|refine qN ?_ _|refine qW ?_|refine qL ?_ _));exact BK179.out) hb);have n5_:=qK (qT (by repeat (with_reducible first|exact HB.out|apply qA|apply qD|apply qO|refine qS ?_ GE179.out)) hb);clear HO_6;clear HO_39;clear HO190;clear BK179;clear HB;have HO_6:=n0_;have HO_39:=n1_;have HO190:=n2_;have HO193:=n3_;have BK179:=n4_;have HB:=n5_;clear n0_ n1_ n2_ n3_ n4_ n5_;clear hb ho44;obtain ⟨Ao45,co45,eo45⟩:=Kd.R_slice HO193.out;subst eo45;obtain ⟨Ao46,co46,eo46⟩:=Kd.R_slice HO190.out;subst eo46)|((with_reducible refine gate_builtin (b:=.append) (xs:=#[.tmp 64,.tmp 72]) rfl ?_);at_builtin;refine Kd.N_append k37 (w0:=w) w.heap.size rfl (.tmp 64) (.tmp 72) 24 37 (.agg #[(.slice none 0 0),(.slice none 0 0)]) 48 rfl Try.underlying24 info37 rfl (by decide) (by omega) (.slice Ao14 x6_2.length co14) x6_2 (⟨y188,y191⟩:S37) [.slice Ao46 y188.length co46,.slice Ao45 y191.length co45] (fun k_=>(w.heap.size≤k_)∧k_ ≠ gb179) (fun k_=>((fun k_=>(w.heap.size≤k_)∧k_ ≠ gb179)) k_∧some k_ ≠ (.slice Ao14 x6_2.length co14:Value).ownBlock) rfl rfl ?aP (fun _ hk=>hk) ?aF ?aO ?aB ?aS ?aL ?_;(case aP=>exact (k37_mkF _ _ (⟨y188,y191⟩:S37) (Kd.R_reads' (Kd.R_mono (ok':=(fun k_=>((fun k_=>(w.heap.size≤k_)∧k_ ≠ gb179)) k_∧some k_ ≠ (.slice Ao14 x6_2.length co14:Value).ownBlock)) (Kd.R_types (Kd.R_apart' (HO190.out) (Kd.N_typed HO_6.out) (by decide)) BK179.out (by decide)) (fun k_ hk=>⟨⟨hk.1.1.1,hk.2⟩,hk.1.2⟩))).2.1 (Kd.R_F (Kd.R_mono (ok':=(fun k_=>((fun k_=>(w.heap.size≤k_)∧k_ ≠ gb179)) k_∧some k_ ≠ (.slice Ao14 x6_2.length co14:Value).ownBlock)) (Kd.R_types (Kd.R_apart' (HO190.out) (Kd.N_typed HO_6.out) (by decide)) BK179.out (by decide)) (fun k_ hk=>⟨⟨hk.1.1.1,hk.2⟩,hk.1.2⟩))) (Kd.R_reads' (Kd.R_mono (ok':=(fun k_=>((fun k_=>(w.heap.size≤k_)∧k_ ≠ gb179)) k_∧some k_ ≠ (.slice Ao14 x6_2.length co14:Value).ownBlock)) (Kd.R_types (Kd.R_apart' (HO193.out) (Kd.N_typed HO_6.out) (by decide)) BK179.out (by decide)) (fun k_ hk=>⟨⟨hk.1.1.1.1,hk.2⟩,hk.1.2⟩))).2.1 (Kd.R_F (Kd.R_mono (ok':=(fun k_=>((fun k_=>(w.heap.size≤k_)∧k_ ≠ gb179)) k_∧some k_ ≠ (.slice Ao14 x6_2.length co14:Value).ownBlock)) (Kd.R_types (Kd.R_apart' (HO193.out) (Kd.N_typed HO_6.out) (by decide)) BK179.out (by decide)) (fun k_ hk=>⟨⟨hk.1.1.1.1,hk.2⟩,hk.1.2⟩)))));(case aB=>exact (by repeat (with_reducible first|exact HB.out|apply qA|apply qD|apply qO|refine qS ?_ GE179.out)));(case aF=>exact (fun k_ hk=>⟨(Nat.le_trans (qZ (by repeat (with_reducible first|exact HB.out|apply qA|apply qD|apply qO|refine qS ?_ GE179.out))) hk),Kd.freshB (g:=gb179) (o:=_) (by (with_reducible repeat (first|refine qN ?_ _|refine qW ?_|refine qL ?_ _));exact BK179.out) k_ hk⟩));(case aO=>exact (by (with_reducible repeat (first|apply Kd.N_alloc|apply Kd.N_drewN|apply Kd.N_drew));exact Kd.N_mono HO_6.out (fun _ hk=>⟨hk.1.1.1,hk.1.1.2⟩)));(case aS=>exact (qZ (by repeat (with_reducible first|exact HB.out|apply qA|apply qD|apply qO|refine qS ?_ GE179.out))));(case aL=>have:=LMc38.out;omega);intro v195 w47 ho hb hg hat;rw [← Ny194.out] at ho;have n0_:=qK (blk_grown (g:=gb179) (o:=_) (by (with_reducible repeat (first|refine qN ?_ _|refine qW ?_|refine qL ?_ _));exact BK179.out) hg (Kd.N_away HO_6.out (fun _ hk=>hk.1.1.2)));have n1_:=qK (hb);have n2_:=qK (ho);clear BK179;clear HB;clear HO_6;clear HO190;clear HO193;have BK179:=n0_;have HB:=n1_;have HO196:=n2_;clear n0_ n1_ n2_;clear ho hb hg hat))
                  go_roundg k3
                  case measure=>have:=HK1.out;have:=HK2.out;have:=HK3.out;omega
                  case rel=>exact ⟨(y194),(wrap64 (x35_2 + 1)),(by first|rfl|(simp;done)|(simp [*];done)),H',⟨by have:=HK1.out;have:=HK2.out;have:=HK3.out;omega⟩,⟨by (with_reducible repeat (first|apply Kd.N_alloc|apply Kd.N_drewN|apply Kd.N_drew));exact HO196.out⟩,⟨by (with_reducible repeat (first|refine qN ?_ _|refine qW ?_|refine qL ?_ _));exact BK179.out⟩,⟨by repeat (first|(with_reducible first|exact HB.out|apply qA|apply qD|apply qO|refine qS ?_ GE179.out)|exact HB.out)⟩⟩
                 ·rw [if_neg c38] at H;exact absurd H (by simp)
                ·rw [if_neg c37] at H;exact absurd H (by simp)
           ·rw [if_neg c13] at H;exact absurd H (by simp)
          ·rw [if_neg c12] at H;exact absurd H (by simp)
         ·rw [if_neg c11] at H;have c11b0:decide (x35_2 < (((rd_T37 l0 x28_1).f1).length:Int))=false:=decide_eq_false c11;clear c11;have H':=qK H;clear H;go_wp2
          go_roundg k2
          case measure=>have:=HK1.out;have:=HK2.out;omega
          case rel=>exact ⟨(x6_2),(wrap64 (x28_1 + 1)),(by first|rfl|(simp;done)|(simp [*];done)),H',⟨by have:=HK1.out;have:=HK2.out;omega⟩,⟨by (with_reducible repeat (first|apply Kd.N_alloc|apply Kd.N_drewN|apply Kd.N_drew));exact Kd.N_mono HO_6.out (fun _ hk=>hk.1)⟩,⟨by repeat (first|(with_reducible first|exact HB.out|apply qA|apply qD|apply qO|refine qS ?_ GE179.out)|exact HB.out)⟩⟩
      ·rw [if_neg c8] at H;exact absurd H (by simp)
     ·rw [if_neg c7] at H;exact absurd H (by simp)
    ·rw [if_neg c6] at H;have c6b0:decide (x28_1 < (l0.length:Int))=false:=decide_eq_false c6;clear c6;have H':=qK H;clear H;obtain ⟨Ao48,co48,eo48⟩:=Kd.N_slice HO_6.out;subst eo48;go_wp2
     go_loopg [78] k1 (fun kq v78 w'=>∃ (x6_2:List (S37)) (x78_2:Int),v78=.int .i64 x78_2∧Aside0 (spec_CoverOf.l3 kq a1 x6_2 (x6_1.length:Int) x78_2=some (r1,r2))∧Aside0 (kq≤k1)∧Aside0 (Kd.N k37 37 w' w.heap.size (fun k_=>(w.heap.size≤k_)) (.slice Ao48 x6_1.length co48) x6_2)∧Aside0 (Below w.heap.size w w'))
     case atStart=>exact ⟨(x6_1),(0),(by first|rfl|(simp;done)|(simp [*];done)),H',⟨Nat.le_refl _⟩,⟨by (with_reducible repeat (first|apply Kd.N_alloc|apply Kd.N_drewN|apply Kd.N_drew));exact HO_6.out⟩,⟨by repeat (first|(with_reducible first|exact HB.out|apply qA|apply qD|apply qO)|exact HB.out)⟩⟩
     case round =>
      clear H';try clear c1
      try clear p1
      try clear q1
      try clear hx1
      try clear qi1
      try clear c2
      try clear p2
      try clear c3
      try clear c4
      try clear c6
      try clear c6b0
      try clear p6
      try clear c7
      try clear c7b0
      try clear c8
      try clear c8b0
      try clear c11
      try clear c11b0
      try clear c12
      try clear c12b0
      try clear c13
      try clear c13b0
      try clear c15
      try clear c15b0
      try clear c16
      try clear c16b0
      try clear c17
      try clear c17b0
      try clear p17
      try clear q17
      try clear hx17
      try clear c18
      try clear p18
      try clear q18
      try clear hx18
      try clear qi18
      try clear c19
      try clear c20
      try clear c22
      try clear c22b0
      try clear c22b1
      try clear c23
      try clear c23b0
      try clear c23b1
      try clear c26
      try clear c32
      try clear c36
      try clear c37
      try clear c38
      try clear hcz10_0
      try clear hcz10_1
      try clear hcz21_0
      try clear hcz21_1
      try clear hcz27_0
      try clear hcz27_1
      try clear hcz29_0
      try clear hcz29_1
      try clear hcz30_0
      try clear hcz30_1
      try clear hcz33_0
      try clear hcz33_1
      try clear hcz35_0
      try clear hcz35_1
      try clear hcz41_0
      try clear hcz41_1
      try clear hfz10_0
      try clear hfz10_1
      try clear hfz21_0
      try clear hfz21_1
      try clear hfz27_0
      try clear hfz27_1
      try clear hfz29_0
      try clear hfz29_1
      try clear hfz30_0
      try clear hfz30_1
      try clear hfz33_0
      try clear hfz33_1
      try clear hfz35_0
      try clear hfz35_1
      try clear hfz41_0
      try clear hfz41_1
      try clear hx178_0
      try clear hx178_1
      try clear hx180_0
      try clear hx181_0
      try clear hx181_1
      try clear hx183_0
      try clear p1
      try clear p178
      try clear p180
      try clear p181
      try clear p183
      try clear p2
      try clear q1
      try clear q178
      try clear q180
      try clear q181
      try clear q183
      obtain ⟨x6_2,x78_2,rfl,HA,HK2,HO_6,HB⟩:=hrel;have hl6_2:=(Kd.N_reads' HO_6.out).1;rw [hl6_2] at HO_6;(try simp only [hl6_2]);cases gk with
      | zero=>exact absurd HA.out (by simp [spec_CoverOf.l3])
      | succ k2 =>
       have H:=HA.out;clear HA;simp only [spec_CoverOf.l3] at H;by_cases c49:x78_2 < (x6_1.length:Int)
       ·rw [if_pos c49] at H;have c49b0:decide (x78_2 < (x6_1.length:Int))=true:=decide_eq_true c49;clear c49;obtain ⟨y197,hy197⟩:∃ y_:List Int,y_=(([]:List Int)):=⟨_,rfl⟩;replace H:(if 0≤x78_2 then (if x78_2 < (x6_2.length:Int) then (if y197.length + ((rd_T37 x6_2 x78_2).f0).length < 17592186044416 then ((some (y197 ++ ((rd_T37 x6_2 x78_2).f0):List Int)).bind fun y201=>(spec_CoverOf.l4 k2 a1 x6_2 x78_2 (x6_1.length:Int) x78_2 y201 (y201.length:Int) 0)) else (none)) else (none)) else (none))=some (r1,r2):=by first|(rw [hy197];with_reducible exact H)|(have H2_:=(Option.bind_some _ _).symm.trans H;rw [hy197];with_reducible exact H2_)|(have H2_:=(Option.bind_some _ _).symm.trans H;with_reducible exact H2_)|with_reducible exact H|(rw [hy197];exact H)|exact H
        have Ny197:=qK hy197;clear hy197;by_cases c50:0≤x78_2
        ·rw [if_pos c50] at H;have c50b0:decide (0≤x78_2)=true:=decide_eq_true c50;clear c50;by_cases c51:x78_2 < (x6_2.length:Int)
         ·rw [if_pos c51] at H;have c51b0:decide (x78_2 < (x6_2.length:Int))=true:=decide_eq_true c51;clear c51;by_cases c52:y197.length + ((rd_T37 x6_2 x78_2).f0).length < 17592186044416
          ·rw [if_pos c52] at H;have LMc52:=qK c52;clear c52;obtain ⟨y201,hy201⟩:∃ y_:List Int,y_=(y197 ++ ((rd_T37 x6_2 x78_2).f0)):=⟨_,rfl⟩;replace H:(spec_CoverOf.l4 k2 a1 x6_2 x78_2 (x6_1.length:Int) x78_2 y201 (y201.length:Int) 0)=some (r1,r2):=by first|(rw [hy201];with_reducible exact H)|(have H2_:=(Option.bind_some _ _).symm.trans H;rw [hy201];with_reducible exact H2_)|(have H2_:=(Option.bind_some _ _).symm.trans H;with_reducible exact H2_)|with_reducible exact H|(rw [hy201];exact H)|exact H
           have Ny201:=qK hy201;clear hy201;have H':=qK H;clear H;go_wp2_with (first|((with_reducible refine gate_dst (N:=81) rfl ?_);refine Kd.R_lit (Kd.int .i64) _ 3 ?hg (N:=81) ?hd (xs:=([]:List Int)) (inner:=[]) (ok:=fun _=>True) (okp:=fun _=>True) ?hr ?hp (fun _ hk=>hk) trivial (Below.refl _ _) (Nat.le_refl _) (by simp) ?_;(case hd=>rfl);(case hg=>rfl);(case hr=>(go_simp;try rfl));(case hp=>exact (Reps.none _ _));intro v198 w53 ho54 hb hg_ hnew_;clear hg_ hnew_;(first|rw [← Ny197.out] at ho54|(simp only [Int.reduceToNat] at ho54;rw [← Ny197.out] at ho54));have n0_:=qK (Kd.N_elder' (by (with_reducible repeat (first|apply Kd.N_alloc|apply Kd.N_drewN|apply Kd.N_drew));exact HO_6.out) (Kd.R_base ho54) hb);have n1_:=qK (Kd.R_lower (Kd.R_newM (M:=fun k_=>(w.heap.size≤k_)) ho54 (qZ (by repeat (with_reducible first|exact HB.out|apply qA|apply qD|apply qO))) (fun k_ h_=>h_)) (qZ (by repeat (with_reducible first|exact HB.out|apply qA|apply qD|apply qO))));have n2_:=qK (qT (by repeat (with_reducible first|exact HB.out|apply qA|apply qD|apply qO)) hb);clear HO_6;clear HB;have HO_6:=n0_;have HO199:=n1_;have HB:=n2_;clear n0_ n1_ n2_;clear hb ho54;have p200:0≤(x78_2:Int):=of_decide_eq_true (by first|(with_reducible assumption)|assumption);have q200:x78_2 < (x6_2.length:Int):=of_decide_eq_true (by first|(with_reducible assumption)|assumption);obtain ⟨ad200,A200_0,c200_0,A200_1,c200_1,e200,hx200_0,hx200_1,hl200_0,hi200_0,hl200_1,hi200_1⟩:=at_T37 (Kd.N_reads' HO_6.out).2.2 x78_2 p200 q200;cases e200;obtain ⟨ce200,hce200,hMe200,hcc200⟩:=Kd.N_get HO_6.out z37 x78_2 p200 (by first|exact q200|exact of_decide_eq_true (by first|(with_reducible assumption)|assumption)|(have e_:=(Kd.N_reads' HO_6.out).1;omega));obtain ⟨ua200_0,uc200_0,ua200_1,uc200_1,rfl,ul200_0,ge200_0,ul200_1,ge200_1⟩:=k37_openF hMe200;have hv200_0:=hcc200 0 _ rfl;rw [Nat.add_zero] at hv200_0;replace hv200_0:=Option.some.inj (hv200_0.symm.trans hx200_0);injection hv200_0 with hva_ hvn_ hvc_;rw [hva_] at ge200_0;rw [hvc_] at ul200_0;have HL200_0:=qK (show Kd.V (Kd.int .i64) 3 _ w.heap.size _ _ ((rd_T37 x6_2 x78_2).f0) from Kd.V_mk ul200_0 ge200_0);clear hva_ hvn_ hvc_ ge200_0 ul200_0;have hv200_1:=hcc200 1 _ rfl;rw [add_field _ _ 1 (by omega)] at hv200_1;replace hv200_1:=Option.some.inj (hv200_1.symm.trans hx200_1);injection hv200_1 with hva_ hvn_ hvc_;rw [hva_] at ge200_1;rw [hvc_] at ul200_1;have HL200_1:=qK (show Kd.V (Kd.int .i64) 3 _ w.heap.size _ _ ((rd_T37 x6_2 x78_2).f1) from Kd.V_mk ul200_1 ge200_1);clear hva_ hvn_ hvc_ ge200_1 ul200_1;clear hcc200 hce200;have HR200_0:=qK hi200_0;have HC200_0:=qK hl200_0;clear hi200_0 hl200_0;have HR200_1:=qK hi200_1;have HC200_1:=qK hl200_1;clear hi200_1 hl200_1;replace p200:=eq_true p200;replace q200:=eq_true q200)|((with_reducible refine gate_builtin (b:=.append) (xs:=#[.tmp 81,.tmp 86]) rfl ?_);at_builtin;refine Kd.R_append_rows (Kd.int .i64) (w0:=w) w.heap.size rfl (.tmp 81) (.tmp 86) 35 3 (.int .i64 0) 8 rfl Try.underlying35 info3 rfl (by decide) (by omega) v198 y197 ((rd_T37 x6_2 x78_2).f0) _ _ _ (fun k_=>(w.heap.size≤k_)) (fun _=>False) rfl rfl ?aO ?aR (fun _ _ h=>h) (fun _ h=>h.elim) ?aF ?aB ?aS ?aL ?_;(case aR=>repeat (first|exact (by repeat (first|(with_reducible exact HR200_0.out)|(with_reducible first|refine cL ?_ _|refine cN ?_ _|refine cW ?_)|exact HR200_0.out))|(with_reducible first|refine cL ?_ _|refine cN ?_ _|refine cW ?_)));(case aB=>exact (by repeat (with_reducible first|exact HB.out|apply qA|apply qD|apply qO)));(case aF=>exact (fun k_ hk=>(Nat.le_trans (qZ (by repeat (with_reducible first|exact HB.out|apply qA|apply qD|apply qO))) hk)));(case aO=>exact (by (with_reducible repeat (first|apply rL|apply rN|apply rW));exact Kd.R_mono HO199.out (fun _ hk=>hk.1)));(case aS=>exact (qZ (by repeat (with_reducible first|exact HB.out|apply qA|apply qD|apply qO))));(case aL=>have:=LMc52.out;omega);intro v202 w55 ho hb hg hat;rw [← Ny201.out] at ho;have n0_:=qK (Kd.N_afterv (ok:=(fun k_=>(w.heap.size≤k_))) (by (with_reducible repeat (first|apply Kd.N_alloc|apply Kd.N_drewN|apply Kd.N_drew));exact HO_6.out) hg hat);have n1_:=qK (Kd.V_afterv (ok:=(fun k_=>(w.heap.size≤k_)∧some k_ ≠ (.slice (some ad200) x6_2.length co48:Value).ownBlock)) (by (with_reducible repeat (first|apply Kd.V_alloc|apply Kd.V_drewN|apply Kd.V_drew));exact Kd.V_mono HL200_0.out (fun _ hk=>⟨⟨hk.1.1,hk.2⟩,hk.1.2⟩)) hg hat);have n2_:=qK (Kd.V_afterv (ok:=(fun k_=>(w.heap.size≤k_)∧some k_ ≠ (.slice (some ad200) x6_2.length co48:Value).ownBlock)) (by (with_reducible repeat (first|apply Kd.V_alloc|apply Kd.V_drewN|apply Kd.V_drew));exact Kd.V_mono HL200_1.out (fun _ hk=>⟨⟨hk.1.1,hk.2⟩,hk.1.2⟩)) hg hat);have n3_:=qK (hb);have n4_:=qK (ho);clear HO_6;clear HL200_0;clear HL200_1;clear HB;clear HO199;have HO_6:=n0_;have HL200_0:=n1_;have HL200_1:=n2_;have HB:=n3_;have HO203:=n4_;clear n0_ n1_ n2_ n3_ n4_;clear ho hb hg hat;obtain ⟨Ao56,co56,eo56⟩:=Kd.R_slice HO203.out;subst eo56))
           go_loopg [89] k2 (fun kq v89 w'=>∃ (x6_3:List (S37)) (x89_3:Int),v89=.int .i64 x89_3∧Aside0 (spec_CoverOf.l4 kq a1 x6_3 x78_2 (x6_1.length:Int) x78_2 y201 (y201.length:Int) x89_3=some (r1,r2))∧Aside0 (kq≤k2)∧Aside0 (Kd.N k37 37 w' w.heap.size (fun k_=>(w.heap.size≤k_)∧some k_ ≠ ((.slice Ao56 y201.length co56):Value).ownBlock) (.slice (some ad200) x6_2.length co48) x6_3)∧Aside0 (Kd.R (Kd.int .i64) 3 w' w.heap.size (fun k_=>(w.heap.size≤k_)) (.slice Ao56 y201.length co56) y201)∧Aside0 (Below w.heap.size w w'))
           case atStart=>exact ⟨(x6_2),(0),(by first|rfl|(simp;done)|(simp [*];done)),H',⟨Nat.le_refl _⟩,⟨by (try simp only [hl6_2]);(with_reducible repeat (first|apply Kd.N_alloc|apply Kd.N_drewN|apply Kd.N_drew));exact HO_6.out⟩,⟨by (try simp only [hl6_2]);(with_reducible repeat (first|apply rL|apply rN|apply rW));exact HO203.out⟩,⟨by repeat (first|(with_reducible first|exact HB.out|apply qA|apply qD|apply qO)|exact HB.out)⟩⟩
           case round =>
            clear H';try clear c1
            try clear p1
            try clear q1
            try clear hx1
            try clear qi1
            try clear c2
            try clear p2
            try clear q2
            try clear hx2
            try clear c3
            try clear c4
            try clear c5
            try clear c6
            try clear c6b0
            try clear p6
            try clear c7
            try clear c7b0
            try clear c8
            try clear c8b0
            try clear c11
            try clear c11b0
            try clear c12
            try clear c12b0
            try clear c13
            try clear c13b0
            try clear c15
            try clear c15b0
            try clear c16
            try clear c16b0
            try clear c17
            try clear c17b0
            try clear p17
            try clear q17
            try clear hx17
            try clear c18
            try clear p18
            try clear q18
            try clear hx18
            try clear qi18
            try clear c19
            try clear c20
            try clear p20
            try clear q20
            try clear hx20
            try clear c22
            try clear c22b0
            try clear c22b1
            try clear c23
            try clear c23b0
            try clear c23b1
            try clear c26
            try clear c32
            try clear c36
            try clear c37
            try clear c38
            try clear c49
            try clear c49b0
            try clear c50
            try clear c50b0
            try clear c51
            try clear c51b0
            try clear c52
            try clear hcz10_0
            try clear hcz10_1
            try clear hcz21_0
            try clear hcz21_1
            try clear hcz27_0
            try clear hcz27_1
            try clear hcz29_0
            try clear hcz29_1
            try clear hcz30_0
            try clear hcz30_1
            try clear hcz33_0
            try clear hcz33_1
            try clear hcz35_0
            try clear hcz35_1
            try clear hcz41_0
            try clear hcz41_1
            try clear hfz10_0
            try clear hfz10_1
            try clear hfz21_0
            try clear hfz21_1
            try clear hfz27_0
            try clear hfz27_1
            try clear hfz29_0
            try clear hfz29_1
            try clear hfz30_0
            try clear hfz30_1
            try clear hfz33_0
            try clear hfz33_1
            try clear hfz35_0
            try clear hfz35_1
            try clear hfz41_0
            try clear hfz41_1
            try clear hx178_0
            try clear hx178_1
            try clear hx180_0
            try clear hx181_0
            try clear hx181_1
            try clear hx183_0
            try clear hx200_0
            try clear hx200_1
            try clear p1
            try clear p17
            try clear p178
            try clear p18
            try clear p180
            try clear p181
            try clear p183
            try clear p2
            try clear p200
            try clear p6
            try clear q1
            try clear q17
            try clear q178
            try clear q18
            try clear q180
            try clear q181
            try clear q183
            try clear q200
            obtain ⟨x6_3,x89_3,rfl,HA,HK3,HO_6,HO_87,HB⟩:=hrel;have hl6_3:=(Kd.N_reads' HO_6.out).1;rw [hl6_3] at HO_6;(try simp only [hl6_3]);(try simp only [hl6_3] at HO_87);cases gk with
            | zero=>exact absurd HA.out (by simp [spec_CoverOf.l4])
            | succ k3 =>
             have H:=HA.out;clear HA;simp only [spec_CoverOf.l4] at H;by_cases c57:x89_3 < (y201.length:Int)
             ·rw [if_pos c57] at H;have c57b0:decide (x89_3 < (y201.length:Int))=true:=decide_eq_true c57;clear c57;by_cases c58:0≤x89_3
              ·rw [if_pos c58] at H;have c58b0:decide (0≤x89_3)=true:=decide_eq_true c58;clear c58;by_cases c59:x89_3 < (y201.length:Int)
               ·rw [if_pos c59] at H;have c59b0:decide (x89_3 < (y201.length:Int))=true:=decide_eq_true c59;clear c59;by_cases c60:0≤x78_2
                ·rw [if_pos c60] at H;have c60b0:decide (0≤x78_2)=true:=decide_eq_true c60;clear c60;by_cases c61:x78_2 < (x6_3.length:Int)
                 ·rw [if_pos c61] at H;have c61b0:decide (x78_2 < (x6_3.length:Int))=true:=decide_eq_true c61;clear c61;have H':=qK H;clear H;have p204:0≤(x89_3:Int):=of_decide_eq_true (by first|(with_reducible assumption)|assumption);have q204:x89_3 < (y201.length:Int):=of_decide_eq_true (by first|(with_reducible assumption)|assumption);obtain ⟨ad204,e204,hx204_0⟩:=Kd.at_int (Kd.R_reads' HO_87.out).2.2 x89_3 p204 q204;cases e204
                  replace p204:=eq_true p204;replace q204:=eq_true q204;have p205:0≤(x78_2:Int):=of_decide_eq_true (by first|(with_reducible assumption)|assumption);have q205:x78_2 < (x6_3.length:Int):=of_decide_eq_true (by first|(with_reducible assumption)|assumption);obtain ⟨ad205,A205_0,c205_0,A205_1,c205_1,e205,hx205_0,hx205_1,hl205_0,hi205_0,hl205_1,hi205_1⟩:=at_T37 (Kd.N_reads' HO_6.out).2.2 x78_2 p205 q205;obtain rfl:ad200=ad205:=(by injection e205);obtain ⟨ce205,hce205,hMe205,hcc205⟩:=Kd.N_get HO_6.out z37 x78_2 p205 (by first|exact q205|exact of_decide_eq_true (by first|(with_reducible assumption)|assumption)|(have e_:=(Kd.N_reads' HO_6.out).1;omega));obtain ⟨ua205_0,uc205_0,ua205_1,uc205_1,rfl,ul205_0,ge205_0,ul205_1,ge205_1⟩:=k37_openF hMe205;have hv205_0:=hcc205 0 _ rfl;rw [Nat.add_zero] at hv205_0;replace hv205_0:=Option.some.inj (hv205_0.symm.trans hx205_0);injection hv205_0 with hva_ hvn_ hvc_
                  rw [hva_] at ge205_0;rw [hvc_] at ul205_0;have HL205_0:=qK (show Kd.V (Kd.int .i64) 3 _ w.heap.size _ _ ((rd_T37 x6_3 x78_2).f0) from Kd.V_mk ul205_0 ge205_0);clear hva_ hvn_ hvc_ ge205_0 ul205_0;have hv205_1:=hcc205 1 _ rfl;rw [add_field _ _ 1 (by omega)] at hv205_1;replace hv205_1:=Option.some.inj (hv205_1.symm.trans hx205_1);injection hv205_1 with hva_ hvn_ hvc_
                  rw [hva_] at ge205_1;rw [hvc_] at ul205_1;have HL205_1:=qK (show Kd.V (Kd.int .i64) 3 _ w.heap.size _ _ ((rd_T37 x6_3 x78_2).f1) from Kd.V_mk ul205_1 ge205_1);clear hva_ hvn_ hvc_ ge205_1 ul205_1;clear hcc205 hce205;have HR205_0:=qK hi205_0;have HC205_0:=qK hl205_0;clear hi205_0 hl205_0;have HR205_1:=qK hi205_1;have HC205_1:=qK hl205_1;clear hi205_1 hl205_1;replace p205:=eq_true p205;replace q205:=eq_true q205;go_wp2
                  go_loopg [17,99] k3 (fun kq v17 v99 w'=>∃ (x17_4:List Int) (x99_4:Int),v99=.int .i64 x99_4∧Aside0 (spec_CoverOf.l5 kq a1 x6_3 x78_2 (rd y201 x89_3) x17_4 (x6_1.length:Int) x78_2 y201 (y201.length:Int) x89_3 ((rd_T37 x6_3 x78_2).f0) (((rd_T37 x6_3 x78_2).f0).length:Int) x99_4=some (r1,r2))∧Aside0 (kq≤k3)∧Aside0 (Kd.N k37 37 w' w.heap.size (fun k_=>(w.heap.size≤k_)∧some k_ ≠ (v17:Value).ownBlock∧some k_ ≠ ((.slice (some ad204) y201.length co56):Value).ownBlock) (.slice (some ad200) x6_3.length co48) x6_3)∧Aside0 (Kd.R (Kd.int .i64) 3 w' w.heap.size (fun k_=>(w.heap.size≤k_)∧some k_ ≠ ((.slice (some ad204) y201.length co56):Value).ownBlock) v17 x17_4)∧Aside0 (Kd.R (Kd.int .i64) 3 w' w.heap.size (fun k_=>(w.heap.size≤k_)∧some k_ ≠ (v17:Value).ownBlock) (.slice (some ad204) y201.length co56) y201)∧Aside0 (Kd.V (Kd.int .i64) 3 w' w.heap.size (fun k_=>(w.heap.size≤k_)∧some k_ ≠ (v17:Value).ownBlock) (.slice A205_0 ((rd_T37 x6_3 x78_2).f0).length c205_0) ((rd_T37 x6_3 x78_2).f0))∧Aside0 (Below w.heap.size w w'))
                  case atStart=>exact ⟨(([]:List Int)),(0),(by first|rfl|(simp;done)|(simp [*];done)),H',⟨Nat.le_refl _⟩,⟨by (try simp only [hl6_2]);(try simp only [hl6_3]);(with_reducible repeat (first|apply Kd.N_alloc|apply Kd.N_drewN|apply Kd.N_drew));exact Kd.N_mono HO_6.out (fun _ hk=>⟨hk.1,⟨(by simp [Value.ownBlock]),hk.2⟩⟩)⟩,⟨by (try simp only [hl6_2]);(try simp only [hl6_3]);first|exact Kd.R_nil _ _ _ _ _|exact Kd.N_nil _ _ _ _ _|exact Kd.V_nil _ _ _ _ _|exact Kd.Q_nil _ _ _ _ _|exact Kd.S_nil _ _ _ _ _⟩,⟨by (try simp only [hl6_2]);(try simp only [hl6_3]);(with_reducible repeat (first|apply rL|apply rN|apply rW));exact Kd.R_mono HO_87.out (fun _ hk=>⟨hk,(by simp [Value.ownBlock])⟩)⟩,⟨by (with_reducible repeat (first|apply Kd.V_alloc|apply Kd.V_drewN|apply Kd.V_drew));exact Kd.V_mono HL205_0.out (fun _ hk=>⟨(by have h_:=hk;(try simp only [and_assoc] at h_);exact h_.1),(by simp [Value.ownBlock])⟩)⟩,⟨by repeat (first|(with_reducible first|exact HB.out|apply qA|apply qD|apply qO)|exact HB.out)⟩⟩
                  case round =>
                   clear H';try clear c1
                   try clear p1
                   try clear q1
                   try clear hx1
                   try clear qi1
                   try clear c2
                   try clear p2
                   try clear q2
                   try clear hx2
                   try clear c3
                   try clear c4
                   try clear c5
                   try clear c6
                   try clear c6b0
                   try clear p6
                   try clear c7
                   try clear c7b0
                   try clear c8
                   try clear c8b0
                   try clear c11
                   try clear c11b0
                   try clear c12
                   try clear c12b0
                   try clear c13
                   try clear c13b0
                   try clear c15
                   try clear c15b0
                   try clear c16
                   try clear c16b0
                   try clear c17
                   try clear c17b0
                   try clear p17
                   try clear q17
                   try clear hx17
                   try clear c18
                   try clear p18
                   try clear q18
                   try clear hx18
                   try clear qi18
                   try clear c19
                   try clear c20
                   try clear p20
                   try clear q20
                   try clear hx20
                   try clear c22
                   try clear c22b0
                   try clear c22b1
                   try clear c23
                   try clear c23b0
                   try clear c23b1
                   try clear c26
                   try clear c32
                   try clear c36
                   try clear c37
                   try clear c38
                   try clear c49
                   try clear c49b0
                   try clear c50
                   try clear c50b0
                   try clear c51
                   try clear c51b0
                   try clear c52
                   try clear c57
                   try clear c57b0
                   try clear c58
                   try clear c58b0
                   try clear c59
                   try clear c59b0
                   try clear c60
                   try clear c60b0
                   try clear c61
                   try clear c61b0
                   try clear hcz10_0
                   try clear hcz10_1
                   try clear hcz21_0
                   try clear hcz21_1
                   try clear hcz27_0
                   try clear hcz27_1
                   try clear hcz29_0
                   try clear hcz29_1
                   try clear hcz30_0
                   try clear hcz30_1
                   try clear hcz33_0
                   try clear hcz33_1
                   try clear hcz35_0
                   try clear hcz35_1
                   try clear hcz41_0
                   try clear hcz41_1
                   try clear hfz10_0
                   try clear hfz10_1
                   try clear hfz21_0
                   try clear hfz21_1
                   try clear hfz27_0
                   try clear hfz27_1
                   try clear hfz29_0
                   try clear hfz29_1
                   try clear hfz30_0
                   try clear hfz30_1
                   try clear hfz33_0
                   try clear hfz33_1
                   try clear hfz35_0
                   try clear hfz35_1
                   try clear hfz41_0
                   try clear hfz41_1
                   try clear hx178_0
                   try clear hx178_1
                   try clear hx180_0
                   try clear hx181_0
                   try clear hx181_1
                   try clear hx183_0
                   try clear hx200_0
                   try clear hx200_1
                   try clear hx204_0
                   try clear hx205_0
                   try clear hx205_1
                   try clear p1
                   try clear p17
                   try clear p178
                   try clear p18
                   try clear p180
                   try clear p181
                   try clear p183
                   try clear p2
                   try clear p20
                   try clear p200
                   try clear p204
                   try clear p205
                   try clear p6
                   try clear q1
                   try clear q17
                   try clear q178
                   try clear q18
                   try clear q180
                   try clear q181
                   try clear q183
                   try clear q2
                   try clear q20
                   try clear q200
                   try clear q204
                   try clear q205
                   obtain ⟨x17_4,x99_4,rfl,HA,HK4,HO_6,HO_17,HO_87,HV_,HB⟩:=hrel;(try clear HR205_0);have HR205_0:=qK (Kd.V_reads' HV_.out).2.2;cases gk with
                   | zero=>exact absurd HA.out (by simp [spec_CoverOf.l5])
                   | succ k4 =>
                    have H:=HA.out;clear HA;simp only [spec_CoverOf.l5] at H;by_cases c62:x99_4 < (((rd_T37 x6_3 x78_2).f0).length:Int)
                    ·rw [if_pos c62] at H;have c62b0:decide (x99_4 < (((rd_T37 x6_3 x78_2).f0).length:Int))=true:=decide_eq_true c62;clear c62;by_cases c63:0≤x99_4
                     ·rw [if_pos c63] at H;have c63b0:decide (0≤x99_4)=true:=decide_eq_true c63;clear c63;by_cases c64:x99_4 < (((rd_T37 x6_3 x78_2).f0).length:Int)
                      ·rw [if_pos c64] at H;have c64b0:decide (x99_4 < (((rd_T37 x6_3 x78_2).f0).length:Int))=true:=decide_eq_true c64;clear c64;by_cases c65:(rd ((rd_T37 x6_3 x78_2).f0) x99_4)=(rd y201 x89_3)
                       ·rw [if_pos c65] at H;have c65b0:((rd ((rd_T37 x6_3 x78_2).f0) x99_4) == (rd y201 x89_3))=true:=beq_iff_eq.mpr c65;have c65b1:((rd ((rd_T37 x6_3 x78_2).f0) x99_4) != (rd y201 x89_3))=false:=bne_eq_false_iff_eq.mpr c65;clear c65;have H':=qK H;clear H;have p206:0≤(x99_4:Int):=of_decide_eq_true (by first|(with_reducible assumption)|assumption);have q206:x99_4 < (((rd_T37 x6_3 x78_2).f0).length:Int):=of_decide_eq_true (by first|(with_reducible assumption)|assumption);obtain ⟨ad206,e206,hx206_0⟩:=Kd.at_int HR205_0.out x99_4 p206 q206;cases e206
                        (try replace hx206_0:=(HB.out.cell (World.block_lt_of_cell? w _ hx206_0)).trans hx206_0);replace p206:=eq_true p206;replace q206:=eq_true q206;go_wp2
                        go_roundg k4
                        case measure=>have:=HK1.out;have:=HK2.out;have:=HK3.out;have:=HK4.out;omega
                        case rel=>exact ⟨(x17_4),(wrap64 (x99_4 + 1)),(by first|rfl|(simp;done)|(simp [*];done)),H',⟨by have:=HK1.out;have:=HK2.out;have:=HK3.out;have:=HK4.out;omega⟩,⟨by (try simp only [hl6_2]);(try simp only [hl6_3]);(with_reducible repeat (first|apply Kd.N_alloc|apply Kd.N_drewN|apply Kd.N_drew));exact HO_6.out⟩,⟨by (try simp only [hl6_2]);(try simp only [hl6_3]);(with_reducible repeat (first|apply rL|apply rN|apply rW));exact HO_17.out⟩,⟨by (try simp only [hl6_2]);(try simp only [hl6_3]);(with_reducible repeat (first|apply rL|apply rN|apply rW));exact HO_87.out⟩,⟨by (with_reducible repeat (first|apply Kd.V_alloc|apply Kd.V_drewN|apply Kd.V_drew));exact HV_.out⟩,⟨by repeat (first|(with_reducible first|exact HB.out|apply qA|apply qD|apply qO)|exact HB.out)⟩⟩
                       ·rw [if_neg c65] at H;have c65b0:((rd ((rd_T37 x6_3 x78_2).f0) x99_4) == (rd y201 x89_3))=false:=beq_eq_false_iff_ne.mpr c65;have c65b1:((rd ((rd_T37 x6_3 x78_2).f0) x99_4) != (rd y201 x89_3))=true:=bne_iff_ne.mpr c65;by_cases c66:x17_4.length < 17592186044416
                        ·rw [if_pos c66] at H;have LMc66:=qK c66;clear c66;obtain ⟨y207,hy207⟩:∃ y_:List Int,y_=(x17_4 ++ [rd ((rd_T37 x6_3 x78_2).f0) x99_4]):=⟨_,rfl⟩;replace H:(spec_CoverOf.l5 k4 a1 x6_3 x78_2 (rd y201 x89_3) y207 (x6_1.length:Int) x78_2 y201 (y201.length:Int) x89_3 ((rd_T37 x6_3 x78_2).f0) (((rd_T37 x6_3 x78_2).f0).length:Int) (wrap64 (x99_4 + 1)))=some (r1,r2):=by first|(rw [hy207];with_reducible exact H)|(have H2_:=(Option.bind_some _ _).symm.trans H;rw [hy207];with_reducible exact H2_)|(have H2_:=(Option.bind_some _ _).symm.trans H;with_reducible exact H2_)|with_reducible exact H|(rw [hy207];exact H)|exact H
                         have Ny207:=qK hy207;clear hy207;have H':=qK H;clear H;have p206:0≤(x99_4:Int):=of_decide_eq_true (by first|(with_reducible assumption)|assumption);have q206:x99_4 < (((rd_T37 x6_3 x78_2).f0).length:Int):=of_decide_eq_true (by first|(with_reducible assumption)|assumption);obtain ⟨ad206,e206,hx206_0⟩:=Kd.at_int HR205_0.out x99_4 p206 q206;cases e206
                         (try replace hx206_0:=(HB.out.cell (World.block_lt_of_cell? w _ hx206_0)).trans hx206_0);replace p206:=eq_true p206;replace q206:=eq_true q206;go_wp2_with (first|((with_reducible refine gate_builtin (b:=.append) (xs:=#[.tmp 106,.tmp 108]) rfl ?_);at_builtin;refine Kd.R_append (Kd.int .i64) (w0:=w) w.heap.size rfl (.tmp 106) (.tmp 108) 35 3 (.int .i64 0) 8 rfl Try.underlying35 info3 rfl (by decide) (by omega) u17 x17_4 (rd ((rd_T37 x6_3 x78_2).f0) x99_4) [.int .i64 (rd ((rd_T37 x6_3 x78_2).f0) x99_4)] (fun k_=>(w.heap.size≤k_)∧some k_ ≠ (.slice (some ad204) y201.length co56:Value).ownBlock) (fun _=>False) rfl rfl ?aP (fun _ hk=>hk.elim) ?aF ?aO ?aB ?aS ?aL ?_;(case aP=>exact rfl);(case aB=>exact (by repeat (with_reducible first|exact HB.out|apply qA|apply qD|apply qO)));(case aF=>exact (fun k_ hk=>⟨(Nat.le_trans (qZ (by repeat (with_reducible first|exact HB.out|apply qA|apply qD|apply qO))) hk),Kd.fresh' (Kd.R_lt (by (with_reducible repeat (first|apply rL|apply rN|apply rW));exact HO_87.out)) k_ hk⟩));(case aO=>exact (by (with_reducible repeat (first|apply rL|apply rN|apply rW));exact HO_17.out));(case aS=>exact (qZ (by repeat (with_reducible first|exact HB.out|apply qA|apply qD|apply qO))));(case aL=>have:=LMc66.out;omega);intro v208 w67 ho hb hg hat;rw [← Ny207.out] at ho;have n0_:=qK (Kd.N_afterv (ok:=(fun k_=>(w.heap.size≤k_)∧some k_ ≠ (.slice (some ad204) y201.length co56:Value).ownBlock)) (by (with_reducible repeat (first|apply Kd.N_alloc|apply Kd.N_drewN|apply Kd.N_drew));exact Kd.N_mono HO_6.out (fun _ hk=>⟨⟨hk.1,hk.2.2⟩,hk.2.1⟩)) hg hat);have n1_:=qK (Kd.R_after (ok:=(fun k_=>(w.heap.size≤k_))) (by (with_reducible repeat (first|apply rL|apply rN|apply rW));exact HO_87.out) hg hat);have n2_:=qK (hb);have n3_:=qK (ho);have n4_:=qK (Kd.V_afterv (ok:=(fun k_=>(w.heap.size≤k_))) (by (with_reducible repeat (first|apply Kd.V_alloc|apply Kd.V_drewN|apply Kd.V_drew));exact HV_.out) hg hat);clear HV_;have HV_:=n4_;clear n4_;clear HO_6;clear HO_87;clear HB;clear HO_17;have HO_6:=n0_;have HO_87:=n1_;have HB:=n2_;have HO209:=n3_;clear n0_ n1_ n2_ n3_;clear ho hb hg hat))
                         go_roundg k4
                         case measure=>have:=HK1.out;have:=HK2.out;have:=HK3.out;have:=HK4.out;omega
                         case rel=>exact ⟨(y207),(wrap64 (x99_4 + 1)),(by first|rfl|(simp;done)|(simp [*];done)),H',⟨by have:=HK1.out;have:=HK2.out;have:=HK3.out;have:=HK4.out;omega⟩,⟨by (try simp only [hl6_2]);(try simp only [hl6_3]);(with_reducible repeat (first|apply Kd.N_alloc|apply Kd.N_drewN|apply Kd.N_drew));exact Kd.N_mono HO_6.out (fun _ hk=>⟨hk.1.1,⟨hk.2,hk.1.2⟩⟩)⟩,⟨by (try simp only [hl6_2]);(try simp only [hl6_3]);(with_reducible repeat (first|apply rL|apply rN|apply rW));exact HO209.out⟩,⟨by (try simp only [hl6_2]);(try simp only [hl6_3]);(with_reducible repeat (first|apply rL|apply rN|apply rW));exact HO_87.out⟩,⟨by (with_reducible repeat (first|apply Kd.V_alloc|apply Kd.V_drewN|apply Kd.V_drew));exact HV_.out⟩,⟨by repeat (first|(with_reducible first|exact HB.out|apply qA|apply qD|apply qO)|exact HB.out)⟩⟩
                        ·rw [if_neg c66] at H;exact absurd H (by simp)
                      ·rw [if_neg c64] at H;exact absurd H (by simp)
                     ·rw [if_neg c63] at H;exact absurd H (by simp)
                    ·rw [if_neg c62] at H;have c62b0:decide (x99_4 < (((rd_T37 x6_3 x78_2).f0).length:Int))=false:=decide_eq_false c62;clear c62;by_cases c68:0≤x78_2
                     ·rw [if_pos c68] at H;have c68b0:decide (0≤x78_2)=true:=decide_eq_true c68;clear c68;by_cases c69:x78_2 < (x6_3.length:Int)
                      ·rw [if_pos c69] at H;have c69b0:decide (x78_2 < (x6_3.length:Int))=true:=decide_eq_true c69;clear c69;replace H:=Option.bind_eq_some_iff.mp H;obtain ⟨t211,A700,H⟩:=H;replace H:(if t211=true then (spec_CoverOf.l4 k4 a1 (x6_3.set (x78_2:Int).toNat (⟨x17_4,(rd_T37 x6_3 x78_2).f1⟩:S37)) x78_2 (x6_1.length:Int) x78_2 y201 (y201.length:Int) (wrap64 (x89_3 + 1))) else (spec_CoverOf.l4 k4 a1 x6_3 x78_2 (x6_1.length:Int) x78_2 y201 (y201.length:Int) (wrap64 (x89_3 + 1))))=some (r1,r2):=H;have A70:=qK A700;clear A700;by_cases c71:t211=true
                       ·subst c71;have H1:(spec_CoverOf.l4 k4 a1 (x6_3.set (x78_2:Int).toNat (⟨x17_4,(rd_T37 x6_3 x78_2).f1⟩:S37)) x78_2 (x6_1.length:Int) x78_2 y201 (y201.length:Int) (wrap64 (x89_3 + 1)))=some (r1,r2):=by rw [if_pos rfl] at H;exact H
                        clear H;have H:=H1;clear H1;obtain ⟨y212,hy212⟩:∃ y_:List (S37),y_=(x6_3.set (x78_2:Int).toNat (⟨x17_4,(rd_T37 x6_3 x78_2).f1⟩:S37)):=⟨_,rfl⟩;replace H:(spec_CoverOf.l4 k4 a1 y212 x78_2 (x6_1.length:Int) x78_2 y201 (y201.length:Int) (wrap64 (x89_3 + 1)))=some (r1,r2):=by first|(rw [hy212];with_reducible exact H)|(have H2_:=(Option.bind_some _ _).symm.trans H;rw [hy212];with_reducible exact H2_)|(have H2_:=(Option.bind_some _ _).symm.trans H;with_reducible exact H2_)|with_reducible exact H|(rw [hy212];exact H)|exact H
                        have Ny212:=qK hy212;clear hy212;have H':=qK H;clear H;have p210:0≤(x78_2:Int):=of_decide_eq_true (by first|(with_reducible assumption)|assumption);have q210:x78_2 < (x6_3.length:Int):=of_decide_eq_true (by first|(with_reducible assumption)|assumption);obtain ⟨ad210,A210_0,c210_0,A210_1,c210_1,e210,hx210_0,hx210_1,hl210_0,hi210_0,hl210_1,hi210_1⟩:=at_T37 (Kd.N_reads' HO_6.out).2.2 x78_2 p210 q210;obtain rfl:ad200=ad210:=(by injection e210);obtain ⟨ce210,hce210,hMe210,hcc210⟩:=Kd.N_get HO_6.out z37 x78_2 p210 (by first|exact q210|exact of_decide_eq_true (by first|(with_reducible assumption)|assumption)|(have e_:=(Kd.N_reads' HO_6.out).1;omega));obtain ⟨ua210_0,uc210_0,ua210_1,uc210_1,rfl,ul210_0,ge210_0,ul210_1,ge210_1⟩:=k37_openF hMe210;have hv210_0:=hcc210 0 _ rfl;rw [Nat.add_zero] at hv210_0;replace hv210_0:=Option.some.inj (hv210_0.symm.trans hx210_0);injection hv210_0 with hva_ hvn_ hvc_
                        rw [hva_] at ge210_0;rw [hvc_] at ul210_0;have HL210_0:=qK (show Kd.V (Kd.int .i64) 3 _ w.heap.size _ _ ((rd_T37 x6_3 x78_2).f0) from Kd.V_mk ul210_0 ge210_0);clear hva_ hvn_ hvc_ ge210_0 ul210_0;have hv210_1:=hcc210 1 _ rfl;rw [add_field _ _ 1 (by omega)] at hv210_1;replace hv210_1:=Option.some.inj (hv210_1.symm.trans hx210_1);injection hv210_1 with hva_ hvn_ hvc_
                        rw [hva_] at ge210_1;rw [hvc_] at ul210_1;have HL210_1:=qK (show Kd.V (Kd.int .i64) 3 _ w.heap.size _ _ ((rd_T37 x6_3 x78_2).f1) from Kd.V_mk ul210_1 ge210_1);clear hva_ hvn_ hvc_ ge210_1 ul210_1;clear hcc210 hce210;have HR210_0:=qK hi210_0;have HC210_0:=qK hl210_0;clear hi210_0 hl210_0;have HR210_1:=qK hi210_1;have HC210_1:=qK hl210_1;clear hi210_1 hl210_1;replace p210:=eq_true p210;replace q210:=eq_true q210;obtain ⟨Ao73,co73,eo73⟩:=Kd.R_slice HO_17.out;subst eo73;go_wp2_with (first|((with_reducible refine gate_callee (f:=21) rfl ?_);refine goesL_ (some 119) rfl rfl Try.func21 (by kernel_rfl) rfl #[.slice (some ad200) x6_3.length co48,.agg #[.slice Ao73 x17_4.length co73,.slice A210_1 ((rd_T37 x6_3 x78_2).f1).length c210_1]] rfl (by (try simp only [mT,mC,mN]);first|done|rfl|(simp only [lD,lT];rfl)) ?_;(with_reducible refine (spec_l7Implies.calls k4 _ _ x6_3 _ _ x17_4 _ _ ((rd_T37 x6_3 x78_2).f1) true _ ?side1 ?side2 ?side3 ?side4 ?side5 ?side6 A70.out).mono ?_);(case side1=>repeat (first|exact (Kd.N_reads' HO_6.out).2.2|(with_reducible first|refine cL ?_ _|refine cN ?_ _|refine cW ?_)));(case side2=>exact (Kd.N_reads' HO_6.out).2.1);(case side3=>repeat (first|exact (Kd.R_reads' HO_17.out).2.2|(with_reducible first|refine cL ?_ _|refine cN ?_ _|refine cW ?_)));(case side4=>exact (Kd.R_reads' HO_17.out).2.1);(case side5=>repeat (first|exact (by repeat (first|(with_reducible exact HR210_1.out)|(with_reducible first|refine cL ?_ _|refine cN ?_ _|refine cW ?_)|exact HR210_1.out))|(with_reducible first|refine cL ?_ _|refine cN ?_ _|refine cW ?_)));(case side6=>exact HC210_1.out);rintro e w74 ⟨rfl,hb⟩;refine ⟨_,rfl,?_⟩;have n0_:=qK (Kd.N_below (by (with_reducible repeat (first|apply Kd.N_alloc|apply Kd.N_drewN|apply Kd.N_drew));exact HO_6.out) hb);have n1_:=qK (rB (by (with_reducible repeat (first|apply rL|apply rN|apply rW));exact HO_17.out) hb);have n2_:=qK (rB (by (with_reducible repeat (first|apply rL|apply rN|apply rW));exact HO_87.out) hb);have n3_:=qK (Kd.V_below (by (with_reducible repeat (first|apply Kd.V_alloc|apply Kd.V_drewN|apply Kd.V_drew));exact HL210_0.out) hb);have n4_:=qK (Kd.V_below (by (with_reducible repeat (first|apply Kd.V_alloc|apply Kd.V_drewN|apply Kd.V_drew));exact HL210_1.out) hb);have n5_:=qK (cB (by repeat (first|(with_reducible exact HR210_0.out)|(with_reducible first|refine cL ?_ _|refine cN ?_ _|refine cW ?_)|exact HR210_0.out)) hb);have n6_:=qK (cB (by repeat (first|(with_reducible exact HR210_1.out)|(with_reducible first|refine cL ?_ _|refine cN ?_ _|refine cW ?_)|exact HR210_1.out)) hb);have n7_:=qK (qT (by repeat (with_reducible first|exact HB.out|apply qA|apply qD|apply qO)) hb);clear HO_6;clear HO_17;clear HO_87;clear HL210_0;clear HL210_1;clear HR210_0;clear HR210_1;clear HB;have HO_6:=n0_;have HO_17:=n1_;have HO_87:=n2_;have HL210_0:=n3_;have HL210_1:=n4_;have HR210_0:=n5_;have HR210_1:=n6_;have HB:=n7_;clear n0_ n1_ n2_ n3_ n4_ n5_ n6_ n7_;(try clear hb);have p72:0≤(x78_2:Int):=of_decide_eq_true (by first|(with_reducible assumption)|assumption);have q72:(x78_2:Int) < ((x6_3.length:Int):Int):=of_decide_eq_true (by first|(with_reducible assumption)|assumption);obtain ⟨go72,co72,eo72,gb72,gl72,cl72,HG72⟩:=Kd.N_form HO_6.out (by omega);(first|cases eo72|(injection eo72 with ea_ en_ ec_;(first|subst ea_|(injection ea_ with ea_;subst ea_));subst ec_;clear en_));have GB72:=qK gb72;have GG72:=qK HG72;clear gb72 gl72 HG72;(first|simp only [add_plain] at hx200_0|skip);(first|simp only [add_plain] at hx200_1|skip);(first|simp only [add_plain] at hx205_0|skip);(first|simp only [add_plain] at hx205_1|skip);(first|simp only [add_plain] at hx210_0|skip);(first|simp only [add_plain] at hx210_1|skip);obtain ⟨ce72,hcl72,hM72,hcc72,hfr72⟩:=Kd.N_elem HO_6.out z37 (x78_2:Int) p72 q72;obtain ⟨ua72_0,uc72_0,ua72_1,uc72_1,rfl,ul72_0,ge72_0,ul72_1,ge72_1⟩:=k37_openF hM72;have hx72_0:w74.cell? ⟨go72,(x78_2:Int).toNat * 2,none⟩=some (.slice ua72_0 ((rd_T37 x6_3 x78_2).f0).length uc72_0):=hcc72 0 _ rfl;have hx72_1:w74.cell? ⟨go72,(x78_2:Int).toNat * 2 + 1,none⟩=some (.slice ua72_1 ((rd_T37 x6_3 x78_2).f1).length uc72_1):=hcc72 1 _ rfl;have hf72_0:w74.frozen? ⟨go72,(x78_2:Int).toNat * 2,none⟩=false:=hfr72 0;have hf72_1:w74.frozen? ⟨go72,(x78_2:Int).toNat * 2 + 1,none⟩=false:=hfr72 1;clear hcl72 hcc72 hfr72 hM72;replace p72:=eq_true p72;replace q72:=eq_true q72;have HX75:=qK (show Kd.N k37 37 w74 w.heap.size (fun k_=>(w.heap.size≤k_)∧some k_ ≠ (.slice (some ad204) y201.length co56:Value).ownBlock) (.slice (some ⟨go72,0,none⟩) x6_3.length co48) x6_3 from (by (with_reducible repeat (first|apply Kd.N_alloc|apply Kd.N_drewN|apply Kd.N_drew));exact Kd.N_mono HO_6.out (fun _ hk=>⟨hk.1,hk.2.2⟩)));obtain ⟨ce75,hcl75,hM75,hcc75,hfr75⟩:=Kd.N_elem HX75.out z37 (x78_2:Int) (of_decide_eq_true (by first|(with_reducible assumption)|assumption)) (by have h_:(x78_2:Int) < ((x6_3.length:Int):Int):=of_decide_eq_true (by first|(with_reducible assumption)|assumption);first|exact h_|(have e_:=(Kd.N_reads' HO_6.out).1;omega)|simpa using h_);obtain ⟨ua75_0,uc75_0,ua75_1,uc75_1,rfl,ul75_0,ge75_0,ul75_1,ge75_1⟩:=k37_openF hM75;have HP75:=Kd.N_seg HX75.out (x78_2:Int) (of_decide_eq_true (by first|(with_reducible assumption)|assumption)) (by have h_:(x78_2:Int) < ((x6_3.length:Int):Int):=of_decide_eq_true (by first|(with_reducible assumption)|assumption);first|exact h_|(have e_:=(Kd.N_reads' HO_6.out).1;omega)|simpa using h_) (seg:=[.slice Ao73 x17_4.length co73]) (j:=0) hcl75 hcc75 (show 1≤2 from by decide) (x':=(⟨x17_4,(rd_T37 x6_3 x78_2).f1⟩:S37)) (k37_mkF _ _ (⟨x17_4,(rd_T37 x6_3 x78_2).f1⟩:S37) (Kd.R_reads' (Kd.R_mono (ok':=(fun k_=>((fun k_=>(w.heap.size≤k_)∧some k_ ≠ (.slice (some ad204) y201.length co56:Value).ownBlock)) k_∧k_ ≠ go72)) (Kd.R_apart' (HO_17.out) (Kd.N_typed HO_6.out) (by decide)) (fun k_ hk=>⟨⟨hk.1.1,hk.1.2⟩,fun e_=>(hk.2) (by rw [e_];rfl)⟩))).2.1 (Kd.R_F (Kd.R_mono (ok':=(fun k_=>((fun k_=>(w.heap.size≤k_)∧some k_ ≠ (.slice (some ad204) y201.length co56:Value).ownBlock)) k_∧k_ ≠ go72)) (Kd.R_apart' (HO_17.out) (Kd.N_typed HO_6.out) (by decide)) (fun k_ hk=>⟨⟨hk.1.1,hk.1.2⟩,fun e_=>(hk.2) (by rw [e_];rfl)⟩))) ul75_1 ge75_1) (fun _ hk=>hk);have hx75_0:=hcc75 0 _ rfl;(try simp only [show (k37).sz=2 from rfl,Nat.mul_one,Nat.add_zero] at hx75_0);have hf75_0:=hfr75 0;(try simp only [show (k37).sz=2 from rfl,Nat.mul_one,Nat.add_zero] at hf75_0);clear hcl75 hcc75 hfr75 hM75)|((with_reducible refine gate_store (t:=35) (p:=124) rfl ?_);refine store_event (t:=35) (p:=124) (v:=?vo_w76) (w1:=(w74.setCell ⟨go72,(x78_2:Int).toNat * 2,none⟩ (.slice Ao73 x17_4.length co73))) ?hg ?ho ?hn ?hr ?_;(case ho=>rfl);(case hg=>rfl);(case hn=>rfl);(case hr=>(go_simp;try rfl));intro w76 hw;have hg:w74.grownBy w76 (some go72):=(by rw [hw];exact HP75.2);have hp_:Kd.N k37 37 w76 w.heap.size (fun k_=>(w.heap.size≤k_)∧some k_ ≠ (.slice (some ad204) y201.length co56:Value).ownBlock) (.slice (some ⟨go72,0,none⟩) x6_3.length co48) y212:=(by rw [hw,Ny212.out];exact HP75.1);clear HP75;have n0_:=qK (hp_);have n1_:=qK (Kd.R_over' (v:=(.slice (some ⟨go72,0,none⟩) x6_3.length co48)) (by (with_reducible repeat (first|apply rL|apply rN|apply rW));exact HO_87.out) (Kd.N_typed HO_6.out) (by decide) hg);have n2_:=qK (Kd.V_afterv (v:=(.slice (some ⟨go72,0,none⟩) x6_3.length co48)) (v1:=(.slice (some ⟨go72,0,none⟩) x6_3.length co48)) (ok:=(fun k_=>(w.heap.size≤k_)∧some k_ ≠ (.slice Ao73 x17_4.length co73:Value).ownBlock∧some k_ ≠ (.slice (some ad204) y201.length co56:Value).ownBlock)) (by (with_reducible repeat (first|apply Kd.V_alloc|apply Kd.V_drewN|apply Kd.V_drew));exact HL210_0.out) hg (.inl rfl));have n3_:=qK (Kd.V_afterv (v:=(.slice (some ⟨go72,0,none⟩) x6_3.length co48)) (v1:=(.slice (some ⟨go72,0,none⟩) x6_3.length co48)) (ok:=(fun k_=>(w.heap.size≤k_)∧some k_ ≠ (.slice Ao73 x17_4.length co73:Value).ownBlock∧some k_ ≠ (.slice (some ad204) y201.length co56:Value).ownBlock)) (by (with_reducible repeat (first|apply Kd.V_alloc|apply Kd.V_drewN|apply Kd.V_drew));exact HL210_1.out) hg (.inl rfl));have n4_:=qK ((by rw [hw];exact qS (HB.out) GB72.out:Below w.heap.size w w76));clear HO_6;clear HO_87;clear HL210_0;clear HL210_1;clear HB;clear HO_17;have HO_6:=n0_;have HO_87:=n1_;have HL210_0:=n2_;have HL210_1:=n3_;have HB:=n4_;clear n0_ n1_ n2_ n3_ n4_;clear hg hw hp_))
                        (try rw [show ({block:=go72,off:=x78_2.toNat * 2,spot:=none}:Addr)=Addr.add ⟨go72,0,none⟩ (x78_2.toNat * 2) from by simp [Addr.add]]);(try simp only [← hl6_3]);go_roundg k4
                        case measure=>have:=HK1.out;have:=HK2.out;have:=HK3.out;have:=HK4.out;omega
                        case rel=>exact ⟨(y212),(wrap64 (x89_3 + 1)),(by first|rfl|(simp;done)|(simp [*];done)),H',⟨by have:=HK1.out;have:=HK2.out;have:=HK3.out;have:=HK4.out;omega⟩,⟨by (try simp only [hl6_2]);(try simp only [hl6_3]);(with_reducible repeat (first|apply Kd.N_alloc|apply Kd.N_drewN|apply Kd.N_drew));exact HO_6.out⟩,⟨by (try simp only [hl6_2]);(try simp only [hl6_3]);(with_reducible repeat (first|apply rL|apply rN|apply rW));exact Kd.R_mono HO_87.out (fun _ hk=>hk.1)⟩,⟨by repeat (first|(with_reducible first|exact HB.out|apply qA|apply qD|apply qO)|exact HB.out)⟩⟩
                       ·replace c71:=Bool.eq_false_iff.mpr c71;subst c71;have H1:(spec_CoverOf.l4 k4 a1 x6_3 x78_2 (x6_1.length:Int) x78_2 y201 (y201.length:Int) (wrap64 (x89_3 + 1)))=some (r1,r2):=by rw [if_neg (show ¬ (false=true) by decide)] at H;exact H
                        clear H;have H:=H1;clear H1;have H':=qK H;clear H;have p210:0≤(x78_2:Int):=of_decide_eq_true (by first|(with_reducible assumption)|assumption);have q210:x78_2 < (x6_3.length:Int):=of_decide_eq_true (by first|(with_reducible assumption)|assumption);obtain ⟨ad210,A210_0,c210_0,A210_1,c210_1,e210,hx210_0,hx210_1,hl210_0,hi210_0,hl210_1,hi210_1⟩:=at_T37 (Kd.N_reads' HO_6.out).2.2 x78_2 p210 q210;obtain rfl:ad200=ad210:=(by injection e210);obtain ⟨ce210,hce210,hMe210,hcc210⟩:=Kd.N_get HO_6.out z37 x78_2 p210 (by first|exact q210|exact of_decide_eq_true (by first|(with_reducible assumption)|assumption)|(have e_:=(Kd.N_reads' HO_6.out).1;omega));obtain ⟨ua210_0,uc210_0,ua210_1,uc210_1,rfl,ul210_0,ge210_0,ul210_1,ge210_1⟩:=k37_openF hMe210;have hv210_0:=hcc210 0 _ rfl;rw [Nat.add_zero] at hv210_0;replace hv210_0:=Option.some.inj (hv210_0.symm.trans hx210_0);injection hv210_0 with hva_ hvn_ hvc_
                        rw [hva_] at ge210_0;rw [hvc_] at ul210_0;have HL210_0:=qK (show Kd.V (Kd.int .i64) 3 _ w.heap.size _ _ ((rd_T37 x6_3 x78_2).f0) from Kd.V_mk ul210_0 ge210_0);clear hva_ hvn_ hvc_ ge210_0 ul210_0;have hv210_1:=hcc210 1 _ rfl;rw [add_field _ _ 1 (by omega)] at hv210_1;replace hv210_1:=Option.some.inj (hv210_1.symm.trans hx210_1);injection hv210_1 with hva_ hvn_ hvc_
                        rw [hva_] at ge210_1;rw [hvc_] at ul210_1;have HL210_1:=qK (show Kd.V (Kd.int .i64) 3 _ w.heap.size _ _ ((rd_T37 x6_3 x78_2).f1) from Kd.V_mk ul210_1 ge210_1);clear hva_ hvn_ hvc_ ge210_1 ul210_1;clear hcc210 hce210;have HR210_0:=qK hi210_0;have HC210_0:=qK hl210_0;clear hi210_0 hl210_0;have HR210_1:=qK hi210_1;have HC210_1:=qK hl210_1;clear hi210_1 hl210_1;replace p210:=eq_true p210;replace q210:=eq_true q210;obtain ⟨Ao77,co77,eo77⟩:=Kd.R_slice HO_17.out;subst eo77;go_wp2_with (first|((with_reducible refine gate_callee (f:=21) rfl ?_);refine goesL_ (some 119) rfl rfl Try.func21 (by kernel_rfl) rfl #[.slice (some ad200) x6_3.length co48,.agg #[.slice Ao77 x17_4.length co77,.slice A210_1 ((rd_T37 x6_3 x78_2).f1).length c210_1]] rfl (by (try simp only [mT,mC,mN]);first|done|rfl|(simp only [lD,lT];rfl)) ?_;(with_reducible refine (spec_l7Implies.calls k4 _ _ x6_3 _ _ x17_4 _ _ ((rd_T37 x6_3 x78_2).f1) false _ ?side1 ?side2 ?side3 ?side4 ?side5 ?side6 A70.out).mono ?_);(case side1=>repeat (first|exact (Kd.N_reads' HO_6.out).2.2|(with_reducible first|refine cL ?_ _|refine cN ?_ _|refine cW ?_)));(case side2=>exact (Kd.N_reads' HO_6.out).2.1);(case side3=>repeat (first|exact (Kd.R_reads' HO_17.out).2.2|(with_reducible first|refine cL ?_ _|refine cN ?_ _|refine cW ?_)));(case side4=>exact (Kd.R_reads' HO_17.out).2.1);(case side5=>repeat (first|exact (by repeat (first|(with_reducible exact HR210_1.out)|(with_reducible first|refine cL ?_ _|refine cN ?_ _|refine cW ?_)|exact HR210_1.out))|(with_reducible first|refine cL ?_ _|refine cN ?_ _|refine cW ?_)));(case side6=>exact HC210_1.out);rintro e w78 ⟨rfl,hb⟩;refine ⟨_,rfl,?_⟩;have n0_:=qK (Kd.N_below (by (with_reducible repeat (first|apply Kd.N_alloc|apply Kd.N_drewN|apply Kd.N_drew));exact HO_6.out) hb);have n1_:=qK (rB (by (with_reducible repeat (first|apply rL|apply rN|apply rW));exact HO_17.out) hb);have n2_:=qK (rB (by (with_reducible repeat (first|apply rL|apply rN|apply rW));exact HO_87.out) hb);have n3_:=qK (Kd.V_below (by (with_reducible repeat (first|apply Kd.V_alloc|apply Kd.V_drewN|apply Kd.V_drew));exact HL210_0.out) hb);have n4_:=qK (Kd.V_below (by (with_reducible repeat (first|apply Kd.V_alloc|apply Kd.V_drewN|apply Kd.V_drew));exact HL210_1.out) hb);have n5_:=qK (cB (by repeat (first|(with_reducible exact HR210_0.out)|(with_reducible first|refine cL ?_ _|refine cN ?_ _|refine cW ?_)|exact HR210_0.out)) hb);have n6_:=qK (cB (by repeat (first|(with_reducible exact HR210_1.out)|(with_reducible first|refine cL ?_ _|refine cN ?_ _|refine cW ?_)|exact HR210_1.out)) hb);have n7_:=qK (qT (by repeat (with_reducible first|exact HB.out|apply qA|apply qD|apply qO)) hb);clear HO_6;clear HO_17;clear HO_87;clear HL210_0;clear HL210_1;clear HR210_0;clear HR210_1;clear HB;have HO_6:=n0_;have HO_17:=n1_;have HO_87:=n2_;have HL210_0:=n3_;have HL210_1:=n4_;have HR210_0:=n5_;have HR210_1:=n6_;have HB:=n7_;clear n0_ n1_ n2_ n3_ n4_ n5_ n6_ n7_;(try clear hb)))
                        (try simp only [← hl6_3]);go_roundg k4
                        case measure=>have:=HK1.out;have:=HK2.out;have:=HK3.out;have:=HK4.out;omega
                        case rel=>exact ⟨(x6_3),(wrap64 (x89_3 + 1)),(by first|rfl|(simp;done)|(simp [*];done)),H',⟨by have:=HK1.out;have:=HK2.out;have:=HK3.out;have:=HK4.out;omega⟩,⟨by (try simp only [hl6_2]);(try simp only [hl6_3]);(with_reducible repeat (first|apply Kd.N_alloc|apply Kd.N_drewN|apply Kd.N_drew));exact Kd.N_mono HO_6.out (fun _ hk=>⟨hk.1,hk.2.2⟩)⟩,⟨by (try simp only [hl6_2]);(try simp only [hl6_3]);(with_reducible repeat (first|apply rL|apply rN|apply rW));exact Kd.R_mono HO_87.out (fun _ hk=>hk.1)⟩,⟨by repeat (first|(with_reducible first|exact HB.out|apply qA|apply qD|apply qO)|exact HB.out)⟩⟩
                      ·rw [if_neg c69] at H;exact absurd H (by simp)
                     ·rw [if_neg c68] at H;exact absurd H (by simp)
                 ·rw [if_neg c61] at H;exact absurd H (by simp)
                ·rw [if_neg c60] at H;exact absurd H (by simp)
               ·rw [if_neg c59] at H;exact absurd H (by simp)
              ·rw [if_neg c58] at H;exact absurd H (by simp)
             ·rw [if_neg c57] at H;have c57b0:decide (x89_3 < (y201.length:Int))=false:=decide_eq_false c57;clear c57;have H':=qK H;clear H;go_wp2
              (try simp only [← hl6_2,← hl6_3]);go_roundg k3
              case measure=>have:=HK1.out;have:=HK2.out;have:=HK3.out;omega
              case rel=>exact ⟨(x6_3),(wrap64 (x78_2 + 1)),(by first|rfl|(simp;done)|(simp [*];done)),H',⟨by have:=HK1.out;have:=HK2.out;have:=HK3.out;omega⟩,⟨by (try simp only [hl6_2]);(try simp only [hl6_3]);(with_reducible repeat (first|apply Kd.N_alloc|apply Kd.N_drewN|apply Kd.N_drew));exact Kd.N_mono HO_6.out (fun _ hk=>hk.1)⟩,⟨by repeat (first|(with_reducible first|exact HB.out|apply qA|apply qD|apply qO)|exact HB.out)⟩⟩
          ·rw [if_neg c52] at H;exact absurd H (by simp)
         ·rw [if_neg c51] at H;exact absurd H (by simp)
        ·rw [if_neg c50] at H;exact absurd H (by simp)
       ·rw [if_neg c49] at H;have c49b0:decide (x78_2 < (x6_1.length:Int))=false:=decide_eq_false c49;clear c49;have c49b1:decide (x78_2 < (x6_2.length:Int))=false:=(congrArg (fun n_:Nat=>decide (x78_2 < (n_:Int))) hl6_2).symm.trans c49b0;have H':=qK H;clear H;go_wp2
        go_loopg [6,20] k2 (fun kq v6 v20 w'=>∃ (x6_3:List (S37)) (x20_3:Int),v20=.int .i64 x20_3∧Aside0 (spec_CoverOf.l6 kq a1 x6_3 x20_3=some (r1,r2))∧Aside0 (kq≤k2)∧Aside0 (Kd.N k37 37 w' w.heap.size (fun k_=>(w.heap.size≤k_)) v6 x6_3)∧Aside0 (Below w.heap.size w w'))
        case atStart=>exact ⟨(x6_2),(0),(by first|rfl|(simp;done)|(simp [*];done)),H',⟨Nat.le_refl _⟩,⟨by (try simp only [hl6_2]);(with_reducible repeat (first|apply Kd.N_alloc|apply Kd.N_drewN|apply Kd.N_drew));exact HO_6.out⟩,⟨by repeat (first|(with_reducible first|exact HB.out|apply qA|apply qD|apply qO)|exact HB.out)⟩⟩
        case round =>
         clear H';try clear c1
         try clear p1
         try clear q1
         try clear hx1
         try clear qi1
         try clear c2
         try clear p2
         try clear q2
         try clear hx2
         try clear c3
         try clear c4
         try clear c5
         try clear c6
         try clear c6b0
         try clear p6
         try clear c7
         try clear c7b0
         try clear p7
         try clear q7
         try clear hx7
         try clear hf7
         try clear c8
         try clear c8b0
         try clear c11
         try clear c11b0
         try clear c12
         try clear c12b0
         try clear c13
         try clear c13b0
         try clear c15
         try clear c15b0
         try clear c16
         try clear c16b0
         try clear c17
         try clear c17b0
         try clear p17
         try clear q17
         try clear hx17
         try clear c18
         try clear p18
         try clear q18
         try clear hx18
         try clear qi18
         try clear c19
         try clear c20
         try clear p20
         try clear q20
         try clear hx20
         try clear c21
         try clear p21
         try clear q21
         try clear hx21
         try clear c22
         try clear c22b0
         try clear c22b1
         try clear c23
         try clear c23b0
         try clear c23b1
         try clear c26
         try clear c32
         try clear c36
         try clear c37
         try clear c38
         try clear c49
         try clear c49b0
         try clear c50
         try clear c50b0
         try clear c51
         try clear c51b0
         try clear c52
         try clear c57
         try clear c57b0
         try clear c58
         try clear c58b0
         try clear c59
         try clear c59b0
         try clear c60
         try clear c60b0
         try clear c61
         try clear c61b0
         try clear c62
         try clear c62b0
         try clear c63
         try clear c63b0
         try clear c64
         try clear c64b0
         try clear p64
         try clear c65
         try clear c65b0
         try clear c65b1
         try clear c66
         try clear c68
         try clear c68b0
         try clear c69
         try clear c69b0
         try clear c71
         try clear c72
         try clear p72
         try clear q72
         try clear hx72
         try clear hf72
         try clear c75
         try clear hx75
         try clear hf75
         try clear hcz10_0
         try clear hcz10_1
         try clear hcz21_0
         try clear hcz21_1
         try clear hcz27_0
         try clear hcz27_1
         try clear hcz29_0
         try clear hcz29_1
         try clear hcz30_0
         try clear hcz30_1
         try clear hcz33_0
         try clear hcz33_1
         try clear hcz35_0
         try clear hcz35_1
         try clear hcz41_0
         try clear hcz41_1
         try clear hfz10_0
         try clear hfz10_1
         try clear hfz21_0
         try clear hfz21_1
         try clear hfz27_0
         try clear hfz27_1
         try clear hfz29_0
         try clear hfz29_1
         try clear hfz30_0
         try clear hfz30_1
         try clear hfz33_0
         try clear hfz33_1
         try clear hfz35_0
         try clear hfz35_1
         try clear hfz41_0
         try clear hfz41_1
         try clear hx178_0
         try clear hx178_1
         try clear hx180_0
         try clear hx181_0
         try clear hx181_1
         try clear hx183_0
         try clear hx200_0
         try clear hx200_1
         try clear hx204_0
         try clear hx205_0
         try clear hx205_1
         try clear hx206_0
         try clear hx210_0
         try clear hx210_1
         try clear hx72_0
         try clear hx72_1
         try clear hx75_0
         try clear p1
         try clear p17
         try clear p178
         try clear p18
         try clear p180
         try clear p181
         try clear p183
         try clear p2
         try clear p20
         try clear p200
         try clear p204
         try clear p205
         try clear p206
         try clear p210
         try clear p6
         try clear p72
         try clear q1
         try clear q17
         try clear q178
         try clear q18
         try clear q180
         try clear q181
         try clear q183
         try clear q2
         try clear q20
         try clear q200
         try clear q204
         try clear q205
         try clear q206
         try clear q210
         try clear q72
         obtain ⟨x6_3,x20_3,rfl,HA,HK3,HO_6,HB⟩:=hrel;cases gk with
         | zero=>exact absurd HA.out (by simp [spec_CoverOf.l6])
         | succ k3 =>
          have H:=HA.out;clear HA;simp only [spec_CoverOf.l6] at H;by_cases c79:x20_3 < (x6_3.length:Int)
          ·rw [if_pos c79] at H;have c79b0:decide (x20_3 < (x6_3.length:Int))=true:=decide_eq_true c79;clear c79;obtain ⟨y213,hy213⟩:∃ y_:List (S37),y_=(([]:List (S37))):=⟨_,rfl⟩;replace H:(if 0≤x20_3 then (if x20_3≤(x6_3.length:Int) then ((some (x6_3.take (x20_3:Int).toNat:List (S37))).bind fun y216=>(if y213.length + y216.length < 2932031007402 then ((some (y213 ++ y216:List (S37))).bind fun y221=>(if 0≤(wrap64 (x20_3 + 1)) then (if (wrap64 (x20_3 + 1))≤(x6_3.length:Int) then ((some (x6_3.drop ((wrap64 (x20_3 + 1)):Int).toNat:List (S37))).bind fun y224=>(if y221.length + y224.length < 2932031007402 then ((some (y221 ++ y224:List (S37))).bind fun y229=>((spec_l7Implies.f k3 y229 ((rd_T37 x6_3 x20_3).f0) ((rd_T37 x6_3 x20_3).f1)).bind fun t233=>(if t233=true then (spec_CoverOf.l6 k3 a1 y229 x20_3) else (spec_CoverOf.l6 k3 a1 x6_3 (wrap64 (x20_3 + 1)))))) else (none))) else (none)) else (none))) else (none))) else (none)) else (none))=some (r1,r2):=by first|(rw [hy213];with_reducible exact H)|(have H2_:=(Option.bind_some _ _).symm.trans H;rw [hy213];with_reducible exact H2_)|(have H2_:=(Option.bind_some _ _).symm.trans H;with_reducible exact H2_)|with_reducible exact H|(rw [hy213];exact H)|exact H
           have Ny213:=qK hy213;clear hy213;by_cases c80:0≤x20_3
           ·rw [if_pos c80] at H;have c80b0:=eq_true c80;have c80b1:decide (0≤x20_3)=true:=decide_eq_true c80;clear c80;by_cases c81:x20_3≤(x6_3.length:Int)
            ·rw [if_pos c81] at H;have c81b0:=eq_true c81;have c81b1:decide (x20_3≤(x6_3.length:Int))=true:=decide_eq_true c81;clear c81;obtain ⟨y216,hy216⟩:∃ y_:List (S37),y_=(x6_3.take (x20_3:Int).toNat):=⟨_,rfl⟩;replace H:(if y213.length + y216.length < 2932031007402 then ((some (y213 ++ y216:List (S37))).bind fun y221=>(if 0≤(wrap64 (x20_3 + 1)) then (if (wrap64 (x20_3 + 1))≤(x6_3.length:Int) then ((some (x6_3.drop ((wrap64 (x20_3 + 1)):Int).toNat:List (S37))).bind fun y224=>(if y221.length + y224.length < 2932031007402 then ((some (y221 ++ y224:List (S37))).bind fun y229=>((spec_l7Implies.f k3 y229 ((rd_T37 x6_3 x20_3).f0) ((rd_T37 x6_3 x20_3).f1)).bind fun t233=>(if t233=true then (spec_CoverOf.l6 k3 a1 y229 x20_3) else (spec_CoverOf.l6 k3 a1 x6_3 (wrap64 (x20_3 + 1)))))) else (none))) else (none)) else (none))) else (none))=some (r1,r2):=by first|(rw [hy216];with_reducible exact H)|(have H2_:=(Option.bind_some _ _).symm.trans H;rw [hy216];with_reducible exact H2_)|(have H2_:=(Option.bind_some _ _).symm.trans H;with_reducible exact H2_)|with_reducible exact H|(rw [hy216];exact H)|exact H
             have Ny216:=qK hy216;clear hy216;by_cases c82:y213.length + y216.length < 2932031007402
             ·rw [if_pos c82] at H;have LMc82:=qK c82;clear c82;obtain ⟨y221,hy221⟩:∃ y_:List (S37),y_=(y213 ++ y216):=⟨_,rfl⟩;replace H:(if 0≤(wrap64 (x20_3 + 1)) then (if (wrap64 (x20_3 + 1))≤(x6_3.length:Int) then ((some (x6_3.drop ((wrap64 (x20_3 + 1)):Int).toNat:List (S37))).bind fun y224=>(if y221.length + y224.length < 2932031007402 then ((some (y221 ++ y224:List (S37))).bind fun y229=>((spec_l7Implies.f k3 y229 ((rd_T37 x6_3 x20_3).f0) ((rd_T37 x6_3 x20_3).f1)).bind fun t233=>(if t233=true then (spec_CoverOf.l6 k3 a1 y229 x20_3) else (spec_CoverOf.l6 k3 a1 x6_3 (wrap64 (x20_3 + 1)))))) else (none))) else (none)) else (none))=some (r1,r2):=by first|(rw [hy221];with_reducible exact H)|(have H2_:=(Option.bind_some _ _).symm.trans H;rw [hy221];with_reducible exact H2_)|(have H2_:=(Option.bind_some _ _).symm.trans H;with_reducible exact H2_)|with_reducible exact H|(rw [hy221];exact H)|exact H
              have Ny221:=qK hy221;clear hy221;obtain ⟨ji83,hji83⟩:∃ j_:Int,(wrap64 (x20_3 + 1))=j_:=⟨_,rfl⟩;replace H:(if 0≤(ji83) then (if (ji83)≤(x6_3.length:Int) then ((some (x6_3.drop ((ji83):Int).toNat:List (S37))).bind fun y224=>(if y221.length + y224.length < 2932031007402 then ((some (y221 ++ y224:List (S37))).bind fun y229=>((spec_l7Implies.f k3 y229 ((rd_T37 x6_3 x20_3).f0) ((rd_T37 x6_3 x20_3).f1)).bind fun t233=>(if t233=true then (spec_CoverOf.l6 k3 a1 y229 x20_3) else (spec_CoverOf.l6 k3 a1 x6_3 ji83)))) else (none))) else (none)) else (none))=some (r1,r2):=by first|(rw [hji83] at H;exact H)|(simp only [hji83] at H ⊢;exact H)
              have hji83w:(IntKind.i64.wrap (x20_3 + 1))=ji83:=(i64_w _).trans hji83;by_cases c84:0≤(ji83)
              ·rw [if_pos c84] at H;have c84b0:=eq_true c84;have c84b1:decide (0≤(ji83))=true:=decide_eq_true c84;clear c84;by_cases c85:(ji83)≤(x6_3.length:Int)
               ·rw [if_pos c85] at H;have c85b0:=eq_true c85;have c85b1:decide ((ji83)≤(x6_3.length:Int))=true:=decide_eq_true c85;clear c85;obtain ⟨y224,hy224⟩:∃ y_:List (S37),y_=(x6_3.drop ((ji83):Int).toNat):=⟨_,rfl⟩;replace H:(if y221.length + y224.length < 2932031007402 then ((some (y221 ++ y224:List (S37))).bind fun y229=>((spec_l7Implies.f k3 y229 ((rd_T37 x6_3 x20_3).f0) ((rd_T37 x6_3 x20_3).f1)).bind fun t233=>(if t233=true then (spec_CoverOf.l6 k3 a1 y229 x20_3) else (spec_CoverOf.l6 k3 a1 x6_3 ji83)))) else (none))=some (r1,r2):=by first|(rw [hy224];with_reducible exact H)|(have H2_:=(Option.bind_some _ _).symm.trans H;rw [hy224];with_reducible exact H2_)|(have H2_:=(Option.bind_some _ _).symm.trans H;with_reducible exact H2_)|with_reducible exact H|(rw [hy224];exact H)|exact H
                have Ny224:=qK hy224;clear hy224;by_cases c86:y221.length + y224.length < 2932031007402
                ·rw [if_pos c86] at H;have LMc86:=qK c86;clear c86;obtain ⟨y229,hy229⟩:∃ y_:List (S37),y_=(y221 ++ y224):=⟨_,rfl⟩;replace H:((spec_l7Implies.f k3 y229 ((rd_T37 x6_3 x20_3).f0) ((rd_T37 x6_3 x20_3).f1)).bind fun t233=>(if t233=true then (spec_CoverOf.l6 k3 a1 y229 x20_3) else (spec_CoverOf.l6 k3 a1 x6_3 ji83)))=some (r1,r2):=by first|(rw [hy229];with_reducible exact H)|(have H2_:=(Option.bind_some _ _).symm.trans H;rw [hy229];with_reducible exact H2_)|(have H2_:=(Option.bind_some _ _).symm.trans H;with_reducible exact H2_)|with_reducible exact H|(rw [hy229];exact H)|exact H
                 have Ny229:=qK hy229;clear hy229;replace H:=Option.bind_eq_some_iff.mp H;obtain ⟨t233,A870,H⟩:=H;replace H:(if t233=true then (spec_CoverOf.l6 k3 a1 y229 x20_3) else (spec_CoverOf.l6 k3 a1 x6_3 ji83))=some (r1,r2):=H;have A87:=qK A870;clear A870;by_cases c88:t233=true
                 ·subst c88;have H1:(spec_CoverOf.l6 k3 a1 y229 x20_3)=some (r1,r2):=by rw [if_pos rfl] at H;exact H
                  clear H;have H:=H1;clear H1;have H':=qK H;clear H;obtain ⟨Ao89,co89,eo89⟩:=Kd.N_slice HO_6.out;subst eo89;try go_wp2
                  (try (rw [drewN_self wr];generalize hq_:World.drewN wr _=wr;have n0_:Aside0 (Kd.N k37 37 wr w.heap.size (fun k_=>(w.heap.size≤k_)) (.slice Ao89 x6_3.length co89) x6_3):=⟨by rw [← hq_];exact (by (with_reducible repeat (first|apply Kd.N_alloc|apply Kd.N_drewN|apply Kd.N_drew));exact HO_6.out)⟩;have n1_:Aside0 (Below w.heap.size w wr):=⟨by rw [← hq_];exact (by repeat (with_reducible first|exact HB.out|apply qA|apply qD|apply qO))⟩;clear HO_6 HB hq_;have HO_6:=n0_;have HB:=n1_;clear n0_ n1_));have n0_:=qK (Kd.N_drew HO_6.out);have n1_:=qK (qO HB.out);clear HO_6;clear HB;have HO_6:=n0_;have HB:=n1_;clear n0_ n1_;have q91:(x20_3:Int)≤((x6_3.length:Int):Int):=of_decide_eq_true (by first|(with_reducible assumption)|assumption);obtain ⟨i091,hi091,_,hsz91,_⟩:=info_parts info37;have hroom91:x6_3.length≤co89:=(Kd.N_reads' HO_6.out).2.1;have hC91:Kd.F k37 _ _ Ao89 x6_3.length x6_3:=(Kd.V_at (base:=w.heap.size) (Kd.N_V HO_6.out)).2.2;have hcut91:=cut_to (P:=Try.prog) 24 37 .i64 Try.underlying24 hi091 Ao89 x6_3.length co89 x20_3 (of_decide_eq_true (by first|(with_reducible assumption)|assumption)) q91 hroom91;have hr91:=Kd.F_take (m:=(x20_3:Int).toNat) hC91 (by omega);have hy91:y216.length=(x20_3:Int).toNat:=(by rw [Ny216.out,lT];omega);rw [← Ny216.out] at hr91;rw [← hy91] at hcut91;have HO220:=qK (show Kd.V k37 37 _ w.heap.size _ (.slice Ao89 y216.length co89) y216 from Kd.V_mk (by omega) hr91);have HC220:=qK (show y216.length≤co89 from by omega);clear hr91 hC91 hroom91 hi091 hsz91;have KY91:=qK hy91;clear hy91;replace q91:=eq_true q91;have q92:((ji83):Int)≤((x6_3.length:Int):Int):=of_decide_eq_true (by first|(with_reducible assumption)|assumption);obtain ⟨i092,hi092,_,hsz92,_⟩:=info_parts info37;have hroom92:x6_3.length≤co89:=(Kd.N_reads' HO_6.out).2.1;have hC92:Kd.F k37 _ _ Ao89 x6_3.length x6_3:=(Kd.V_at (base:=w.heap.size) (Kd.N_V HO_6.out)).2.2;have q092:(0:Int)≤((ji83):Int):=of_decide_eq_true (by first|(with_reducible assumption)|assumption);have hcut92:=cut_from (P:=Try.prog) 24 37 .i64 Try.underlying24 hi092 2 hsz92 Ao89 x6_3.length co89 (ji83) q092 q92;have hr92:=Kd.F_cut (m:=((ji83):Int).toNat) (c:=co89) hC92 (by omega) hroom92;obtain ⟨A92,hA92⟩:∃ A1,A1=(if co89=((ji83):Int).toNat then Ao89 else (Ao89:Option Addr).map (·.add (((ji83):Int).toNat * 2))):=⟨_,rfl⟩;obtain ⟨c92,hc92⟩:∃ c1,c1=co89 - ((ji83):Int).toNat:=⟨_,rfl⟩;have hy92:y224.length=x6_3.length - ((ji83):Int).toNat:=(by rw [Ny224.out,lD] <;> omega);rw [show (x6_3).drop ((ji83):Int).toNat=y224 from Ny224.out.symm] at hr92;replace hr92:Kd.F k37 _ _ A92 y224.length y224:=(by rw [hA92];exact hr92);rw [← hy92,← hA92,← hc92] at hcut92;have HO228:=qK (show Kd.V k37 37 _ w.heap.size _ (.slice A92 y224.length c92) y224 from Kd.V_mk (by rw [hy92,hc92];exact Nat.sub_le_sub_right hroom92 _) hr92);have HC228:=qK (show y224.length≤c92 from by rw [hy92,hc92];exact Nat.sub_le_sub_right hroom92 _);clear hr92 hC92 hroom92 hi092 hsz92 hc92;have KY92:=qK hy92;have KA92:=qK hA92;clear hy92 hA92;replace q92:=eq_true q92;refine start_ (n:=11) (S:=fun w'=>True) (ds:=[]) #[Z,Z,Z,Z,Z,Z,Z,Z,Z,Z,Z] (by kernel_rfl) rfl rfl trivial (fun hHeld=>?_);refine with_tabW spec_CoverOf.tab39 spec_CoverOf.bits39 (fun HT_ HW_=>?_);generalize wr.drew=w90 at HO_6 HB HO220 HO228 hHeld ⊢
                  refine pure_ (i:=1) (N:=some 132) (v:=?_) (a':=?_) #[Z,Y,Z,Z,Z,Z,Z,Z,Z,Z,Z] rfl rfl (any_of HT_.out (by kernel_rfl)) (fun _ _ _ h=>h) (Or.inl ⟨by rfl,?_⟩) ?_ ?_;rotate_left
                  ·intro w';go_simp;with_reducible rfl
                  rotate_left
                  ·simp only [Act.put,sIb,sZ,sS,i64_w,i32_w];rfl
                  refine pure_ (i:=2) (N:=some 133) (v:=?_) (a':=?_) #[Z,Y,Y,Z,Z,Z,Z,Z,Z,Z,Z] rfl rfl (any_of HT_.out (by kernel_rfl)) (fun _ _ _ h=>h) (Or.inl ⟨by rfl,?_⟩) ?_ ?_;rotate_left
                  ·intro w';go_simp;with_reducible rfl
                  rotate_left
                  ·simp only [Act.put,sIb,sZ,sS,i64_w,i32_w];rfl
                  refine pure_ (i:=3) (N:=some 134) (v:=?_) (a':=?_) #[Z,Y,Y,Y,Z,Z,Z,Z,Z,Z,Z] rfl rfl (any_of HT_.out (by kernel_rfl)) (fun _ _ _ h=>h) (Or.inl ⟨by rfl,?_⟩) ?_ ?_;rotate_left
                  ·intro w';go_simp;with_reducible rfl
                  rotate_left
                  ·simp only [Act.put,sIb,sZ,sS,i64_w,i32_w];rfl
                  refine pure_ (i:=5) (N:=some 136) (v:=?_) (a':=?_) #[Z,Y,Y,Y,Z,Y,Z,Z,Z,Z,Z] rfl rfl (any_of HT_.out (by kernel_rfl)) (fun _ _ _ h=>h) (Or.inl ⟨by rfl,?_⟩) ?_ ?_;rotate_left
                  ·intro w';go_simp;with_reducible rfl
                  rotate_left
                  ·simp only [Act.put,sIb,sZ,sS,i64_w,i32_w];rfl
                  refine pure_ (i:=6) (N:=some 137) (v:=?_) (a':=?_) #[Z,Y,Y,Y,Z,Y,Y,Z,Z,Z,Z] rfl rfl (any_of HT_.out (by kernel_rfl)) (fun _ _ _ h=>h) (Or.inl ⟨by rfl,?_⟩) ?_ ?_;rotate_left
                  ·intro w';go_simp;with_reducible rfl
                  rotate_left
                  ·simp only [Act.put,sIb,sZ,sS,i64_w,i32_w];rfl
                  refine pure_ (i:=7) (N:=some 138) (v:=?_) (a':=?_) #[Z,Y,Y,Y,Z,Y,Y,Y,Z,Z,Z] rfl rfl (any_of HT_.out (by kernel_rfl)) (fun _ _ _ h=>h) (Or.inl ⟨by rfl,?_⟩) ?_ ?_;rotate_left
                  ·intro w';go_simp;with_reducible rfl
                  rotate_left
                  ·simp only [Act.put,sIb,sZ,sS,i64_w,i32_w];rfl
                  refine pure_ (i:=8) (N:=some 139) (v:=?_) (a':=?_) #[Z,Y,Y,Y,Z,Y,Y,Y,Y,Z,Z] rfl rfl (any_of HT_.out (by kernel_rfl)) (fun _ _ _ h=>h) (Or.inl ⟨by rfl,?_⟩) ?_ ?_;rotate_left
                  ·intro w';go_simp;with_reducible rfl
                  rotate_left
                  ·simp only [Act.put,sIb,sZ,sS,i64_w,i32_w];rfl
                  refine one_ (i:=0) (N:=some 131) #[Y,Y,Y,Y,Z,Y,Y,Y,Y,Z,Z] rfl rfl (one_of HT_.out (by kernel_rfl)) (by decide) (fun K hK=>?_);refine Kd.N_lit_step k37 _ 37 ?hg (N':=131) ?hd (xs:=([]:List (S37))) (inner:=[]) (ok:=(fun k_=>(w.heap.size≤k_)∧some k_ ≠ (.slice Ao89 x6_3.length co89:Value).ownBlock)) (okp:=(fun k_=>(w.heap.size≤k_)∧some k_ ≠ (.slice Ao89 x6_3.length co89:Value).ownBlock)) ?hr ?hp (fun _ hk=>hk) ((show ∀ k_,w90.heap.size≤k_→(fun k_=>(w.heap.size≤k_)∧some k_ ≠ (.slice Ao89 x6_3.length co89:Value).ownBlock) k_ from fun k_ hk=>⟨(Nat.le_trans (qZ (by repeat (with_reducible first|exact HB.out|apply qA|apply qD|apply qO))) hk),Kd.fresh' (Kd.N_lt (by (with_reducible repeat (first|apply Kd.N_alloc|apply Kd.N_drewN|apply Kd.N_drew));exact HO_6.out)) k_ hk⟩) _ (Nat.le_refl _)) (Below.refl _ _) (Nat.le_refl _) (by simp) ?_;(case hd=>rfl);(case hg=>rfl);(case hr=>(go_simp;try rfl));(case hp=>exact (Reps.none _ _));intro v214 w93 ho94 hb hg_ hnew_;clear hg_ hnew_;(first|rw [← Ny213.out] at ho94|(simp only [Int.reduceToNat] at ho94;rw [← Ny213.out] at ho94));have n0_:=qK (Kd.N_elder' (by (with_reducible repeat (first|apply Kd.N_alloc|apply Kd.N_drewN|apply Kd.N_drew));exact HO_6.out) (Kd.N_base ho94) hb);have n1_:=qK (Kd.V_elder' (by (with_reducible repeat (first|apply Kd.V_alloc|apply Kd.V_drewN|apply Kd.V_drew));exact HO220.out) (Kd.N_base ho94) hb);have n2_:=qK (Kd.V_elder' (by (with_reducible repeat (first|apply Kd.V_alloc|apply Kd.V_drewN|apply Kd.V_drew));exact HO228.out) (Kd.N_base ho94) hb);have n3_:=qK (Kd.N_lower ho94 (qZ (by repeat (with_reducible first|exact HB.out|apply qA|apply qD|apply qO))));have n4_:=qK (qT (by repeat (with_reducible first|exact HB.out|apply qA|apply qD|apply qO)) hb);clear HO_6;clear HO220;clear HO228;clear HB;have HO_6:=n0_;have HO220:=n1_;have HO228:=n2_;have HO215:=n3_;have HB:=n4_;clear n0_ n1_ n2_ n3_ n4_;clear hb ho94;refine hK.out _ _ trivial (fun hHeld=>?_);clear hK K;refine norm_ (a':=?_) ?_ ?_;rotate_left
                  ·show Act.put _ (some 131) _=_
                   simp only [Act.put,sIb,sZ,sS,i64_w,i32_w];rfl
                  refine one_ (i:=4) (N:=some 135) #[Y,Y,Y,Y,Y,Y,Y,Y,Y,Z,Z] rfl rfl (one_of HT_.out (by kernel_rfl)) (by decide) (fun K hK=>?_);refine Kd.N_append_rows_step k37 (w0:=w) w.heap.size (by rfl) (.tmp 131) (.tmp 134) 24 37 (.agg #[(.slice none 0 0),(.slice none 0 0)]) 48 rfl Try.underlying24 info37 rfl (by decide) (by omega) v214 y213 y216 _ _ _ (fun k_=>(w.heap.size≤k_)) (fun k_=>((fun k_=>(w.heap.size≤k_))) k_∧some k_ ≠ (v214:Value).ownBlock) rfl rfl ?aO ?aR (fun _ hk=>hk) ?aF ?aB ?aS ?aL ?_;(case aR=>exact (by skip;exact Kd.V_F (Kd.V_mono (ok':=(fun k_=>((fun k_=>(w.heap.size≤k_))) k_∧some k_ ≠ (v214:Value).ownBlock)) (HO220.out) (fun k_ hk=>⟨hk.1,hk.2⟩))));(case aB=>exact (by repeat (with_reducible first|exact HB.out|apply qA|apply qD|apply qO)));(case aF=>exact (fun k_ hk=>(Nat.le_trans (qZ (by repeat (with_reducible first|exact HB.out|apply qA|apply qD|apply qO))) hk)));(case aO=>exact (by (with_reducible repeat (first|apply Kd.N_alloc|apply Kd.N_drewN|apply Kd.N_drew));exact Kd.N_mono HO215.out (fun _ hk=>hk.1)));(case aS=>exact (qZ (by repeat (with_reducible first|exact HB.out|apply qA|apply qD|apply qO))));(case aL=>have:=LMc82.out;omega);intro v222 w95 ho hb hg hat;rw [← Ny221.out] at ho;have n0_:=qK (Kd.N_afterv (ok:=(fun k_=>(w.heap.size≤k_))) (by (with_reducible repeat (first|apply Kd.N_alloc|apply Kd.N_drewN|apply Kd.N_drew));exact HO_6.out) hg hat);have n1_:=qK (Kd.V_afterv (ok:=(fun k_=>(w.heap.size≤k_))) (by (with_reducible repeat (first|apply Kd.V_alloc|apply Kd.V_drewN|apply Kd.V_drew));exact HO220.out) hg hat);have n2_:=qK (Kd.V_afterv (ok:=(fun k_=>(w.heap.size≤k_))) (by (with_reducible repeat (first|apply Kd.V_alloc|apply Kd.V_drewN|apply Kd.V_drew));exact HO228.out) hg hat);have n3_:=qK (hb);have n4_:=qK (ho);clear HO_6;clear HO220;clear HO228;clear HB;clear HO215;have HO_6:=n0_;have HO220:=n1_;have HO228:=n2_;have HB:=n3_;have HO223:=n4_;clear n0_ n1_ n2_ n3_ n4_;clear ho hb hg hat;refine hK.out _ _ trivial (fun hHeld=>?_);clear hK K;refine norm_ (a':=?_) ?_ ?_;rotate_left
                  ·show Act.put _ (some 135) _=_
                   simp only [Act.put,sIb,sZ,sS,i64_w,i32_w];rfl
                  refine one_ (i:=9) (N:=some 140) #[Y,Y,Y,Y,Y,Y,Y,Y,Y,Y,Z] rfl rfl (one_of HT_.out (by kernel_rfl)) (by decide) (fun K hK=>?_);refine Kd.N_append_rows_step k37 (w0:=w) w.heap.size (by rfl) (.tmp 135) (.tmp 139) 24 37 (.agg #[(.slice none 0 0),(.slice none 0 0)]) 48 rfl Try.underlying24 info37 rfl (by decide) (by omega) v222 y221 y224 _ _ _ (fun k_=>(w.heap.size≤k_)) (fun k_=>((fun k_=>(w.heap.size≤k_))) k_∧some k_ ≠ (v222:Value).ownBlock) rfl rfl ?aO ?aR (fun _ hk=>hk) ?aF ?aB ?aS ?aL ?_;(case aR=>exact (by skip;exact Kd.V_F (Kd.V_mono (ok':=(fun k_=>((fun k_=>(w.heap.size≤k_))) k_∧some k_ ≠ (v222:Value).ownBlock)) (HO228.out) (fun k_ hk=>⟨hk.1,hk.2⟩))));(case aB=>exact (by repeat (with_reducible first|exact HB.out|apply qA|apply qD|apply qO)));(case aF=>exact (fun k_ hk=>(Nat.le_trans (qZ (by repeat (with_reducible first|exact HB.out|apply qA|apply qD|apply qO))) hk)));(case aO=>exact (by (with_reducible repeat (first|apply Kd.N_alloc|apply Kd.N_drewN|apply Kd.N_drew));exact HO223.out));(case aS=>exact (qZ (by repeat (with_reducible first|exact HB.out|apply qA|apply qD|apply qO))));(case aL=>have:=LMc86.out;omega);intro v230 w96 ho hb hg hat;rw [← Ny229.out] at ho;have n0_:=qK (Kd.N_afterv (ok:=(fun k_=>(w.heap.size≤k_))) (by (with_reducible repeat (first|apply Kd.N_alloc|apply Kd.N_drewN|apply Kd.N_drew));exact HO_6.out) hg hat);have n1_:=qK (Kd.V_afterv (ok:=(fun k_=>(w.heap.size≤k_))) (by (with_reducible repeat (first|apply Kd.V_alloc|apply Kd.V_drewN|apply Kd.V_drew));exact HO220.out) hg hat);have n2_:=qK (Kd.V_afterv (ok:=(fun k_=>(w.heap.size≤k_))) (by (with_reducible repeat (first|apply Kd.V_alloc|apply Kd.V_drewN|apply Kd.V_drew));exact HO228.out) hg hat);have n3_:=qK (hb);have n4_:=qK (ho);clear HO_6;clear HO220;clear HO228;clear HB;clear HO223;have HO_6:=n0_;have HO220:=n1_;have HO228:=n2_;have HB:=n3_;have HO231:=n4_;clear n0_ n1_ n2_ n3_ n4_;clear ho hb hg hat;refine hK.out _ _ trivial (fun hHeld=>?_);clear hK K;refine norm_ (a':=?_) ?_ ?_;rotate_left
                  ·show Act.put _ (some 140) _=_
                   simp only [Act.put,sIb,sZ,sS,i64_w,i32_w];rfl
                  refine pure_ (i:=10) (N:=some 21) (v:=?_) (a':=?_) #[Y,Y,Y,Y,Y,Y,Y,Y,Y,Y,Y] rfl rfl (any_of HT_.out (by kernel_rfl)) (fun _ _ _ h=>h) (Or.inl ⟨by rfl,?_⟩) ?_ ?_;rotate_left
                  ·intro w';go_simp;with_reducible rfl
                  rotate_left
                  ·simp only [Act.put,sIb,sZ,sS,i64_w,i32_w];rfl
                  refine done_ (done_of HT_.out (by kernel_rfl)) ?_;have p232:0≤(x20_3:Int):=of_decide_eq_true (by first|(with_reducible assumption)|assumption);have q232:x20_3 < (x6_3.length:Int):=of_decide_eq_true (by first|(with_reducible assumption)|assumption);obtain ⟨ad232,A232_0,c232_0,A232_1,c232_1,e232,hx232_0,hx232_1,hl232_0,hi232_0,hl232_1,hi232_1⟩:=at_T37 (Kd.N_reads' HO_6.out).2.2 x20_3 p232 q232;cases e232
                  obtain ⟨ce232,hce232,hMe232,hcc232⟩:=Kd.N_get HO_6.out z37 x20_3 p232 (by first|exact q232|exact of_decide_eq_true (by first|(with_reducible assumption)|assumption)|(have e_:=(Kd.N_reads' HO_6.out).1;omega));obtain ⟨ua232_0,uc232_0,ua232_1,uc232_1,rfl,ul232_0,ge232_0,ul232_1,ge232_1⟩:=k37_openF hMe232;have hv232_0:=hcc232 0 _ rfl;rw [Nat.add_zero] at hv232_0;replace hv232_0:=Option.some.inj (hv232_0.symm.trans hx232_0);injection hv232_0 with hva_ hvn_ hvc_
                  rw [hva_] at ge232_0;rw [hvc_] at ul232_0;have HL232_0:=qK (show Kd.V (Kd.int .i64) 3 _ w.heap.size _ _ ((rd_T37 x6_3 x20_3).f0) from Kd.V_mk ul232_0 ge232_0);clear hva_ hvn_ hvc_ ge232_0 ul232_0;have hv232_1:=hcc232 1 _ rfl;rw [add_field _ _ 1 (by omega)] at hv232_1;replace hv232_1:=Option.some.inj (hv232_1.symm.trans hx232_1);injection hv232_1 with hva_ hvn_ hvc_
                  rw [hva_] at ge232_1;rw [hvc_] at ul232_1;have HL232_1:=qK (show Kd.V (Kd.int .i64) 3 _ w.heap.size _ _ ((rd_T37 x6_3 x20_3).f1) from Kd.V_mk ul232_1 ge232_1);clear hva_ hvn_ hvc_ ge232_1 ul232_1;clear hcc232 hce232;have HR232_0:=qK hi232_0;have HC232_0:=qK hl232_0;clear hi232_0 hl232_0;have HR232_1:=qK hi232_1;have HC232_1:=qK hl232_1;clear hi232_1 hl232_1;replace p232:=eq_true p232;replace q232:=eq_true q232;obtain ⟨Ao97,co97,eo97⟩:=Kd.N_slice HO231.out;subst eo97;try go_wp2_with (first|((with_reducible refine gate_callee (f:=21) rfl ?_);refine goesL_ (some 146) rfl rfl Try.func21 (by kernel_rfl) rfl #[.slice Ao97 y229.length co97,.agg #[.slice A232_0 ((rd_T37 x6_3 x20_3).f0).length c232_0,.slice A232_1 ((rd_T37 x6_3 x20_3).f1).length c232_1]] rfl (by (try simp only [mT,mC,mN]);first|done|rfl|(simp only [lD,lT];rfl)) ?_;(with_reducible refine (spec_l7Implies.calls k3 _ _ y229 _ _ ((rd_T37 x6_3 x20_3).f0) _ _ ((rd_T37 x6_3 x20_3).f1) true _ ?side1 ?side2 ?side3 ?side4 ?side5 ?side6 A87.out).mono ?_);(case side1=>repeat (first|exact (Kd.N_reads' HO231.out).2.2|(with_reducible first|refine cL ?_ _|refine cN ?_ _|refine cW ?_)));(case side2=>exact (Kd.N_reads' HO231.out).2.1);(case side3=>repeat (first|exact (by repeat (first|(with_reducible exact HR232_0.out)|(with_reducible first|refine cL ?_ _|refine cN ?_ _|refine cW ?_)|exact HR232_0.out))|(with_reducible first|refine cL ?_ _|refine cN ?_ _|refine cW ?_)));(case side4=>exact HC232_0.out);(case side5=>repeat (first|exact (by repeat (first|(with_reducible exact HR232_1.out)|(with_reducible first|refine cL ?_ _|refine cN ?_ _|refine cW ?_)|exact HR232_1.out))|(with_reducible first|refine cL ?_ _|refine cN ?_ _|refine cW ?_)));(case side6=>exact HC232_1.out);rintro e w98 ⟨rfl,hb⟩;refine ⟨_,rfl,?_⟩;have n0_:=qK (Kd.N_below (by (with_reducible repeat (first|apply Kd.N_alloc|apply Kd.N_drewN|apply Kd.N_drew));exact HO_6.out) hb);have n1_:=qK (Kd.V_below (by (with_reducible repeat (first|apply Kd.V_alloc|apply Kd.V_drewN|apply Kd.V_drew));exact HO220.out) hb);have n2_:=qK (Kd.V_below (by (with_reducible repeat (first|apply Kd.V_alloc|apply Kd.V_drewN|apply Kd.V_drew));exact HO228.out) hb);have n3_:=qK (Kd.N_below (by (with_reducible repeat (first|apply Kd.N_alloc|apply Kd.N_drewN|apply Kd.N_drew));exact HO231.out) hb);have n4_:=qK (Kd.V_below (by (with_reducible repeat (first|apply Kd.V_alloc|apply Kd.V_drewN|apply Kd.V_drew));exact HL232_0.out) hb);have n5_:=qK (Kd.V_below (by (with_reducible repeat (first|apply Kd.V_alloc|apply Kd.V_drewN|apply Kd.V_drew));exact HL232_1.out) hb);have n6_:=qK (cB (by repeat (first|(with_reducible exact HR232_0.out)|(with_reducible first|refine cL ?_ _|refine cN ?_ _|refine cW ?_)|exact HR232_0.out)) hb);have n7_:=qK (cB (by repeat (first|(with_reducible exact HR232_1.out)|(with_reducible first|refine cL ?_ _|refine cN ?_ _|refine cW ?_)|exact HR232_1.out)) hb);have n8_:=qK (qT (by repeat (with_reducible first|exact HB.out|apply qA|apply qD|apply qO)) hb);clear HO_6;clear HO220;clear HO228;clear HO231;clear HL232_0;clear HL232_1;clear HR232_0;clear HR232_1;clear HB;have HO_6:=n0_;have HO220:=n1_;have HO228:=n2_;have HO231:=n3_;have HL232_0:=n4_;have HL232_1:=n5_;have HR232_0:=n6_;have HR232_1:=n7_;have HB:=n8_;clear n0_ n1_ n2_ n3_ n4_ n5_ n6_ n7_ n8_;(try clear hb)))
                  go_roundg k3
                  case measure=>have:=HK1.out;have:=HK2.out;have:=HK3.out;omega
                  case rel=>exact ⟨(y229),(x20_3),(by first|rfl|(simp;done)|(simp [*];done)),H',⟨by have:=HK1.out;have:=HK2.out;have:=HK3.out;omega⟩,⟨by (try simp only [hl6_2]);(with_reducible repeat (first|apply Kd.N_alloc|apply Kd.N_drewN|apply Kd.N_drew));exact HO231.out⟩,⟨by repeat (first|(with_reducible first|exact HB.out|apply qA|apply qD|apply qO)|exact HB.out)⟩⟩
                 ·replace c88:=Bool.eq_false_iff.mpr c88;subst c88;have H1:(spec_CoverOf.l6 k3 a1 x6_3 ji83)=some (r1,r2):=by rw [if_neg (show ¬ (false=true) by decide)] at H;exact H
                  clear H;have H:=H1;clear H1;have H':=qK H;clear H;obtain ⟨Ao99,co99,eo99⟩:=Kd.N_slice HO_6.out;subst eo99;try go_wp2
                  (try (rw [drewN_self wr];generalize hq_:World.drewN wr _=wr;have n0_:Aside0 (Kd.N k37 37 wr w.heap.size (fun k_=>(w.heap.size≤k_)) (.slice Ao99 x6_3.length co99) x6_3):=⟨by rw [← hq_];exact (by (with_reducible repeat (first|apply Kd.N_alloc|apply Kd.N_drewN|apply Kd.N_drew));exact HO_6.out)⟩;have n1_:Aside0 (Below w.heap.size w wr):=⟨by rw [← hq_];exact (by repeat (with_reducible first|exact HB.out|apply qA|apply qD|apply qO))⟩;clear HO_6 HB hq_;have HO_6:=n0_;have HB:=n1_;clear n0_ n1_));have n0_:=qK (Kd.N_drew HO_6.out);have n1_:=qK (qO HB.out);clear HO_6;clear HB;have HO_6:=n0_;have HB:=n1_;clear n0_ n1_;have q101:(x20_3:Int)≤((x6_3.length:Int):Int):=of_decide_eq_true (by first|(with_reducible assumption)|assumption);obtain ⟨i0101,hi0101,_,hsz101,_⟩:=info_parts info37;have hroom101:x6_3.length≤co99:=(Kd.N_reads' HO_6.out).2.1;have hC101:Kd.F k37 _ _ Ao99 x6_3.length x6_3:=(Kd.V_at (base:=w.heap.size) (Kd.N_V HO_6.out)).2.2;have hcut101:=cut_to (P:=Try.prog) 24 37 .i64 Try.underlying24 hi0101 Ao99 x6_3.length co99 x20_3 (of_decide_eq_true (by first|(with_reducible assumption)|assumption)) q101 hroom101;have hr101:=Kd.F_take (m:=(x20_3:Int).toNat) hC101 (by omega);have hy101:y216.length=(x20_3:Int).toNat:=(by rw [Ny216.out,lT];omega);rw [← Ny216.out] at hr101;rw [← hy101] at hcut101;have HO220:=qK (show Kd.V k37 37 _ w.heap.size _ (.slice Ao99 y216.length co99) y216 from Kd.V_mk (by omega) hr101);have HC220:=qK (show y216.length≤co99 from by omega);clear hr101 hC101 hroom101 hi0101 hsz101;have KY101:=qK hy101;clear hy101;replace q101:=eq_true q101;have q102:((ji83):Int)≤((x6_3.length:Int):Int):=of_decide_eq_true (by first|(with_reducible assumption)|assumption);obtain ⟨i0102,hi0102,_,hsz102,_⟩:=info_parts info37;have hroom102:x6_3.length≤co99:=(Kd.N_reads' HO_6.out).2.1;have hC102:Kd.F k37 _ _ Ao99 x6_3.length x6_3:=(Kd.V_at (base:=w.heap.size) (Kd.N_V HO_6.out)).2.2;have q0102:(0:Int)≤((ji83):Int):=of_decide_eq_true (by first|(with_reducible assumption)|assumption);have hcut102:=cut_from (P:=Try.prog) 24 37 .i64 Try.underlying24 hi0102 2 hsz102 Ao99 x6_3.length co99 (ji83) q0102 q102;have hr102:=Kd.F_cut (m:=((ji83):Int).toNat) (c:=co99) hC102 (by omega) hroom102;obtain ⟨A102,hA102⟩:∃ A1,A1=(if co99=((ji83):Int).toNat then Ao99 else (Ao99:Option Addr).map (·.add (((ji83):Int).toNat * 2))):=⟨_,rfl⟩;obtain ⟨c102,hc102⟩:∃ c1,c1=co99 - ((ji83):Int).toNat:=⟨_,rfl⟩;have hy102:y224.length=x6_3.length - ((ji83):Int).toNat:=(by rw [Ny224.out,lD] <;> omega);rw [show (x6_3).drop ((ji83):Int).toNat=y224 from Ny224.out.symm] at hr102;replace hr102:Kd.F k37 _ _ A102 y224.length y224:=(by rw [hA102];exact hr102);rw [← hy102,← hA102,← hc102] at hcut102;have HO228:=qK (show Kd.V k37 37 _ w.heap.size _ (.slice A102 y224.length c102) y224 from Kd.V_mk (by rw [hy102,hc102];exact Nat.sub_le_sub_right hroom102 _) hr102);have HC228:=qK (show y224.length≤c102 from by rw [hy102,hc102];exact Nat.sub_le_sub_right hroom102 _);clear hr102 hC102 hroom102 hi0102 hsz102 hc102;have KY102:=qK hy102;have KA102:=qK hA102;clear hy102 hA102;replace q102:=eq_true q102;refine start_ (n:=11) (S:=fun w'=>True) (ds:=[]) #[Z,Z,Z,Z,Z,Z,Z,Z,Z,Z,Z] (by kernel_rfl) rfl rfl trivial (fun hHeld=>?_);refine with_tabW spec_CoverOf.tab39 spec_CoverOf.bits39 (fun HT_ HW_=>?_);generalize wr.drew=w100 at HO_6 HB HO220 HO228 hHeld ⊢
                  refine pure_ (i:=1) (N:=some 132) (v:=?_) (a':=?_) #[Z,Y,Z,Z,Z,Z,Z,Z,Z,Z,Z] rfl rfl (any_of HT_.out (by kernel_rfl)) (fun _ _ _ h=>h) (Or.inl ⟨by rfl,?_⟩) ?_ ?_;rotate_left
                  ·intro w';go_simp;with_reducible rfl
                  rotate_left
                  ·simp only [Act.put,sIb,sZ,sS,i64_w,i32_w];rfl
                  refine pure_ (i:=2) (N:=some 133) (v:=?_) (a':=?_) #[Z,Y,Y,Z,Z,Z,Z,Z,Z,Z,Z] rfl rfl (any_of HT_.out (by kernel_rfl)) (fun _ _ _ h=>h) (Or.inl ⟨by rfl,?_⟩) ?_ ?_;rotate_left
                  ·intro w';go_simp;with_reducible rfl
                  rotate_left
                  ·simp only [Act.put,sIb,sZ,sS,i64_w,i32_w];rfl
                  refine pure_ (i:=3) (N:=some 134) (v:=?_) (a':=?_) #[Z,Y,Y,Y,Z,Z,Z,Z,Z,Z,Z] rfl rfl (any_of HT_.out (by kernel_rfl)) (fun _ _ _ h=>h) (Or.inl ⟨by rfl,?_⟩) ?_ ?_;rotate_left
                  ·intro w';go_simp;with_reducible rfl
                  rotate_left
                  ·simp only [Act.put,sIb,sZ,sS,i64_w,i32_w];rfl
                  refine pure_ (i:=5) (N:=some 136) (v:=?_) (a':=?_) #[Z,Y,Y,Y,Z,Y,Z,Z,Z,Z,Z] rfl rfl (any_of HT_.out (by kernel_rfl)) (fun _ _ _ h=>h) (Or.inl ⟨by rfl,?_⟩) ?_ ?_;rotate_left
                  ·intro w';go_simp;with_reducible rfl
                  rotate_left
                  ·simp only [Act.put,sIb,sZ,sS,i64_w,i32_w];rfl
                  refine pure_ (i:=6) (N:=some 137) (v:=?_) (a':=?_) #[Z,Y,Y,Y,Z,Y,Y,Z,Z,Z,Z] rfl rfl (any_of HT_.out (by kernel_rfl)) (fun _ _ _ h=>h) (Or.inl ⟨by rfl,?_⟩) ?_ ?_;rotate_left
                  ·intro w';go_simp;with_reducible rfl
                  rotate_left
                  ·simp only [Act.put,sIb,sZ,sS,i64_w,i32_w];rfl
                  refine pure_ (i:=7) (N:=some 138) (v:=?_) (a':=?_) #[Z,Y,Y,Y,Z,Y,Y,Y,Z,Z,Z] rfl rfl (any_of HT_.out (by kernel_rfl)) (fun _ _ _ h=>h) (Or.inl ⟨by rfl,?_⟩) ?_ ?_;rotate_left
                  ·intro w';go_simp;with_reducible rfl
                  rotate_left
                  ·simp only [Act.put,sIb,sZ,sS,i64_w,i32_w];rfl
                  refine pure_ (i:=8) (N:=some 139) (v:=?_) (a':=?_) #[Z,Y,Y,Y,Z,Y,Y,Y,Y,Z,Z] rfl rfl (any_of HT_.out (by kernel_rfl)) (fun _ _ _ h=>h) (Or.inl ⟨by rfl,?_⟩) ?_ ?_;rotate_left
                  ·intro w';go_simp;with_reducible rfl
                  rotate_left
                  ·simp only [Act.put,sIb,sZ,sS,i64_w,i32_w];rfl
                  refine one_ (i:=0) (N:=some 131) #[Y,Y,Y,Y,Z,Y,Y,Y,Y,Z,Z] rfl rfl (one_of HT_.out (by kernel_rfl)) (by decide) (fun K hK=>?_);refine Kd.N_lit_step k37 _ 37 ?hg (N':=131) ?hd (xs:=([]:List (S37))) (inner:=[]) (ok:=(fun k_=>(w.heap.size≤k_)∧some k_ ≠ (.slice Ao99 x6_3.length co99:Value).ownBlock)) (okp:=(fun k_=>(w.heap.size≤k_)∧some k_ ≠ (.slice Ao99 x6_3.length co99:Value).ownBlock)) ?hr ?hp (fun _ hk=>hk) ((show ∀ k_,w100.heap.size≤k_→(fun k_=>(w.heap.size≤k_)∧some k_ ≠ (.slice Ao99 x6_3.length co99:Value).ownBlock) k_ from fun k_ hk=>⟨(Nat.le_trans (qZ (by repeat (with_reducible first|exact HB.out|apply qA|apply qD|apply qO))) hk),Kd.fresh' (Kd.N_lt (by (with_reducible repeat (first|apply Kd.N_alloc|apply Kd.N_drewN|apply Kd.N_drew));exact HO_6.out)) k_ hk⟩) _ (Nat.le_refl _)) (Below.refl _ _) (Nat.le_refl _) (by simp) ?_;(case hd=>rfl);(case hg=>rfl);(case hr=>(go_simp;try rfl));(case hp=>exact (Reps.none _ _));intro v214 w103 ho104 hb hg_ hnew_;clear hg_ hnew_;(first|rw [← Ny213.out] at ho104|(simp only [Int.reduceToNat] at ho104;rw [← Ny213.out] at ho104));have n0_:=qK (Kd.N_elder' (by (with_reducible repeat (first|apply Kd.N_alloc|apply Kd.N_drewN|apply Kd.N_drew));exact HO_6.out) (Kd.N_base ho104) hb);have n1_:=qK (Kd.V_elder' (by (with_reducible repeat (first|apply Kd.V_alloc|apply Kd.V_drewN|apply Kd.V_drew));exact HO220.out) (Kd.N_base ho104) hb);have n2_:=qK (Kd.V_elder' (by (with_reducible repeat (first|apply Kd.V_alloc|apply Kd.V_drewN|apply Kd.V_drew));exact HO228.out) (Kd.N_base ho104) hb);have n3_:=qK (Kd.N_lower ho104 (qZ (by repeat (with_reducible first|exact HB.out|apply qA|apply qD|apply qO))));have n4_:=qK (qT (by repeat (with_reducible first|exact HB.out|apply qA|apply qD|apply qO)) hb);clear HO_6;clear HO220;clear HO228;clear HB;have HO_6:=n0_;have HO220:=n1_;have HO228:=n2_;have HO215:=n3_;have HB:=n4_;clear n0_ n1_ n2_ n3_ n4_;clear hb ho104;refine hK.out _ _ trivial (fun hHeld=>?_);clear hK K;refine norm_ (a':=?_) ?_ ?_;rotate_left
                  ·show Act.put _ (some 131) _=_
                   simp only [Act.put,sIb,sZ,sS,i64_w,i32_w];rfl
                  refine one_ (i:=4) (N:=some 135) #[Y,Y,Y,Y,Y,Y,Y,Y,Y,Z,Z] rfl rfl (one_of HT_.out (by kernel_rfl)) (by decide) (fun K hK=>?_);refine Kd.N_append_rows_step k37 (w0:=w) w.heap.size (by rfl) (.tmp 131) (.tmp 134) 24 37 (.agg #[(.slice none 0 0),(.slice none 0 0)]) 48 rfl Try.underlying24 info37 rfl (by decide) (by omega) v214 y213 y216 _ _ _ (fun k_=>(w.heap.size≤k_)) (fun k_=>((fun k_=>(w.heap.size≤k_))) k_∧some k_ ≠ (v214:Value).ownBlock) rfl rfl ?aO ?aR (fun _ hk=>hk) ?aF ?aB ?aS ?aL ?_;(case aR=>exact (by skip;exact Kd.V_F (Kd.V_mono (ok':=(fun k_=>((fun k_=>(w.heap.size≤k_))) k_∧some k_ ≠ (v214:Value).ownBlock)) (HO220.out) (fun k_ hk=>⟨hk.1,hk.2⟩))));(case aB=>exact (by repeat (with_reducible first|exact HB.out|apply qA|apply qD|apply qO)));(case aF=>exact (fun k_ hk=>(Nat.le_trans (qZ (by repeat (with_reducible first|exact HB.out|apply qA|apply qD|apply qO))) hk)));(case aO=>exact (by (with_reducible repeat (first|apply Kd.N_alloc|apply Kd.N_drewN|apply Kd.N_drew));exact Kd.N_mono HO215.out (fun _ hk=>hk.1)));(case aS=>exact (qZ (by repeat (with_reducible first|exact HB.out|apply qA|apply qD|apply qO))));(case aL=>have:=LMc82.out;omega);intro v222 w105 ho hb hg hat;rw [← Ny221.out] at ho;have n0_:=qK (Kd.N_afterv (ok:=(fun k_=>(w.heap.size≤k_))) (by (with_reducible repeat (first|apply Kd.N_alloc|apply Kd.N_drewN|apply Kd.N_drew));exact HO_6.out) hg hat);have n1_:=qK (Kd.V_afterv (ok:=(fun k_=>(w.heap.size≤k_))) (by (with_reducible repeat (first|apply Kd.V_alloc|apply Kd.V_drewN|apply Kd.V_drew));exact HO220.out) hg hat);have n2_:=qK (Kd.V_afterv (ok:=(fun k_=>(w.heap.size≤k_))) (by (with_reducible repeat (first|apply Kd.V_alloc|apply Kd.V_drewN|apply Kd.V_drew));exact HO228.out) hg hat);have n3_:=qK (hb);have n4_:=qK (ho);clear HO_6;clear HO220;clear HO228;clear HB;clear HO215;have HO_6:=n0_;have HO220:=n1_;have HO228:=n2_;have HB:=n3_;have HO223:=n4_;clear n0_ n1_ n2_ n3_ n4_;clear ho hb hg hat;refine hK.out _ _ trivial (fun hHeld=>?_);clear hK K;refine norm_ (a':=?_) ?_ ?_;rotate_left
                  ·show Act.put _ (some 135) _=_
                   simp only [Act.put,sIb,sZ,sS,i64_w,i32_w];rfl
                  refine one_ (i:=9) (N:=some 140) #[Y,Y,Y,Y,Y,Y,Y,Y,Y,Y,Z] rfl rfl (one_of HT_.out (by kernel_rfl)) (by decide) (fun K hK=>?_);refine Kd.N_append_rows_step k37 (w0:=w) w.heap.size (by rfl) (.tmp 135) (.tmp 139) 24 37 (.agg #[(.slice none 0 0),(.slice none 0 0)]) 48 rfl Try.underlying24 info37 rfl (by decide) (by omega) v222 y221 y224 _ _ _ (fun k_=>(w.heap.size≤k_)) (fun k_=>((fun k_=>(w.heap.size≤k_))) k_∧some k_ ≠ (v222:Value).ownBlock) rfl rfl ?aO ?aR (fun _ hk=>hk) ?aF ?aB ?aS ?aL ?_;(case aR=>exact (by skip;exact Kd.V_F (Kd.V_mono (ok':=(fun k_=>((fun k_=>(w.heap.size≤k_))) k_∧some k_ ≠ (v222:Value).ownBlock)) (HO228.out) (fun k_ hk=>⟨hk.1,hk.2⟩))));(case aB=>exact (by repeat (with_reducible first|exact HB.out|apply qA|apply qD|apply qO)));(case aF=>exact (fun k_ hk=>(Nat.le_trans (qZ (by repeat (with_reducible first|exact HB.out|apply qA|apply qD|apply qO))) hk)));(case aO=>exact (by (with_reducible repeat (first|apply Kd.N_alloc|apply Kd.N_drewN|apply Kd.N_drew));exact HO223.out));(case aS=>exact (qZ (by repeat (with_reducible first|exact HB.out|apply qA|apply qD|apply qO))));(case aL=>have:=LMc86.out;omega);intro v230 w106 ho hb hg hat;rw [← Ny229.out] at ho;have n0_:=qK (Kd.N_afterv (ok:=(fun k_=>(w.heap.size≤k_))) (by (with_reducible repeat (first|apply Kd.N_alloc|apply Kd.N_drewN|apply Kd.N_drew));exact HO_6.out) hg hat);have n1_:=qK (Kd.V_afterv (ok:=(fun k_=>(w.heap.size≤k_))) (by (with_reducible repeat (first|apply Kd.V_alloc|apply Kd.V_drewN|apply Kd.V_drew));exact HO220.out) hg hat);have n2_:=qK (Kd.V_afterv (ok:=(fun k_=>(w.heap.size≤k_))) (by (with_reducible repeat (first|apply Kd.V_alloc|apply Kd.V_drewN|apply Kd.V_drew));exact HO228.out) hg hat);have n3_:=qK (hb);have n4_:=qK (ho);clear HO_6;clear HO220;clear HO228;clear HB;clear HO223;have HO_6:=n0_;have HO220:=n1_;have HO228:=n2_;have HB:=n3_;have HO231:=n4_;clear n0_ n1_ n2_ n3_ n4_;clear ho hb hg hat;refine hK.out _ _ trivial (fun hHeld=>?_);clear hK K;refine norm_ (a':=?_) ?_ ?_;rotate_left
                  ·show Act.put _ (some 140) _=_
                   simp only [Act.put,sIb,sZ,sS,i64_w,i32_w];rfl
                  refine pure_ (i:=10) (N:=some 21) (v:=?_) (a':=?_) #[Y,Y,Y,Y,Y,Y,Y,Y,Y,Y,Y] rfl rfl (any_of HT_.out (by kernel_rfl)) (fun _ _ _ h=>h) (Or.inl ⟨by rfl,?_⟩) ?_ ?_;rotate_left
                  ·intro w';go_simp;with_reducible rfl
                  rotate_left
                  ·simp only [Act.put,sIb,sZ,sS,i64_w,i32_w];rfl
                  refine done_ (done_of HT_.out (by kernel_rfl)) ?_;have p232:0≤(x20_3:Int):=of_decide_eq_true (by first|(with_reducible assumption)|assumption);have q232:x20_3 < (x6_3.length:Int):=of_decide_eq_true (by first|(with_reducible assumption)|assumption);obtain ⟨ad232,A232_0,c232_0,A232_1,c232_1,e232,hx232_0,hx232_1,hl232_0,hi232_0,hl232_1,hi232_1⟩:=at_T37 (Kd.N_reads' HO_6.out).2.2 x20_3 p232 q232;cases e232
                  obtain ⟨ce232,hce232,hMe232,hcc232⟩:=Kd.N_get HO_6.out z37 x20_3 p232 (by first|exact q232|exact of_decide_eq_true (by first|(with_reducible assumption)|assumption)|(have e_:=(Kd.N_reads' HO_6.out).1;omega));obtain ⟨ua232_0,uc232_0,ua232_1,uc232_1,rfl,ul232_0,ge232_0,ul232_1,ge232_1⟩:=k37_openF hMe232;have hv232_0:=hcc232 0 _ rfl;rw [Nat.add_zero] at hv232_0;replace hv232_0:=Option.some.inj (hv232_0.symm.trans hx232_0);injection hv232_0 with hva_ hvn_ hvc_
                  rw [hva_] at ge232_0;rw [hvc_] at ul232_0;have HL232_0:=qK (show Kd.V (Kd.int .i64) 3 _ w.heap.size _ _ ((rd_T37 x6_3 x20_3).f0) from Kd.V_mk ul232_0 ge232_0);clear hva_ hvn_ hvc_ ge232_0 ul232_0;have hv232_1:=hcc232 1 _ rfl;rw [add_field _ _ 1 (by omega)] at hv232_1;replace hv232_1:=Option.some.inj (hv232_1.symm.trans hx232_1);injection hv232_1 with hva_ hvn_ hvc_
                  rw [hva_] at ge232_1;rw [hvc_] at ul232_1;have HL232_1:=qK (show Kd.V (Kd.int .i64) 3 _ w.heap.size _ _ ((rd_T37 x6_3 x20_3).f1) from Kd.V_mk ul232_1 ge232_1);clear hva_ hvn_ hvc_ ge232_1 ul232_1;clear hcc232 hce232;have HR232_0:=qK hi232_0;have HC232_0:=qK hl232_0;clear hi232_0 hl232_0;have HR232_1:=qK hi232_1;have HC232_1:=qK hl232_1;clear hi232_1 hl232_1;replace p232:=eq_true p232;replace q232:=eq_true q232;obtain ⟨Ao107,co107,eo107⟩:=Kd.N_slice HO231.out;subst eo107;try go_wp2_with (first|((with_reducible refine gate_callee (f:=21) rfl ?_);refine goesL_ (some 146) rfl rfl Try.func21 (by kernel_rfl) rfl #[.slice Ao107 y229.length co107,.agg #[.slice A232_0 ((rd_T37 x6_3 x20_3).f0).length c232_0,.slice A232_1 ((rd_T37 x6_3 x20_3).f1).length c232_1]] rfl (by (try simp only [mT,mC,mN]);first|done|rfl|(simp only [lD,lT];rfl)) ?_;(with_reducible refine (spec_l7Implies.calls k3 _ _ y229 _ _ ((rd_T37 x6_3 x20_3).f0) _ _ ((rd_T37 x6_3 x20_3).f1) false _ ?side1 ?side2 ?side3 ?side4 ?side5 ?side6 A87.out).mono ?_);(case side1=>repeat (first|exact (Kd.N_reads' HO231.out).2.2|(with_reducible first|refine cL ?_ _|refine cN ?_ _|refine cW ?_)));(case side2=>exact (Kd.N_reads' HO231.out).2.1);(case side3=>repeat (first|exact (by repeat (first|(with_reducible exact HR232_0.out)|(with_reducible first|refine cL ?_ _|refine cN ?_ _|refine cW ?_)|exact HR232_0.out))|(with_reducible first|refine cL ?_ _|refine cN ?_ _|refine cW ?_)));(case side4=>exact HC232_0.out);(case side5=>repeat (first|exact (by repeat (first|(with_reducible exact HR232_1.out)|(with_reducible first|refine cL ?_ _|refine cN ?_ _|refine cW ?_)|exact HR232_1.out))|(with_reducible first|refine cL ?_ _|refine cN ?_ _|refine cW ?_)));(case side6=>exact HC232_1.out);rintro e w108 ⟨rfl,hb⟩;refine ⟨_,rfl,?_⟩;have n0_:=qK (Kd.N_below (by (with_reducible repeat (first|apply Kd.N_alloc|apply Kd.N_drewN|apply Kd.N_drew));exact HO_6.out) hb);have n1_:=qK (Kd.V_below (by (with_reducible repeat (first|apply Kd.V_alloc|apply Kd.V_drewN|apply Kd.V_drew));exact HO220.out) hb);have n2_:=qK (Kd.V_below (by (with_reducible repeat (first|apply Kd.V_alloc|apply Kd.V_drewN|apply Kd.V_drew));exact HO228.out) hb);have n3_:=qK (Kd.N_below (by (with_reducible repeat (first|apply Kd.N_alloc|apply Kd.N_drewN|apply Kd.N_drew));exact HO231.out) hb);have n4_:=qK (Kd.V_below (by (with_reducible repeat (first|apply Kd.V_alloc|apply Kd.V_drewN|apply Kd.V_drew));exact HL232_0.out) hb);have n5_:=qK (Kd.V_below (by (with_reducible repeat (first|apply Kd.V_alloc|apply Kd.V_drewN|apply Kd.V_drew));exact HL232_1.out) hb);have n6_:=qK (cB (by repeat (first|(with_reducible exact HR232_0.out)|(with_reducible first|refine cL ?_ _|refine cN ?_ _|refine cW ?_)|exact HR232_0.out)) hb);have n7_:=qK (cB (by repeat (first|(with_reducible exact HR232_1.out)|(with_reducible first|refine cL ?_ _|refine cN ?_ _|refine cW ?_)|exact HR232_1.out)) hb);have n8_:=qK (qT (by repeat (with_reducible first|exact HB.out|apply qA|apply qD|apply qO)) hb);clear HO_6;clear HO220;clear HO228;clear HO231;clear HL232_0;clear HL232_1;clear HR232_0;clear HR232_1;clear HB;have HO_6:=n0_;have HO220:=n1_;have HO228:=n2_;have HO231:=n3_;have HL232_0:=n4_;have HL232_1:=n5_;have HR232_0:=n6_;have HR232_1:=n7_;have HB:=n8_;clear n0_ n1_ n2_ n3_ n4_ n5_ n6_ n7_ n8_;(try clear hb)))
                  go_roundg k3
                  case measure=>have:=HK1.out;have:=HK2.out;have:=HK3.out;omega
                  case rel=>exact ⟨(x6_3),(ji83),(by first|rfl|(simp;done)|(simp only [← hji83] <;> (first|rfl|simp))|(simp [*];done)),H',⟨by have:=HK1.out;have:=HK2.out;have:=HK3.out;omega⟩,⟨by (try simp only [hl6_2]);(with_reducible repeat (first|apply Kd.N_alloc|apply Kd.N_drewN|apply Kd.N_drew));exact Kd.N_mono HO_6.out (fun _ hk=>hk.1)⟩,⟨by repeat (first|(with_reducible first|exact HB.out|apply qA|apply qD|apply qO)|exact HB.out)⟩⟩
                ·rw [if_neg c86] at H;exact absurd H (by simp)
               ·rw [if_neg c85] at H;exact absurd H (by simp)
              ·rw [if_neg c84] at H;exact absurd H (by simp)
             ·rw [if_neg c82] at H;exact absurd H (by simp)
            ·rw [if_neg c81] at H;exact absurd H (by simp)
           ·rw [if_neg c80] at H;exact absurd H (by simp)
          ·rw [if_neg c79] at H;have c79b0:decide (x20_3 < (x6_3.length:Int))=false:=decide_eq_false c79;clear c79;replace H:=Option.bind_eq_some_iff.mp H;obtain ⟨t234,A1090,H⟩:=H;replace H:(if t234=true then (some (x6_3,true)) else (some (([]:List (S37)),false)))=some (r1,r2):=H;have A109:=qK A1090;clear A1090;by_cases c110:t234=true
           ·subst c110;have H1:(some (x6_3,true))=some (r1,r2):=by rw [if_pos rfl] at H;exact H
            clear H;have H:=H1;clear H1;simp only [Option.some.injEq,Prod.mk.injEq] at H;obtain ⟨rfl,rfl⟩:=H;obtain ⟨Ao111,co111,eo111⟩:=Kd.N_slice HO_6.out;subst eo111;go_wp2_with (first|((with_reducible refine gate_callee (f:=19) rfl ?_);refine goesL_ (some 152) rfl rfl Try.func19 (by kernel_rfl) rfl #[.slice Ao111 x6_3.length co111,.int .i64 a1] rfl (by (try simp only [mT,mC,mN]);first|done|rfl|(simp only [lD,lT];rfl)) ?_;(with_reducible refine (spec_GoodDepends.calls k3 _ _ x6_3 a1 true _ ?side1 ?side2 A109.out).mono ?_);(case side1=>repeat (first|exact (Kd.N_reads' HO_6.out).2.2|(with_reducible first|refine cL ?_ _|refine cN ?_ _|refine cW ?_)));(case side2=>exact (Kd.N_reads' HO_6.out).2.1);rintro e w112 ⟨rfl,hb⟩;refine ⟨_,rfl,?_⟩;have n0_:=qK (Kd.N_below (by (with_reducible repeat (first|apply Kd.N_alloc|apply Kd.N_drewN|apply Kd.N_drew));exact HO_6.out) hb);have n1_:=qK (qT (by repeat (with_reducible first|exact HB.out|apply qA|apply qD|apply qO)) hb);clear HO_6;clear HB;have HO_6:=n0_;have HB:=n1_;clear n0_ n1_;(try clear hb)))
            go_ret2
            exact ⟨_,by first|rfl|(simp [errW_none,errW_some] <;> rfl)|(simp [*,errW_none,errW_some] <;> rfl),by (with_reducible repeat (first|apply Kd.N_alloc|apply Kd.N_drewN|apply Kd.N_drew));exact HO_6.out,by repeat (first|(with_reducible first|exact HB.out|apply qA|apply qD|apply qO)|exact HB.out)⟩
           ·replace c110:=Bool.eq_false_iff.mpr c110;subst c110;have H1:(some (([]:List (S37)),false))=some (r1,r2):=by rw [if_neg (show ¬ (false=true) by decide)] at H;exact H
            clear H;have H:=H1;clear H1;simp only [Option.some.injEq,Prod.mk.injEq] at H;obtain ⟨rfl,rfl⟩:=H;obtain ⟨Ao113,co113,eo113⟩:=Kd.N_slice HO_6.out;subst eo113;go_wp2_with (first|((with_reducible refine gate_callee (f:=19) rfl ?_);refine goesL_ (some 152) rfl rfl Try.func19 (by kernel_rfl) rfl #[.slice Ao113 x6_3.length co113,.int .i64 a1] rfl (by (try simp only [mT,mC,mN]);first|done|rfl|(simp only [lD,lT];rfl)) ?_;(with_reducible refine (spec_GoodDepends.calls k3 _ _ x6_3 a1 false _ ?side1 ?side2 A109.out).mono ?_);(case side1=>repeat (first|exact (Kd.N_reads' HO_6.out).2.2|(with_reducible first|refine cL ?_ _|refine cN ?_ _|refine cW ?_)));(case side2=>exact (Kd.N_reads' HO_6.out).2.1);rintro e w114 ⟨rfl,hb⟩;refine ⟨_,rfl,?_⟩;have n0_:=qK (Kd.N_below (by (with_reducible repeat (first|apply Kd.N_alloc|apply Kd.N_drewN|apply Kd.N_drew));exact HO_6.out) hb);have n1_:=qK (qT (by repeat (with_reducible first|exact HB.out|apply qA|apply qD|apply qO)) hb);clear HO_6;clear HB;have HO_6:=n0_;have HB:=n1_;clear n0_ n1_;(try clear hb)))
            go_ret2
            exact ⟨_,by first|rfl|(simp [errW_none,errW_some] <;> rfl)|(simp [*,errW_none,errW_some] <;> rfl),by first|exact Kd.S_nil _ _ _ _ _|exact Kd.N_nil _ _ _ _ _|exact Kd.V_nil _ _ _ _ _|exact Kd.Q_nil _ _ _ _ _|exact Kd.R_nil _ _ _ _ _,by repeat (first|(with_reducible first|exact HB.out|apply qA|apply qD|apply qO)|exact HB.out)⟩
 ·replace c4:=Bool.eq_false_iff.mpr c4;subst c4;have H1:(some (([]:List (S37)),false))=some (r1,r2):=by rw [if_neg (show ¬ (false=true) by decide)] at H;exact H
  clear H;have H:=H1;clear H1;simp only [Option.some.injEq,Prod.mk.injEq] at H;obtain ⟨rfl,rfl⟩:=H;go_enter Try.func6,Try.ntmps6
  go_wp2_with (first|((with_reducible refine gate_callee (f:=19) rfl ?_);refine goesL_ (some 24) rfl rfl Try.func19 (by kernel_rfl) rfl #[.slice A0 l0.length c0,.int .i64 a1] rfl (by (try simp only [mT,mC,mN]);first|done|rfl|(simp only [lD,lT];rfl)) ?_;(with_reducible refine (spec_GoodDepends.calls k _ _ l0 a1 false _ ?side1 ?side2 A3.out).mono ?_);(case side1=>repeat (first|exact HR0.out|(with_reducible first|refine cL ?_ _|refine cN ?_ _|refine cW ?_)));(case side2=>exact HC0.out);rintro e w115 ⟨rfl,hb⟩;refine ⟨_,rfl,?_⟩;have n0_:=qK (qT (by repeat (with_reducible first|exact HB.out|apply qA|apply qD|apply qO)) hb);clear HB;have HB:=n0_;clear n0_;(try clear hb)))
  go_ret2
  exact ⟨_,by first|rfl|(simp [errW_none,errW_some] <;> rfl)|(simp [*,errW_none,errW_some] <;> rfl),by first|exact Kd.S_nil _ _ _ _ _|exact Kd.N_nil _ _ _ _ _|exact Kd.V_nil _ _ _ _ _|exact Kd.Q_nil _ _ _ _ _|exact Kd.R_nil _ _ _ _ _,by repeat (first|(with_reducible first|exact HB.out|apply qA|apply qD|apply qO)|exact HB.out)⟩

end Go.Proofs.Ytadfmbmnnekamaa.PFnExactCoverOf
