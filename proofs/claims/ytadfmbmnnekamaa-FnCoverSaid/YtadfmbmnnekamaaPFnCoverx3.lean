/-
  A text of this claim's own, printed by a program of the session (wip/tools/xprint.py): functions of the program as Lean functions, each with what its call comes to.
-/
import Derived.Test.YtadfmbmnnekamaaPFnCoverx0
import Derived.Test.YtadfmbmnnekamaaPFnCoverx2
namespace Go.Proofs.Ytadfmbmnnekamaa.PFnCover
open Go.Proofs.YtadfmbmnnekamaaW.PrintWords renaming pw_below_drewN → qD, blk_cell → qC, below_drew1 → qO, below_alloc → qA, blk_frozen → qF, below_set → qS, blk_drewN → qN, blk_alloc → qL, blk_drew → qW, below_size → qZ, below_step → qT, blk_below → qB, blk_far → qR, blk_put → qP
open Go.Proofs.YtadfmbmnnekamaaW.PrintWords.Aside0 renaming mk → qK
open Bool renaming true → Y, false → Z
open List renaming setIfInBounds_toArray → sIb, set_cons_zero → sZ, set_cons_succ → sS, map_toArray → mT, map_cons → mC, map_nil → mN, length_drop → lD, length_take → lT
open Go.Proofs.YtadfmbmnnekamaaW.PrintWords.Kd renaming C_alloc → cL, C_drewN → cN, C_drew → cW, C_below → cB, R_alloc → rL, R_drewN → rN, R_drew → rW, R_below → rB
open Go.RowKit Go.Proofs.YtadfmbmnnekamaaW.PrintWords Go.Proofs.YtadfmbmnnekamaaW.PrintLast Go.Proofs.YtadfmbmnnekamaaW.PrintMore
attribute [local go_sem] max2_int min2_int max_two min_two max_three min_three max_four min_four   -- for this text's walks alone
set_option linter.unusedVariables false
set_option linter.unusedSimpArgs false

/-! ### spec_CoverOf: function 6 -/
mutual
def spec_CoverOf.l0 : Nat→Int→List (S37)→List (S37)→Int→Int→Option ((List (S37)) × Bool)
 | 0,_,_,_,_,_=>none
 | k + 1,x1,x6,x26,x27,x28=>if x28 < x27 then (if 0≤x28 then (if x28 < (x26.length:Int) then (spec_CoverOf.l1 k x1 x6 x26 x27 x28 ((rd_T37 x26 x28).f1) (((rd_T37 x26 x28).f1).length:Int) 0 ((rd_T37 x26 x28).f0) ((rd_T37 x26 x28).f1)) else (none)) else (none)) else (spec_CoverOf.l3 k x1 x6 (x6.length:Int) 0)
def spec_CoverOf.l1 : Nat→Int→List (S37)→List (S37)→Int→Int→List Int→Int→Int→List Int→List Int→Option ((List (S37)) × Bool)
 | 0,_,_,_,_,_,_,_,_,_,_=>none
 | k + 1,x1,x6,x26,x27,x28,x33,x34,x35,x175000,x175001=>if x35 < x34 then (if 0≤x35 then (if x35 < (x33.length:Int) then (spec_CoverOf.l2 k x1 x6 (rd x33 x35) false x26 x27 x28 x33 x34 x35 x6 (x6.length:Int) 0 x175000 x175001) else (none)) else (none)) else (spec_CoverOf.l0 k x1 x6 x26 x27 (wrap64 (x28 + 1)))
def spec_CoverOf.l2 : Nat→Int→List (S37)→Int→Bool→List (S37)→Int→Int→List Int→Int→Int→List (S37)→Int→Int→List Int→List Int→Option ((List (S37)) × Bool)
 | 0,_,_,_,_,_,_,_,_,_,_,_,_,_,_,_=>none
 | k + 1,x1,x6,x10,x11,x26,x27,x28,x33,x34,x35,x39,x40,x41,x175000,x175001=>if x41 < x40 then (if 0≤x41 then (if x41 < (x39.length:Int) then (if x11=true then (spec_CoverOf.l2 k x1 x6 x10 true x26 x27 x28 x33 x34 x35 x39 x40 (wrap64 (x41 + 1)) x175000 x175001) else (if 0 < (((rd_T37 x39 x41).f1).length:Int) then (if (rd ((rd_T37 x39 x41).f1) 0)=x10 then ((spec_l7Same.f k ((rd_T37 x39 x41).f0) x175000).bind fun t179=>(spec_CoverOf.l2 k x1 x6 x10 t179 x26 x27 x28 x33 x34 x35 x39 x40 (wrap64 (x41 + 1)) x175000 x175001)) else (spec_CoverOf.l2 k x1 x6 x10 false x26 x27 x28 x33 x34 x35 x39 x40 (wrap64 (x41 + 1)) x175000 x175001)) else (none))) else (none)) else (none)) else (if x11=true then (spec_CoverOf.l1 k x1 x6 x26 x27 x28 x33 x34 (wrap64 (x35 + 1)) x175000 x175001) else ((some (([]:List Int):List Int)).bind fun y180=>(if y180.length + x175000.length < 17592186044416 then (if x6.length < 2932031007402 then (spec_CoverOf.l1 k x1 (x6 ++ [(⟨(y180 ++ x175000),(([x10]:List Int))⟩:S37)]) x26 x27 x28 x33 x34 (wrap64 (x35 + 1)) x175000 x175001) else (none)) else (none))))
def spec_CoverOf.l3 : Nat→Int→List (S37)→Int→Int→Option ((List (S37)) × Bool)
 | 0,_,_,_,_=>none
 | k + 1,x1,x6,x77,x78=>if x78 < x77 then ((some (([]:List Int):List Int)).bind fun y192=>(if 0≤x78 then (if x78 < (x6.length:Int) then (if y192.length + ((rd_T37 x6 x78).f0).length < 17592186044416 then ((some (y192 ++ ((rd_T37 x6 x78).f0):List Int)).bind fun y196=>(spec_CoverOf.l4 k x1 x6 x78 x77 x78 y196 (y196.length:Int) 0)) else (none)) else (none)) else (none))) else (spec_CoverOf.l6 k x1 x6 0)
def spec_CoverOf.l4 : Nat→Int→List (S37)→Int→Int→Int→List Int→Int→Int→Option ((List (S37)) × Bool)
 | 0,_,_,_,_,_,_,_,_=>none
 | k + 1,x1,x6,x14,x77,x78,x87,x88,x89=>if x89 < x88 then (if 0≤x89 then (if x89 < (x87.length:Int) then (if 0≤x14 then (if x14 < (x6.length:Int) then (spec_CoverOf.l5 k x1 x6 x14 (rd x87 x89) ([]:List Int) x77 x78 x87 x88 x89 ((rd_T37 x6 x14).f0) (((rd_T37 x6 x14).f0).length:Int) 0) else (none)) else (none)) else (none)) else (none)) else (spec_CoverOf.l3 k x1 x6 x77 (wrap64 (x78 + 1)))
def spec_CoverOf.l5 : Nat→Int→List (S37)→Int→Int→List Int→Int→Int→List Int→Int→Int→List Int→Int→Int→Option ((List (S37)) × Bool)
 | 0,_,_,_,_,_,_,_,_,_,_,_,_,_=>none
 | k + 1,x1,x6,x14,x16,x17,x77,x78,x87,x88,x89,x97,x98,x99=>if x99 < x98 then (if 0≤x99 then (if x99 < (x97.length:Int) then (if (rd x97 x99)=x16 then (spec_CoverOf.l5 k x1 x6 x14 x16 x17 x77 x78 x87 x88 x89 x97 x98 (wrap64 (x99 + 1))) else (if x17.length < 17592186044416 then (spec_CoverOf.l5 k x1 x6 x14 x16 (x17 ++ [rd x97 x99]) x77 x78 x87 x88 x89 x97 x98 (wrap64 (x99 + 1))) else (none))) else (none)) else (none)) else (if 0≤x14 then (if x14 < (x6.length:Int) then ((spec_l7Implies.f k x6 x17 ((rd_T37 x6 x14).f1)).bind fun t206=>(if t206=true then (spec_CoverOf.l4 k x1 (x6.set (x14:Int).toNat (⟨x17,(rd_T37 x6 x14).f1⟩:S37)) x14 x77 x78 x87 x88 (wrap64 (x89 + 1))) else (spec_CoverOf.l4 k x1 x6 x14 x77 x78 x87 x88 (wrap64 (x89 + 1))))) else (none)) else (none))
def spec_CoverOf.l6 : Nat→Int→List (S37)→Int→Option ((List (S37)) × Bool)
 | 0,_,_,_=>none
 | k + 1,x1,x6,x20=>if x20 < (x6.length:Int) then ((some (([]:List (S37)):List (S37))).bind fun y208=>(if 0≤x20 then (if x20≤(x6.length:Int) then ((some (x6.take (x20:Int).toNat:List (S37))).bind fun y211=>(if y208.length + y211.length < 2932031007402 then ((some (y208 ++ y211:List (S37))).bind fun y216=>(if 0≤(wrap64 (x20 + 1)) then (if (wrap64 (x20 + 1))≤(x6.length:Int) then ((some (x6.drop ((wrap64 (x20 + 1)):Int).toNat:List (S37))).bind fun y219=>(if y216.length + y219.length < 2932031007402 then ((some (y216 ++ y219:List (S37))).bind fun y224=>((spec_l7Implies.f k y224 ((rd_T37 x6 x20).f0) ((rd_T37 x6 x20).f1)).bind fun t228=>(if t228=true then (spec_CoverOf.l6 k x1 y224 x20) else (spec_CoverOf.l6 k x1 x6 (wrap64 (x20 + 1)))))) else (none))) else (none)) else (none))) else (none))) else (none)) else (none))) else ((spec_GoodDepends.f k x6 x1).bind fun t229=>(if t229=true then (some (x6,true)) else (some (([]:List (S37)),false))))
end
def spec_CoverOf.f (k:Nat) (l0:List (S37)) (a1:Int):Option ((List (S37)) × Bool):=(spec_GoodDepends.f k l0 a1).bind fun t172=>(if t172=true then (spec_CoverOf.l0 k a1 ([]:List (S37)) l0 (l0.length:Int) 0) else (some (([]:List (S37)),false)))
theorem spec_CoverOf.mono_l : ∀ k,(∀ y0 y1 y2 y3 y4,LeO (spec_CoverOf.l0 k y0 y1 y2 y3 y4) (spec_CoverOf.l0 (k + 1) y0 y1 y2 y3 y4))∧(∀ y0 y1 y2 y3 y4 y5 y6 y7 y8 y9,LeO (spec_CoverOf.l1 k y0 y1 y2 y3 y4 y5 y6 y7 y8 y9) (spec_CoverOf.l1 (k + 1) y0 y1 y2 y3 y4 y5 y6 y7 y8 y9))∧(∀ y0 y1 y2 y3 y4 y5 y6 y7 y8 y9 y10 y11 y12 y13 y14,LeO (spec_CoverOf.l2 k y0 y1 y2 y3 y4 y5 y6 y7 y8 y9 y10 y11 y12 y13 y14) (spec_CoverOf.l2 (k + 1) y0 y1 y2 y3 y4 y5 y6 y7 y8 y9 y10 y11 y12 y13 y14))∧(∀ y0 y1 y2 y3,LeO (spec_CoverOf.l3 k y0 y1 y2 y3) (spec_CoverOf.l3 (k + 1) y0 y1 y2 y3))∧(∀ y0 y1 y2 y3 y4 y5 y6 y7,LeO (spec_CoverOf.l4 k y0 y1 y2 y3 y4 y5 y6 y7) (spec_CoverOf.l4 (k + 1) y0 y1 y2 y3 y4 y5 y6 y7))∧(∀ y0 y1 y2 y3 y4 y5 y6 y7 y8 y9 y10 y11 y12,LeO (spec_CoverOf.l5 k y0 y1 y2 y3 y4 y5 y6 y7 y8 y9 y10 y11 y12) (spec_CoverOf.l5 (k + 1) y0 y1 y2 y3 y4 y5 y6 y7 y8 y9 y10 y11 y12))∧(∀ y0 y1 y2,LeO (spec_CoverOf.l6 k y0 y1 y2) (spec_CoverOf.l6 (k + 1) y0 y1 y2))
 | 0=>⟨fun _ _ _ _ _ r h=>by simp [spec_CoverOf.l0] at h,fun _ _ _ _ _ _ _ _ _ _ r h=>by simp [spec_CoverOf.l1] at h,fun _ _ _ _ _ _ _ _ _ _ _ _ _ _ _ r h=>by simp [spec_CoverOf.l2] at h,fun _ _ _ _ r h=>by simp [spec_CoverOf.l3] at h,fun _ _ _ _ _ _ _ _ r h=>by simp [spec_CoverOf.l4] at h,fun _ _ _ _ _ _ _ _ _ _ _ _ _ r h=>by simp [spec_CoverOf.l5] at h,fun _ _ _ r h=>by simp [spec_CoverOf.l6] at h⟩
 | k + 1=>by
  obtain ⟨ih0,ih1,ih2,ih3,ih4,ih5,ih6⟩:=spec_CoverOf.mono_l k;refine ⟨?_,?_,?_,?_,?_,?_,?_⟩
  ·intro y0 y1 y2 y3 y4;unfold spec_CoverOf.l0
   repeat' first
   | (with_reducible exact ih0 _ _ _ _ _)
   | (with_reducible exact ih1 _ _ _ _ _ _ _ _ _ _)
   | (with_reducible exact ih2 _ _ _ _ _ _ _ _ _ _ _ _ _ _ _)
   | (with_reducible exact ih3 _ _ _ _)
   | (with_reducible exact ih4 _ _ _ _ _ _ _ _)
   | (with_reducible exact ih5 _ _ _ _ _ _ _ _ _ _ _ _ _)
   | (with_reducible exact ih6 _ _ _)
   | (with_reducible exact spec_GoodDepends.mono _ _ _)
   | (with_reducible exact spec_l7Implies.mono _ _ _ _)
   | (with_reducible exact spec_l7Same.mono _ _ _)
   | (with_reducible exact LeO.refl _)
   | (with_reducible exact LeO.none _)
   | (with_reducible refine LeO.ite ?_ ?_)
   | (with_reducible refine LeO.bind ?_ (fun _=>?_))
   | exact ih0 _ _ _ _ _
   | exact ih1 _ _ _ _ _ _ _ _ _ _
   | exact ih2 _ _ _ _ _ _ _ _ _ _ _ _ _ _ _
   | exact ih3 _ _ _ _
   | exact ih4 _ _ _ _ _ _ _ _
   | exact ih5 _ _ _ _ _ _ _ _ _ _ _ _ _
   | exact ih6 _ _ _
   | exact spec_GoodDepends.mono _ _ _
   | exact spec_l7Implies.mono _ _ _ _
   | exact spec_l7Same.mono _ _ _
   | exact LeO.none _
   | refine LeO.ite ?_ ?_
   | refine LeO.bind ?_ (fun _=>?_)
  ·intro y0 y1 y2 y3 y4 y5 y6 y7 y8 y9;unfold spec_CoverOf.l1
   repeat' first
   | (with_reducible exact ih0 _ _ _ _ _)
   | (with_reducible exact ih1 _ _ _ _ _ _ _ _ _ _)
   | (with_reducible exact ih2 _ _ _ _ _ _ _ _ _ _ _ _ _ _ _)
   | (with_reducible exact ih3 _ _ _ _)
   | (with_reducible exact ih4 _ _ _ _ _ _ _ _)
   | (with_reducible exact ih5 _ _ _ _ _ _ _ _ _ _ _ _ _)
   | (with_reducible exact ih6 _ _ _)
   | (with_reducible exact spec_GoodDepends.mono _ _ _)
   | (with_reducible exact spec_l7Implies.mono _ _ _ _)
   | (with_reducible exact spec_l7Same.mono _ _ _)
   | (with_reducible exact LeO.refl _)
   | (with_reducible exact LeO.none _)
   | (with_reducible refine LeO.ite ?_ ?_)
   | (with_reducible refine LeO.bind ?_ (fun _=>?_))
   | exact ih0 _ _ _ _ _
   | exact ih1 _ _ _ _ _ _ _ _ _ _
   | exact ih2 _ _ _ _ _ _ _ _ _ _ _ _ _ _ _
   | exact ih3 _ _ _ _
   | exact ih4 _ _ _ _ _ _ _ _
   | exact ih5 _ _ _ _ _ _ _ _ _ _ _ _ _
   | exact ih6 _ _ _
   | exact spec_GoodDepends.mono _ _ _
   | exact spec_l7Implies.mono _ _ _ _
   | exact spec_l7Same.mono _ _ _
   | exact LeO.none _
   | refine LeO.ite ?_ ?_
   | refine LeO.bind ?_ (fun _=>?_)
  ·intro y0 y1 y2 y3 y4 y5 y6 y7 y8 y9 y10 y11 y12 y13 y14;unfold spec_CoverOf.l2
   repeat' first
   | (with_reducible exact ih0 _ _ _ _ _)
   | (with_reducible exact ih1 _ _ _ _ _ _ _ _ _ _)
   | (with_reducible exact ih2 _ _ _ _ _ _ _ _ _ _ _ _ _ _ _)
   | (with_reducible exact ih3 _ _ _ _)
   | (with_reducible exact ih4 _ _ _ _ _ _ _ _)
   | (with_reducible exact ih5 _ _ _ _ _ _ _ _ _ _ _ _ _)
   | (with_reducible exact ih6 _ _ _)
   | (with_reducible exact spec_GoodDepends.mono _ _ _)
   | (with_reducible exact spec_l7Implies.mono _ _ _ _)
   | (with_reducible exact spec_l7Same.mono _ _ _)
   | (with_reducible exact LeO.refl _)
   | (with_reducible exact LeO.none _)
   | (with_reducible refine LeO.ite ?_ ?_)
   | (with_reducible refine LeO.bind ?_ (fun _=>?_))
   | exact ih0 _ _ _ _ _
   | exact ih1 _ _ _ _ _ _ _ _ _ _
   | exact ih2 _ _ _ _ _ _ _ _ _ _ _ _ _ _ _
   | exact ih3 _ _ _ _
   | exact ih4 _ _ _ _ _ _ _ _
   | exact ih5 _ _ _ _ _ _ _ _ _ _ _ _ _
   | exact ih6 _ _ _
   | exact spec_GoodDepends.mono _ _ _
   | exact spec_l7Implies.mono _ _ _ _
   | exact spec_l7Same.mono _ _ _
   | exact LeO.none _
   | refine LeO.ite ?_ ?_
   | refine LeO.bind ?_ (fun _=>?_)
  ·intro y0 y1 y2 y3;unfold spec_CoverOf.l3
   repeat' first
   | (with_reducible exact ih0 _ _ _ _ _)
   | (with_reducible exact ih1 _ _ _ _ _ _ _ _ _ _)
   | (with_reducible exact ih2 _ _ _ _ _ _ _ _ _ _ _ _ _ _ _)
   | (with_reducible exact ih3 _ _ _ _)
   | (with_reducible exact ih4 _ _ _ _ _ _ _ _)
   | (with_reducible exact ih5 _ _ _ _ _ _ _ _ _ _ _ _ _)
   | (with_reducible exact ih6 _ _ _)
   | (with_reducible exact spec_GoodDepends.mono _ _ _)
   | (with_reducible exact spec_l7Implies.mono _ _ _ _)
   | (with_reducible exact spec_l7Same.mono _ _ _)
   | (with_reducible exact LeO.refl _)
   | (with_reducible exact LeO.none _)
   | (with_reducible refine LeO.ite ?_ ?_)
   | (with_reducible refine LeO.bind ?_ (fun _=>?_))
   | exact ih0 _ _ _ _ _
   | exact ih1 _ _ _ _ _ _ _ _ _ _
   | exact ih2 _ _ _ _ _ _ _ _ _ _ _ _ _ _ _
   | exact ih3 _ _ _ _
   | exact ih4 _ _ _ _ _ _ _ _
   | exact ih5 _ _ _ _ _ _ _ _ _ _ _ _ _
   | exact ih6 _ _ _
   | exact spec_GoodDepends.mono _ _ _
   | exact spec_l7Implies.mono _ _ _ _
   | exact spec_l7Same.mono _ _ _
   | exact LeO.none _
   | refine LeO.ite ?_ ?_
   | refine LeO.bind ?_ (fun _=>?_)
  ·intro y0 y1 y2 y3 y4 y5 y6 y7;unfold spec_CoverOf.l4
   repeat' first
   | (with_reducible exact ih0 _ _ _ _ _)
   | (with_reducible exact ih1 _ _ _ _ _ _ _ _ _ _)
   | (with_reducible exact ih2 _ _ _ _ _ _ _ _ _ _ _ _ _ _ _)
   | (with_reducible exact ih3 _ _ _ _)
   | (with_reducible exact ih4 _ _ _ _ _ _ _ _)
   | (with_reducible exact ih5 _ _ _ _ _ _ _ _ _ _ _ _ _)
   | (with_reducible exact ih6 _ _ _)
   | (with_reducible exact spec_GoodDepends.mono _ _ _)
   | (with_reducible exact spec_l7Implies.mono _ _ _ _)
   | (with_reducible exact spec_l7Same.mono _ _ _)
   | (with_reducible exact LeO.refl _)
   | (with_reducible exact LeO.none _)
   | (with_reducible refine LeO.ite ?_ ?_)
   | (with_reducible refine LeO.bind ?_ (fun _=>?_))
   | exact ih0 _ _ _ _ _
   | exact ih1 _ _ _ _ _ _ _ _ _ _
   | exact ih2 _ _ _ _ _ _ _ _ _ _ _ _ _ _ _
   | exact ih3 _ _ _ _
   | exact ih4 _ _ _ _ _ _ _ _
   | exact ih5 _ _ _ _ _ _ _ _ _ _ _ _ _
   | exact ih6 _ _ _
   | exact spec_GoodDepends.mono _ _ _
   | exact spec_l7Implies.mono _ _ _ _
   | exact spec_l7Same.mono _ _ _
   | exact LeO.none _
   | refine LeO.ite ?_ ?_
   | refine LeO.bind ?_ (fun _=>?_)
  ·intro y0 y1 y2 y3 y4 y5 y6 y7 y8 y9 y10 y11 y12;unfold spec_CoverOf.l5
   repeat' first
   | (with_reducible exact ih0 _ _ _ _ _)
   | (with_reducible exact ih1 _ _ _ _ _ _ _ _ _ _)
   | (with_reducible exact ih2 _ _ _ _ _ _ _ _ _ _ _ _ _ _ _)
   | (with_reducible exact ih3 _ _ _ _)
   | (with_reducible exact ih4 _ _ _ _ _ _ _ _)
   | (with_reducible exact ih5 _ _ _ _ _ _ _ _ _ _ _ _ _)
   | (with_reducible exact ih6 _ _ _)
   | (with_reducible exact spec_GoodDepends.mono _ _ _)
   | (with_reducible exact spec_l7Implies.mono _ _ _ _)
   | (with_reducible exact spec_l7Same.mono _ _ _)
   | (with_reducible exact LeO.refl _)
   | (with_reducible exact LeO.none _)
   | (with_reducible refine LeO.ite ?_ ?_)
   | (with_reducible refine LeO.bind ?_ (fun _=>?_))
   | exact ih0 _ _ _ _ _
   | exact ih1 _ _ _ _ _ _ _ _ _ _
   | exact ih2 _ _ _ _ _ _ _ _ _ _ _ _ _ _ _
   | exact ih3 _ _ _ _
   | exact ih4 _ _ _ _ _ _ _ _
   | exact ih5 _ _ _ _ _ _ _ _ _ _ _ _ _
   | exact ih6 _ _ _
   | exact spec_GoodDepends.mono _ _ _
   | exact spec_l7Implies.mono _ _ _ _
   | exact spec_l7Same.mono _ _ _
   | exact LeO.none _
   | refine LeO.ite ?_ ?_
   | refine LeO.bind ?_ (fun _=>?_)
  ·intro y0 y1 y2;unfold spec_CoverOf.l6
   repeat' first
   | (with_reducible exact ih0 _ _ _ _ _)
   | (with_reducible exact ih1 _ _ _ _ _ _ _ _ _ _)
   | (with_reducible exact ih2 _ _ _ _ _ _ _ _ _ _ _ _ _ _ _)
   | (with_reducible exact ih3 _ _ _ _)
   | (with_reducible exact ih4 _ _ _ _ _ _ _ _)
   | (with_reducible exact ih5 _ _ _ _ _ _ _ _ _ _ _ _ _)
   | (with_reducible exact ih6 _ _ _)
   | (with_reducible exact spec_GoodDepends.mono _ _ _)
   | (with_reducible exact spec_l7Implies.mono _ _ _ _)
   | (with_reducible exact spec_l7Same.mono _ _ _)
   | (with_reducible exact LeO.refl _)
   | (with_reducible exact LeO.none _)
   | (with_reducible refine LeO.ite ?_ ?_)
   | (with_reducible refine LeO.bind ?_ (fun _=>?_))
   | exact ih0 _ _ _ _ _
   | exact ih1 _ _ _ _ _ _ _ _ _ _
   | exact ih2 _ _ _ _ _ _ _ _ _ _ _ _ _ _ _
   | exact ih3 _ _ _ _
   | exact ih4 _ _ _ _ _ _ _ _
   | exact ih5 _ _ _ _ _ _ _ _ _ _ _ _ _
   | exact ih6 _ _ _
   | exact spec_GoodDepends.mono _ _ _
   | exact spec_l7Implies.mono _ _ _ _
   | exact spec_l7Same.mono _ _ _
   | exact LeO.none _
   | refine LeO.ite ?_ ?_
   | refine LeO.bind ?_ (fun _=>?_)
theorem spec_CoverOf.mono : ∀ a0 a1 k,LeO (spec_CoverOf.f k a0 a1) (spec_CoverOf.f (k + 1) a0 a1):=by
 intro a0 a1 k;obtain ⟨ih0,ih1,ih2,ih3,ih4,ih5,ih6⟩:=spec_CoverOf.mono_l k;unfold spec_CoverOf.f
 repeat' first
   | (with_reducible exact ih0 _ _ _ _ _)
   | (with_reducible exact ih1 _ _ _ _ _ _ _ _ _ _)
   | (with_reducible exact ih2 _ _ _ _ _ _ _ _ _ _ _ _ _ _ _)
   | (with_reducible exact ih3 _ _ _ _)
   | (with_reducible exact ih4 _ _ _ _ _ _ _ _)
   | (with_reducible exact ih5 _ _ _ _ _ _ _ _ _ _ _ _ _)
   | (with_reducible exact ih6 _ _ _)
   | (with_reducible exact spec_GoodDepends.mono _ _ _)
   | (with_reducible exact spec_l7Implies.mono _ _ _ _)
   | (with_reducible exact spec_l7Same.mono _ _ _)
   | (with_reducible exact LeO.refl _)
   | (with_reducible exact LeO.none _)
   | (with_reducible refine LeO.ite ?_ ?_)
   | (with_reducible refine LeO.bind ?_ (fun _=>?_))
   | exact ih0 _ _ _ _ _
   | exact ih1 _ _ _ _ _ _ _ _ _ _
   | exact ih2 _ _ _ _ _ _ _ _ _ _ _ _ _ _ _
   | exact ih3 _ _ _ _
   | exact ih4 _ _ _ _ _ _ _ _
   | exact ih5 _ _ _ _ _ _ _ _ _ _ _ _ _
   | exact ih6 _ _ _
   | exact spec_GoodDepends.mono _ _ _
   | exact spec_l7Implies.mono _ _ _ _
   | exact spec_l7Same.mono _ _ _
   | exact LeO.none _
   | refine LeO.ite ?_ ?_
   | refine LeO.bind ?_ (fun _=>?_)
def spec_CoverOf.T39 : Bool × List (List Nat × List Nat):=(true,[([],[]),([],[]),([],[]),([1,2],[1,2]),([0,3],[0,3]),([],[]),([],[]),([6],[6]),([5,7],[5,7]),([4,8,4],[4,8]),([9,9,0,1,2,3,4,5,6,7,8,9],[9])])
def spec_CoverOf.B39 : List Nat:=[0,0,0,6,15,0,0,64,224,511,1023]
theorem spec_CoverOf.tab39 : rtab .any (opsOf Try.f6 39)=spec_CoverOf.T39:=by kernel_rfl
theorem spec_CoverOf.bits39 : waitsOk spec_CoverOf.T39.2 spec_CoverOf.B39=true:=by kernel_rfl
set_option maxHeartbeats 8000000 in
set_option maxRecDepth 100000 in
theorem spec_CoverOf.calls (k:Nat) (A0:Option Addr) (c0:Nat) (l0:List (S37)) (a1:Int) (r1:List (S37)) (r2:Bool) (w:World) (hr0:Kd.C k37 w A0 l0.length l0) (hc0:l0.length≤c0) (h:spec_CoverOf.f k l0 a1=some (r1,r2)) :
  Calls Try.prog 6 #[.slice A0 l0.length c0,.int .i64 a1] w fun e w'=>∃ v0_:Value,e=.returned (.tuple #[v0_,.bool r2])∧Kd.N k37 37 w' w.heap.size (fun k_=>(w.heap.size≤k_)) v0_ r1∧Below w.heap.size w w':=by
 have hu37:=Try.underlying37;have HR0:=qK hr0;have HC0:=qK hc0;clear hr0 hc0;have HB:=qK (Below.refl w.heap.size w);have H:((spec_GoodDepends.f k l0 a1).bind fun t172=>(if t172=true then (spec_CoverOf.l0 k a1 ([]:List (S37)) l0 (l0.length:Int) 0) else (some (([]:List (S37)),false))))=some (r1,r2):=h;clear h;replace H:=Option.bind_eq_some_iff.mp H;obtain ⟨t172,A30,H⟩:=H;replace H:(if t172=true then (spec_CoverOf.l0 k a1 ([]:List (S37)) l0 (l0.length:Int) 0) else (some (([]:List (S37)),false)))=some (r1,r2):=H;have A3:=qK A30;clear A30;by_cases c4:t172=true
 ·subst c4;have H1:(spec_CoverOf.l0 k a1 ([]:List (S37)) l0 (l0.length:Int) 0)=some (r1,r2):=by rw [if_pos rfl] at H;exact H
  clear H;have H:=H1;clear H1;have H':=qK H;clear H;go_enter Try.func6,Try.ntmps6
  go_wp2_with (first|((with_reducible refine gate_callee (f:=19) rfl ?_);refine goesL_ (some 24) rfl rfl Try.func19 (by kernel_rfl) rfl #[.slice A0 l0.length c0,.int .i64 a1] rfl (by (try simp only [mT,mC,mN]);first|done|rfl|(simp only [lD,lT];rfl)) ?_;(with_reducible refine (spec_GoodDepends.calls k _ _ l0 a1 true _ ?side1 ?side2 A3.out).mono ?_);(case side1=>repeat (first|exact HR0.out|(with_reducible first|refine cL ?_ _|refine cN ?_ _|refine cW ?_)));(case side2=>exact HC0.out);rintro e w5 ⟨rfl,hb⟩;refine ⟨_,rfl,?_⟩;have n0_:=qK (qT (by repeat (with_reducible first|exact HB.out|apply qA|apply qD|apply qO)) hb);clear HB;have HB:=n0_;clear n0_;(try clear hb)))
  go_loopg [6,28] k (fun kq v6 v28 w'=>∃ (x6_1:List (S37)) (x28_1:Int),v28=.int .i64 x28_1∧Aside0 (spec_CoverOf.l0 kq a1 x6_1 l0 (l0.length:Int) x28_1=some (r1,r2))∧Aside0 (kq≤k)∧Aside0 (Kd.N k37 37 w' w.heap.size (fun k_=>(w.heap.size≤k_)) v6 x6_1)∧Aside0 (Below w.heap.size w w'))
  case atStart=>exact ⟨(([]:List (S37))),(0),(by first|rfl|(simp;done)|(simp [*];done)),H',⟨Nat.le_refl _⟩,⟨by first|exact Kd.S_nil _ _ _ _ _|exact Kd.N_nil _ _ _ _ _|exact Kd.V_nil _ _ _ _ _|exact Kd.Q_nil _ _ _ _ _|exact Kd.R_nil _ _ _ _ _⟩,⟨by repeat (first|(with_reducible first|exact HB.out|apply qA|apply qD|apply qO)|exact HB.out)⟩⟩
  case round =>
   clear H';try clear c1
   try clear p2
   try clear c4
   obtain ⟨x6_1,x28_1,rfl,HA,HK1,HO_6,HB⟩:=hrel;cases gk with
   | zero=>exact absurd HA.out (by simp [spec_CoverOf.l0])
   | succ k1 =>
    have H:=HA.out;clear HA;simp only [spec_CoverOf.l0] at H;by_cases c6:x28_1 < (l0.length:Int)
    ·rw [if_pos c6] at H;have c6b0:decide (x28_1 < (l0.length:Int))=true:=decide_eq_true c6;clear c6;by_cases c7:0≤x28_1
     ·rw [if_pos c7] at H;have c7b0:decide (0≤x28_1)=true:=decide_eq_true c7;clear c7;by_cases c8:x28_1 < (l0.length:Int)
      ·rw [if_pos c8] at H;have c8b0:decide (x28_1 < (l0.length:Int))=true:=decide_eq_true c8;clear c8;have H':=qK H;clear H;have p173:0≤(x28_1:Int):=of_decide_eq_true (by first|(with_reducible assumption)|assumption);have q173:x28_1 < (l0.length:Int):=of_decide_eq_true (by first|(with_reducible assumption)|assumption);obtain ⟨ad173,A173_0,c173_0,A173_1,c173_1,e173,hx173_0,hx173_1,hl173_0,hi173_0,hl173_1,hi173_1⟩:=at_T37 HR0.out x28_1 p173 q173;cases e173
       (try replace hx173_0:=(HB.out.cell (World.block_lt_of_cell? w _ hx173_0)).trans hx173_0);(try replace hx173_1:=(HB.out.cell (World.block_lt_of_cell? w _ hx173_1)).trans hx173_1);have HR173_0:=qK hi173_0;have HC173_0:=qK hl173_0;clear hi173_0 hl173_0;have HR173_1:=qK hi173_1;have HC173_1:=qK hl173_1;clear hi173_1 hl173_1;replace p173:=eq_true p173;replace q173:=eq_true q173;go_wp2_with (first|((with_reducible refine gate_dst (N:=8) rfl ?_);refine box_event ?hg (N:=8) ?hd (cs:=#[.slice none 0 0,.slice none 0 0]) (t:=37) ?hr ?_;(case hd=>rfl);(case hg=>rfl);(case hr=>(go_simp;try rfl));intro gb174 hg w9 hbox hb;have n0_:=qK (Kd.N_below (Kd.N_elderB (by (with_reducible repeat (first|apply Kd.N_alloc|apply Kd.N_drewN|apply Kd.N_drew));exact HO_6.out) gb174 (Nat.le_of_eq hg.symm)) hb);have n1_:=qK (qT (by repeat (with_reducible first|exact HB.out|apply qA|apply qD|apply qO)) hb);have n2_:=qK (hbox);have n3_:=qK ((by rw [hg];exact (qZ (by repeat (with_reducible first|exact HB.out|apply qA|apply qD|apply qO))):w.heap.size≤gb174));have n4_:=qK ((by rw [hg];exact (qZ (by repeat (with_reducible first|exact HB.out|apply qA|apply qD|apply qO))):w.heap.size≤gb174));clear HO_6;clear HB;have HO_6:=n0_;have HB:=n1_;have BK174:=n2_;have GW174:=n3_;have GE174:=n4_;clear n0_ n1_ n2_ n3_ n4_;clear hb hbox hg;have hcz10_0:w9.cell? ⟨gb174,0,none⟩=some (.slice none 0 0):=(qC BK174.out 0).trans rfl;have hcz10_1:w9.cell? ⟨gb174,1,none⟩=some (.slice none 0 0):=(qC BK174.out 1).trans rfl;have hfz10_0:=qF BK174.out 0;have hfz10_1:=qF BK174.out 1))
       go_loopg [6,35] k1 (fun kq v6 v35 w'=>∃ (x6_2:List (S37)) (x35_2:Int),v35=.int .i64 x35_2∧Aside0 (spec_CoverOf.l1 kq a1 x6_2 l0 (l0.length:Int) x28_1 ((rd_T37 l0 x28_1).f1) (((rd_T37 l0 x28_1).f1).length:Int) x35_2 ((rd_T37 l0 x28_1).f0) ((rd_T37 l0 x28_1).f1)=some (r1,r2))∧Aside0 (kq≤k1)∧Aside0 (Kd.N k37 37 w' w.heap.size (fun k_=>(w.heap.size≤k_)∧k_ ≠ gb174) v6 x6_2)∧Aside0 (w'.heap[gb174]?=some (.cells #[(.slice A173_0 ((rd_T37 l0 x28_1).f0).length c173_0),(.slice A173_1 ((rd_T37 l0 x28_1).f1).length c173_1)] 37 (0,0)))∧Aside0 (Below w.heap.size w w'))
       case atStart=>exact ⟨(x6_1),(0),(by first|rfl|(simp;done)|(simp [*];done)),H',⟨Nat.le_refl _⟩,⟨by (with_reducible repeat (first|apply Kd.N_alloc|apply Kd.N_drewN|apply Kd.N_drew));exact Kd.N_mono (Kd.N_far (p:=⟨gb174,1,none⟩) (Kd.N_far (p:=⟨gb174,0,none⟩) (Kd.N_mono HO_6.out (fun k_ hk=>(⟨hk,hk.2⟩:_∧k_ ≠ gb174))) (fun _ hk=>hk.2) (.slice A173_0 ((rd_T37 l0 x28_1).f0).length c173_0)) (fun _ hk=>hk.2) (.slice A173_1 ((rd_T37 l0 x28_1).f1).length c173_1)) (fun _ hk=>⟨hk.1.1,hk.1.2⟩)⟩,⟨by (with_reducible repeat (first|refine qN ?_ _|refine qW ?_|refine qL ?_ _));refine qP (cs:=#[.slice A173_0 ((rd_T37 l0 x28_1).f0).length c173_0,.slice none 0 0]) ?_ 1 _ rfl;(with_reducible repeat (first|refine qN ?_ _|refine qW ?_|refine qL ?_ _));refine qP (cs:=#[.slice none 0 0,.slice none 0 0]) ?_ 0 _ rfl;(with_reducible repeat (first|refine qN ?_ _|refine qW ?_|refine qL ?_ _));exact BK174.out⟩,⟨by repeat (first|(with_reducible first|exact HB.out|apply qA|apply qD|apply qO|refine qS ?_ GE174.out)|exact HB.out)⟩⟩
       case round =>
        clear H';try clear c1
        try clear p1
        try clear q1
        try clear hx1
        try clear p2
        try clear c4
        try clear c6
        try clear c6b0
        try clear c7
        try clear c7b0
        try clear c8
        try clear c8b0
        try clear hcz10_0
        try clear hcz10_1
        try clear hfz10_0
        try clear hfz10_1
        try clear hx173_0
        try clear hx173_1
        try clear p173
        try clear p2
        try clear q173
        obtain ⟨x6_2,x35_2,rfl,HA,HK2,HO_6,BK174,HB⟩:=hrel;cases gk with
        | zero=>exact absurd HA.out (by simp [spec_CoverOf.l1])
        | succ k2 =>
         have H:=HA.out;clear HA;simp only [spec_CoverOf.l1] at H;by_cases c11:x35_2 < (((rd_T37 l0 x28_1).f1).length:Int)
         ·rw [if_pos c11] at H;have c11b0:decide (x35_2 < (((rd_T37 l0 x28_1).f1).length:Int))=true:=decide_eq_true c11;clear c11;by_cases c12:0≤x35_2
          ·rw [if_pos c12] at H;have c12b0:decide (0≤x35_2)=true:=decide_eq_true c12;clear c12;by_cases c13:x35_2 < (((rd_T37 l0 x28_1).f1).length:Int)
           ·rw [if_pos c13] at H;have c13b0:decide (x35_2 < (((rd_T37 l0 x28_1).f1).length:Int))=true:=decide_eq_true c13;clear c13;have H':=qK H;clear H;have p175:0≤(x35_2:Int):=of_decide_eq_true (by first|(with_reducible assumption)|assumption);have q175:x35_2 < (((rd_T37 l0 x28_1).f1).length:Int):=of_decide_eq_true (by first|(with_reducible assumption)|assumption);obtain ⟨ad175,e175,hx175_0⟩:=Kd.at_int HR173_1.out x35_2 p175 q175;cases e175
            (try replace hx175_0:=(HB.out.cell (World.block_lt_of_cell? w _ hx175_0)).trans hx175_0);replace p175:=eq_true p175;replace q175:=eq_true q175;obtain ⟨Ao14,co14,eo14⟩:=Kd.N_slice HO_6.out;subst eo14;go_wp2
            go_loopg [11,41] k2 (fun kq v11 v41 w'=>∃ (x11_3:Bool) (x41_3:Int),v11=.bool x11_3∧v41=.int .i64 x41_3∧Aside0 (spec_CoverOf.l2 kq a1 x6_2 (rd ((rd_T37 l0 x28_1).f1) x35_2) x11_3 l0 (l0.length:Int) x28_1 ((rd_T37 l0 x28_1).f1) (((rd_T37 l0 x28_1).f1).length:Int) x35_2 x6_2 (x6_2.length:Int) x41_3 ((rd_T37 l0 x28_1).f0) ((rd_T37 l0 x28_1).f1)=some (r1,r2))∧Aside0 (kq≤k2)∧Aside0 (Kd.N k37 37 w' w.heap.size (fun k_=>(w.heap.size≤k_)∧k_ ≠ gb174) (.slice Ao14 x6_2.length co14) x6_2)∧Aside0 (Kd.N k37 37 w' w.heap.size (fun k_=>(w.heap.size≤k_)∧k_ ≠ gb174) (.slice Ao14 x6_2.length co14) x6_2)∧Aside0 (w'.heap[gb174]?=some (.cells #[(.slice A173_0 ((rd_T37 l0 x28_1).f0).length c173_0),(.slice (some ad175) ((rd_T37 l0 x28_1).f1).length c173_1)] 37 (0,0)))∧Aside0 (Below w.heap.size w w'))
            case atStart=>exact ⟨(false),(0),(by first|rfl|(simp;done)|(simp [*];done)),(by first|rfl|(simp;done)|(simp [*];done)),H',⟨Nat.le_refl _⟩,⟨by (with_reducible repeat (first|apply Kd.N_alloc|apply Kd.N_drewN|apply Kd.N_drew));exact HO_6.out⟩,⟨by (with_reducible repeat (first|apply Kd.N_alloc|apply Kd.N_drewN|apply Kd.N_drew));exact HO_6.out⟩,⟨by (with_reducible repeat (first|refine qN ?_ _|refine qW ?_|refine qL ?_ _));exact BK174.out⟩,⟨by repeat (first|(with_reducible first|exact HB.out|apply qA|apply qD|apply qO|refine qS ?_ GE174.out)|exact HB.out)⟩⟩
            case round =>
             clear H';try clear c1
             try clear p1
             try clear q1
             try clear hx1
             try clear p2
             try clear c4
             try clear c6
             try clear c6b0
             try clear c7
             try clear c7b0
             try clear c8
             try clear c8b0
             try clear c11
             try clear c11b0
             try clear c12
             try clear c12b0
             try clear c13
             try clear c13b0
             try clear hcz10_0
             try clear hcz10_1
             try clear hfz10_0
             try clear hfz10_1
             try clear hx173_0
             try clear hx173_1
             try clear hx175_0
             try clear p1
             try clear p173
             try clear p175
             try clear p2
             try clear q1
             try clear q173
             try clear q175
             obtain ⟨x11_3,x41_3,rfl,rfl,HA,HK3,HO_6,HO_39,BK174,HB⟩:=hrel;cases gk with
             | zero=>exact absurd HA.out (by simp [spec_CoverOf.l2])
             | succ k3 =>
              have H:=HA.out;clear HA;simp only [spec_CoverOf.l2] at H;by_cases c15:x41_3 < (x6_2.length:Int)
              ·rw [if_pos c15] at H;have c15b0:decide (x41_3 < (x6_2.length:Int))=true:=decide_eq_true c15;clear c15;by_cases c16:0≤x41_3
               ·rw [if_pos c16] at H;have c16b0:decide (0≤x41_3)=true:=decide_eq_true c16;clear c16;by_cases c17:x41_3 < (x6_2.length:Int)
                ·rw [if_pos c17] at H;have c17b0:decide (x41_3 < (x6_2.length:Int))=true:=decide_eq_true c17;clear c17;by_cases c18:x11_3=true
                 ·subst c18;have H1:(spec_CoverOf.l2 k3 a1 x6_2 (rd ((rd_T37 l0 x28_1).f1) x35_2) true l0 (l0.length:Int) x28_1 ((rd_T37 l0 x28_1).f1) (((rd_T37 l0 x28_1).f1).length:Int) x35_2 x6_2 (x6_2.length:Int) (wrap64 (x41_3 + 1)) ((rd_T37 l0 x28_1).f0) ((rd_T37 l0 x28_1).f1))=some (r1,r2):=by rw [if_pos rfl] at H;exact H
                  clear H;have H:=H1;clear H1;have H':=qK H;clear H;have p176:0≤(x41_3:Int):=of_decide_eq_true (by first|(with_reducible assumption)|assumption);have q176:x41_3 < (x6_2.length:Int):=of_decide_eq_true (by first|(with_reducible assumption)|assumption);obtain ⟨ad176,A176_0,c176_0,A176_1,c176_1,e176,hx176_0,hx176_1,hl176_0,hi176_0,hl176_1,hi176_1⟩:=at_T37 (Kd.N_reads' HO_39.out).2.2 x41_3 p176 q176;cases e176
                  obtain ⟨ce176,hce176,hMe176,hcc176⟩:=Kd.N_get HO_39.out z37 x41_3 p176 (by first|exact q176|exact of_decide_eq_true (by first|(with_reducible assumption)|assumption)|(have e_:=(Kd.N_reads' HO_39.out).1;omega));obtain ⟨ua176_0,uc176_0,ua176_1,uc176_1,rfl,ul176_0,ge176_0,ul176_1,ge176_1⟩:=k37_openF hMe176;have hv176_0:=hcc176 0 _ rfl;rw [Nat.add_zero] at hv176_0;replace hv176_0:=Option.some.inj (hv176_0.symm.trans hx176_0);injection hv176_0 with hva_ hvn_ hvc_
                  rw [hva_] at ge176_0;rw [hvc_] at ul176_0;have HL176_0:=qK (show Kd.V (Kd.int .i64) 3 _ w.heap.size _ _ ((rd_T37 x6_2 x41_3).f0) from Kd.V_mk ul176_0 ge176_0);clear hva_ hvn_ hvc_ ge176_0 ul176_0;have hv176_1:=hcc176 1 _ rfl;rw [add_field _ _ 1 (by omega)] at hv176_1;replace hv176_1:=Option.some.inj (hv176_1.symm.trans hx176_1);injection hv176_1 with hva_ hvn_ hvc_
                  rw [hva_] at ge176_1;rw [hvc_] at ul176_1;have HL176_1:=qK (show Kd.V (Kd.int .i64) 3 _ w.heap.size _ _ ((rd_T37 x6_2 x41_3).f1) from Kd.V_mk ul176_1 ge176_1);clear hva_ hvn_ hvc_ ge176_1 ul176_1;clear hcc176 hce176;have HR176_0:=qK hi176_0;have HC176_0:=qK hl176_0;clear hi176_0 hl176_0;have HR176_1:=qK hi176_1;have HC176_1:=qK hl176_1;clear hi176_1 hl176_1;replace p176:=eq_true p176;replace q176:=eq_true q176;go_wp2_with (first|((with_reducible refine gate_dst (N:=13) rfl ?_);refine box_event ?hg (N:=13) ?hd (cs:=#[.slice none 0 0,.slice none 0 0]) (t:=37) ?hr ?_;(case hd=>rfl);(case hg=>rfl);(case hr=>(go_simp;try rfl));intro gb177 hg w19 hbox hb;have n0_:=qK (Kd.N_below (Kd.N_elderB (by (with_reducible repeat (first|apply Kd.N_alloc|apply Kd.N_drewN|apply Kd.N_drew));exact HO_6.out) gb177 (Nat.le_of_eq hg.symm)) hb);have n1_:=qK (Kd.N_below (Kd.N_elderB (by (with_reducible repeat (first|apply Kd.N_alloc|apply Kd.N_drewN|apply Kd.N_drew));exact HO_39.out) gb177 (Nat.le_of_eq hg.symm)) hb);have n2_:=qK (Kd.V_below (Kd.V_elderB (by (with_reducible repeat (first|apply Kd.V_alloc|apply Kd.V_drewN|apply Kd.V_drew));exact HL176_0.out) gb177 (Nat.le_of_eq hg.symm)) hb);have n3_:=qK (Kd.V_below (Kd.V_elderB (by (with_reducible repeat (first|apply Kd.V_alloc|apply Kd.V_drewN|apply Kd.V_drew));exact HL176_1.out) gb177 (Nat.le_of_eq hg.symm)) hb);have n4_:=qK (qB (g:=gb174) (o:=_) (by (with_reducible repeat (first|refine qN ?_ _|refine qW ?_|refine qL ?_ _));exact BK174.out) hb);have n5_:=qK (cB (by repeat (first|(with_reducible exact HR176_0.out)|(with_reducible first|refine cL ?_ _|refine cN ?_ _|refine cW ?_)|exact HR176_0.out)) hb);have n6_:=qK (cB (by repeat (first|(with_reducible exact HR176_1.out)|(with_reducible first|refine cL ?_ _|refine cN ?_ _|refine cW ?_)|exact HR176_1.out)) hb);have n7_:=qK (qT (by repeat (with_reducible first|exact HB.out|apply qA|apply qD|apply qO|refine qS ?_ GE174.out)) hb);have n8_:=qK (hbox);have n9_:=qK ((by rw [hg];exact (qZ (by repeat (with_reducible first|exact HB.out|apply qA|apply qD|apply qO|refine qS ?_ GE174.out))):w.heap.size≤gb177));have n10_:=qK ((by rw [hg];exact (qZ (by repeat (with_reducible first|exact HB.out|apply qA|apply qD|apply qO|refine qS ?_ GE174.out))):w.heap.size≤gb177));have n11_:=qK ((by rw [hg];exact Nat.ne_of_lt (blk_lt (g:=gb174) (o:=_) (by (with_reducible repeat (first|refine qN ?_ _|refine qW ?_|refine qL ?_ _));exact BK174.out)):gb174 ≠ gb177));have n12_:=qK ((by rw [hg];exact Nat.ne_of_gt (blk_lt (g:=gb174) (o:=_) (by (with_reducible repeat (first|refine qN ?_ _|refine qW ?_|refine qL ?_ _));exact BK174.out)):gb177 ≠ gb174));clear HO_6;clear HO_39;clear HL176_0;clear HL176_1;clear BK174;clear HR176_0;clear HR176_1;clear HB;have HO_6:=n0_;have HO_39:=n1_;have HL176_0:=n2_;have HL176_1:=n3_;have BK174:=n4_;have HR176_0:=n5_;have HR176_1:=n6_;have HB:=n7_;have BK177:=n8_;have GW177:=n9_;have GE177:=n10_;have NB174_177:=n11_;have NB177_174:=n12_;clear n0_ n1_ n2_ n3_ n4_ n5_ n6_ n7_ n8_ n9_ n10_ n11_ n12_;clear hb hbox hg;have hnb20:=NB177_174.out;have hnc20:=NB174_177.out;have hcz21_0:w19.cell? ⟨gb177,0,none⟩=some (.slice none 0 0):=(qC BK177.out 0).trans rfl;have hcz21_1:w19.cell? ⟨gb177,1,none⟩=some (.slice none 0 0):=(qC BK177.out 1).trans rfl;have hfz21_0:=qF BK177.out 0;have hfz21_1:=qF BK177.out 1))
                  go_roundg k3
                  case measure=>have:=HK1.out;have:=HK2.out;have:=HK3.out;omega
                  case rel=>exact ⟨(true),(wrap64 (x41_3 + 1)),(by first|rfl|(simp;done)|(simp [*];done)),(by first|rfl|(simp;done)|(simp [*];done)),H',⟨by have:=HK1.out;have:=HK2.out;have:=HK3.out;omega⟩,⟨by (with_reducible repeat (first|apply Kd.N_alloc|apply Kd.N_drewN|apply Kd.N_drew));exact Kd.N_mono (Kd.N_far (p:=⟨gb177,1,none⟩) (Kd.N_far (p:=⟨gb177,0,none⟩) (Kd.N_mono HO_6.out (fun k_ hk=>(⟨hk,hk.2⟩:_∧k_ ≠ gb177))) (fun _ hk=>hk.2) (.slice A176_0 ((rd_T37 x6_2 x41_3).f0).length c176_0)) (fun _ hk=>hk.2) (.slice A176_1 ((rd_T37 x6_2 x41_3).f1).length c176_1)) (fun _ hk=>⟨hk.1.1.1,hk.1.1.2⟩)⟩,⟨by (with_reducible repeat (first|apply Kd.N_alloc|apply Kd.N_drewN|apply Kd.N_drew));exact Kd.N_mono (Kd.N_far (p:=⟨gb177,1,none⟩) (Kd.N_far (p:=⟨gb177,0,none⟩) (Kd.N_mono HO_39.out (fun k_ hk=>(⟨hk,hk.2⟩:_∧k_ ≠ gb177))) (fun _ hk=>hk.2) (.slice A176_0 ((rd_T37 x6_2 x41_3).f0).length c176_0)) (fun _ hk=>hk.2) (.slice A176_1 ((rd_T37 x6_2 x41_3).f1).length c176_1)) (fun _ hk=>⟨hk.1.1.1,hk.1.1.2⟩)⟩,⟨by (with_reducible repeat (first|refine qN ?_ _|refine qW ?_|refine qL ?_ _));refine qR ?_ NB174_177.out _;(with_reducible repeat (first|refine qN ?_ _|refine qW ?_|refine qL ?_ _));refine qR ?_ NB174_177.out _;(with_reducible repeat (first|refine qN ?_ _|refine qW ?_|refine qL ?_ _));exact BK174.out⟩,⟨by repeat (first|(with_reducible first|exact HB.out|apply qA|apply qD|apply qO|refine qS ?_ GE174.out|refine qS ?_ GE177.out)|exact HB.out)⟩⟩
                 ·replace c18:=Bool.eq_false_iff.mpr c18;subst c18;have H1:(if 0 < (((rd_T37 x6_2 x41_3).f1).length:Int) then (if (rd ((rd_T37 x6_2 x41_3).f1) 0)=(rd ((rd_T37 l0 x28_1).f1) x35_2) then ((spec_l7Same.f k3 ((rd_T37 x6_2 x41_3).f0) ((rd_T37 l0 x28_1).f0)).bind fun t179=>(spec_CoverOf.l2 k3 a1 x6_2 (rd ((rd_T37 l0 x28_1).f1) x35_2) t179 l0 (l0.length:Int) x28_1 ((rd_T37 l0 x28_1).f1) (((rd_T37 l0 x28_1).f1).length:Int) x35_2 x6_2 (x6_2.length:Int) (wrap64 (x41_3 + 1)) ((rd_T37 l0 x28_1).f0) ((rd_T37 l0 x28_1).f1))) else (spec_CoverOf.l2 k3 a1 x6_2 (rd ((rd_T37 l0 x28_1).f1) x35_2) false l0 (l0.length:Int) x28_1 ((rd_T37 l0 x28_1).f1) (((rd_T37 l0 x28_1).f1).length:Int) x35_2 x6_2 (x6_2.length:Int) (wrap64 (x41_3 + 1)) ((rd_T37 l0 x28_1).f0) ((rd_T37 l0 x28_1).f1))) else (none))=some (r1,r2):=by rw [if_neg (show ¬ (false=true) by decide)] at H;exact H
                  clear H;have H:=H1;clear H1;by_cases c22:0 < (((rd_T37 x6_2 x41_3).f1).length:Int)
                  ·rw [if_pos c22] at H;have c22b0:decide (0 < (((rd_T37 x6_2 x41_3).f1).length:Int))=true:=decide_eq_true c22;have c22b1:decide (0 < ((rd_T37 x6_2 x41_3).f1).length)=true:=decide_eq_true (by omega);clear c22;by_cases c23:(rd ((rd_T37 x6_2 x41_3).f1) 0)=(rd ((rd_T37 l0 x28_1).f1) x35_2)
                   ·rw [if_pos c23] at H;have c23b0:((rd ((rd_T37 x6_2 x41_3).f1) 0) == (rd ((rd_T37 l0 x28_1).f1) x35_2))=true:=beq_iff_eq.mpr c23;have c23b1:((rd ((rd_T37 x6_2 x41_3).f1) 0) != (rd ((rd_T37 l0 x28_1).f1) x35_2))=false:=bne_eq_false_iff_eq.mpr c23;clear c23;replace H:=Option.bind_eq_some_iff.mp H;obtain ⟨t179,A240,H⟩:=H;replace H:(spec_CoverOf.l2 k3 a1 x6_2 (rd ((rd_T37 l0 x28_1).f1) x35_2) t179 l0 (l0.length:Int) x28_1 ((rd_T37 l0 x28_1).f1) (((rd_T37 l0 x28_1).f1).length:Int) x35_2 x6_2 (x6_2.length:Int) (wrap64 (x41_3 + 1)) ((rd_T37 l0 x28_1).f0) ((rd_T37 l0 x28_1).f1))=some (r1,r2):=H;have A24:=qK A240;clear A240;have H':=qK H;clear H;have p176:0≤(x41_3:Int):=of_decide_eq_true (by first|(with_reducible assumption)|assumption);have q176:x41_3 < (x6_2.length:Int):=of_decide_eq_true (by first|(with_reducible assumption)|assumption);obtain ⟨ad176,A176_0,c176_0,A176_1,c176_1,e176,hx176_0,hx176_1,hl176_0,hi176_0,hl176_1,hi176_1⟩:=at_T37 (Kd.N_reads' HO_39.out).2.2 x41_3 p176 q176;cases e176
                    obtain ⟨ce176,hce176,hMe176,hcc176⟩:=Kd.N_get HO_39.out z37 x41_3 p176 (by first|exact q176|exact of_decide_eq_true (by first|(with_reducible assumption)|assumption)|(have e_:=(Kd.N_reads' HO_39.out).1;omega));obtain ⟨ua176_0,uc176_0,ua176_1,uc176_1,rfl,ul176_0,ge176_0,ul176_1,ge176_1⟩:=k37_openF hMe176;have hv176_0:=hcc176 0 _ rfl;rw [Nat.add_zero] at hv176_0;replace hv176_0:=Option.some.inj (hv176_0.symm.trans hx176_0);injection hv176_0 with hva_ hvn_ hvc_
                    rw [hva_] at ge176_0;rw [hvc_] at ul176_0;have HL176_0:=qK (show Kd.V (Kd.int .i64) 3 _ w.heap.size _ _ ((rd_T37 x6_2 x41_3).f0) from Kd.V_mk ul176_0 ge176_0);clear hva_ hvn_ hvc_ ge176_0 ul176_0;have hv176_1:=hcc176 1 _ rfl;rw [add_field _ _ 1 (by omega)] at hv176_1;replace hv176_1:=Option.some.inj (hv176_1.symm.trans hx176_1);injection hv176_1 with hva_ hvn_ hvc_
                    rw [hva_] at ge176_1;rw [hvc_] at ul176_1;have HL176_1:=qK (show Kd.V (Kd.int .i64) 3 _ w.heap.size _ _ ((rd_T37 x6_2 x41_3).f1) from Kd.V_mk ul176_1 ge176_1);clear hva_ hvn_ hvc_ ge176_1 ul176_1;clear hcc176 hce176;have HR176_0:=qK hi176_0;have HC176_0:=qK hl176_0;clear hi176_0 hl176_0;have HR176_1:=qK hi176_1;have HC176_1:=qK hl176_1;clear hi176_1 hl176_1;replace p176:=eq_true p176;replace q176:=eq_true q176;go_wp2_with (first|((with_reducible refine gate_dst (N:=13) rfl ?_);refine box_event ?hg (N:=13) ?hd (cs:=#[.slice none 0 0,.slice none 0 0]) (t:=37) ?hr ?_;(case hd=>rfl);(case hg=>rfl);(case hr=>(go_simp;try rfl));intro gb177 hg w25 hbox hb;have n0_:=qK (Kd.N_below (Kd.N_elderB (by (with_reducible repeat (first|apply Kd.N_alloc|apply Kd.N_drewN|apply Kd.N_drew));exact HO_6.out) gb177 (Nat.le_of_eq hg.symm)) hb);have n1_:=qK (Kd.N_below (Kd.N_elderB (by (with_reducible repeat (first|apply Kd.N_alloc|apply Kd.N_drewN|apply Kd.N_drew));exact HO_39.out) gb177 (Nat.le_of_eq hg.symm)) hb);have n2_:=qK (Kd.V_below (Kd.V_elderB (by (with_reducible repeat (first|apply Kd.V_alloc|apply Kd.V_drewN|apply Kd.V_drew));exact HL176_0.out) gb177 (Nat.le_of_eq hg.symm)) hb);have n3_:=qK (Kd.V_below (Kd.V_elderB (by (with_reducible repeat (first|apply Kd.V_alloc|apply Kd.V_drewN|apply Kd.V_drew));exact HL176_1.out) gb177 (Nat.le_of_eq hg.symm)) hb);have n4_:=qK (qB (g:=gb174) (o:=_) (by (with_reducible repeat (first|refine qN ?_ _|refine qW ?_|refine qL ?_ _));exact BK174.out) hb);have n5_:=qK (cB (by repeat (first|(with_reducible exact HR176_0.out)|(with_reducible first|refine cL ?_ _|refine cN ?_ _|refine cW ?_)|exact HR176_0.out)) hb);have n6_:=qK (cB (by repeat (first|(with_reducible exact HR176_1.out)|(with_reducible first|refine cL ?_ _|refine cN ?_ _|refine cW ?_)|exact HR176_1.out)) hb);have n7_:=qK (qT (by repeat (with_reducible first|exact HB.out|apply qA|apply qD|apply qO|refine qS ?_ GE174.out)) hb);have n8_:=qK (hbox);have n9_:=qK ((by rw [hg];exact (qZ (by repeat (with_reducible first|exact HB.out|apply qA|apply qD|apply qO|refine qS ?_ GE174.out))):w.heap.size≤gb177));have n10_:=qK ((by rw [hg];exact (qZ (by repeat (with_reducible first|exact HB.out|apply qA|apply qD|apply qO|refine qS ?_ GE174.out))):w.heap.size≤gb177));have n11_:=qK ((by rw [hg];exact Nat.ne_of_lt (blk_lt (g:=gb174) (o:=_) (by (with_reducible repeat (first|refine qN ?_ _|refine qW ?_|refine qL ?_ _));exact BK174.out)):gb174 ≠ gb177));have n12_:=qK ((by rw [hg];exact Nat.ne_of_gt (blk_lt (g:=gb174) (o:=_) (by (with_reducible repeat (first|refine qN ?_ _|refine qW ?_|refine qL ?_ _));exact BK174.out)):gb177 ≠ gb174));clear HO_6;clear HO_39;clear HL176_0;clear HL176_1;clear BK174;clear HR176_0;clear HR176_1;clear HB;have HO_6:=n0_;have HO_39:=n1_;have HL176_0:=n2_;have HL176_1:=n3_;have BK174:=n4_;have HR176_0:=n5_;have HR176_1:=n6_;have HB:=n7_;have BK177:=n8_;have GW177:=n9_;have GE177:=n10_;have NB174_177:=n11_;have NB177_174:=n12_;clear n0_ n1_ n2_ n3_ n4_ n5_ n6_ n7_ n8_ n9_ n10_ n11_ n12_;clear hb hbox hg;have hnb26:=NB177_174.out;have hnc26:=NB174_177.out;have hcz27_0:w25.cell? ⟨gb177,0,none⟩=some (.slice none 0 0):=(qC BK177.out 0).trans rfl;have hcz27_1:w25.cell? ⟨gb177,1,none⟩=some (.slice none 0 0):=(qC BK177.out 1).trans rfl;have hfz27_0:=qF BK177.out 0;have hfz27_1:=qF BK177.out 1)|((with_reducible refine gate_store (t:=37) (p:=13) rfl ?_);refine store_event (t:=37) (p:=13) (v:=?vo_w28) (w1:=((w25.setCell ⟨gb177,0,none⟩ (.slice A176_0 ((rd_T37 x6_2 x41_3).f0).length c176_0)).setCell ⟨gb177,1,none⟩ (.slice A176_1 ((rd_T37 x6_2 x41_3).f1).length c176_1))) ?hg ?ho ?hn ?hr ?_;(case ho=>rfl);(case hg=>rfl);(case hn=>rfl);(case hr=>(go_simp;try rfl));intro w28 hw;have n0_:Aside0 (Kd.N k37 37 w28 w.heap.size (fun k_=>(w.heap.size≤k_)∧k_ ≠ gb174∧k_ ≠ gb177) (.slice (some ad176) x6_2.length co14) x6_2):=⟨(by rw [hw];exact (by (with_reducible repeat (first|apply Kd.N_alloc|apply Kd.N_drewN|apply Kd.N_drew));exact Kd.N_mono (Kd.N_far (p:=⟨gb177,1,none⟩) (Kd.N_far (p:=⟨gb177,0,none⟩) (Kd.N_mono HO_6.out (fun k_ hk=>(⟨hk,hk.2⟩:_∧k_ ≠ gb177))) (fun _ hk=>hk.2) (.slice A176_0 ((rd_T37 x6_2 x41_3).f0).length c176_0)) (fun _ hk=>hk.2) (.slice A176_1 ((rd_T37 x6_2 x41_3).f1).length c176_1)) (fun _ hk=>⟨hk.1.1.1,⟨hk.1.1.2,hk.1.2⟩⟩)))⟩;have n1_:Aside0 (Kd.N k37 37 w28 w.heap.size (fun k_=>(w.heap.size≤k_)∧k_ ≠ gb174∧k_ ≠ gb177) (.slice (some ad176) x6_2.length co14) x6_2):=⟨(by rw [hw];exact (by (with_reducible repeat (first|apply Kd.N_alloc|apply Kd.N_drewN|apply Kd.N_drew));exact Kd.N_mono (Kd.N_far (p:=⟨gb177,1,none⟩) (Kd.N_far (p:=⟨gb177,0,none⟩) (Kd.N_mono HO_39.out (fun k_ hk=>(⟨hk,hk.2⟩:_∧k_ ≠ gb177))) (fun _ hk=>hk.2) (.slice A176_0 ((rd_T37 x6_2 x41_3).f0).length c176_0)) (fun _ hk=>hk.2) (.slice A176_1 ((rd_T37 x6_2 x41_3).f1).length c176_1)) (fun _ hk=>⟨hk.1.1.1,⟨hk.1.1.2,hk.1.2⟩⟩)))⟩;have n2_:Aside0 (Kd.V (Kd.int .i64) 3 w28 w.heap.size (fun k_=>(w.heap.size≤k_)∧some k_ ≠ (.slice (some ad176) x6_2.length co14:Value).ownBlock∧k_ ≠ gb174∧k_ ≠ gb177) (.slice A176_0 ((rd_T37 x6_2 x41_3).f0).length c176_0) ((rd_T37 x6_2 x41_3).f0)):=⟨(by rw [hw];exact (by (with_reducible repeat (first|apply Kd.V_alloc|apply Kd.V_drewN|apply Kd.V_drew));exact Kd.V_mono (Kd.V_far (p:=⟨gb177,1,none⟩) (Kd.V_far (p:=⟨gb177,0,none⟩) (Kd.V_mono HL176_0.out (fun k_ hk=>(⟨hk,hk.2⟩:_∧k_ ≠ gb177))) (fun _ hk=>hk.2) (.slice A176_0 ((rd_T37 x6_2 x41_3).f0).length c176_0)) (fun _ hk=>hk.2) (.slice A176_1 ((rd_T37 x6_2 x41_3).f1).length c176_1)) (fun _ hk=>⟨hk.1.1.1.1,⟨hk.1.1.2,⟨hk.1.1.1.2,hk.1.2⟩⟩⟩)))⟩;have n3_:Aside0 (Kd.V (Kd.int .i64) 3 w28 w.heap.size (fun k_=>(w.heap.size≤k_)∧some k_ ≠ (.slice (some ad176) x6_2.length co14:Value).ownBlock∧k_ ≠ gb174∧k_ ≠ gb177) (.slice A176_1 ((rd_T37 x6_2 x41_3).f1).length c176_1) ((rd_T37 x6_2 x41_3).f1)):=⟨(by rw [hw];exact (by (with_reducible repeat (first|apply Kd.V_alloc|apply Kd.V_drewN|apply Kd.V_drew));exact Kd.V_mono (Kd.V_far (p:=⟨gb177,1,none⟩) (Kd.V_far (p:=⟨gb177,0,none⟩) (Kd.V_mono HL176_1.out (fun k_ hk=>(⟨hk,hk.2⟩:_∧k_ ≠ gb177))) (fun _ hk=>hk.2) (.slice A176_0 ((rd_T37 x6_2 x41_3).f0).length c176_0)) (fun _ hk=>hk.2) (.slice A176_1 ((rd_T37 x6_2 x41_3).f1).length c176_1)) (fun _ hk=>⟨hk.1.1.1.1,⟨hk.1.1.2,⟨hk.1.1.1.2,hk.1.2⟩⟩⟩)))⟩;have n4_:Aside0 (w28.heap[gb174]?=some (.cells #[.slice A173_0 ((rd_T37 l0 x28_1).f0).length c173_0,.slice (some ad175) ((rd_T37 l0 x28_1).f1).length c173_1] 37 (0,0))):=⟨(by rw [hw];exact (by (with_reducible repeat (first|refine qN ?_ _|refine qW ?_|refine qL ?_ _));refine qR ?_ NB174_177.out _;(with_reducible repeat (first|refine qN ?_ _|refine qW ?_|refine qL ?_ _));refine qR ?_ NB174_177.out _;(with_reducible repeat (first|refine qN ?_ _|refine qW ?_|refine qL ?_ _));exact BK174.out))⟩;have n5_:Aside0 (w28.heap[gb177]?=some (.cells #[.slice A176_0 ((rd_T37 x6_2 x41_3).f0).length c176_0,.slice A176_1 ((rd_T37 x6_2 x41_3).f1).length c176_1] 37 (0,0))):=⟨(by rw [hw];exact (by (with_reducible repeat (first|refine qN ?_ _|refine qW ?_|refine qL ?_ _));refine qP (cs:=#[.slice A176_0 ((rd_T37 x6_2 x41_3).f0).length c176_0,.slice none 0 0]) ?_ 1 _ rfl;(with_reducible repeat (first|refine qN ?_ _|refine qW ?_|refine qL ?_ _));refine qP (cs:=#[.slice none 0 0,.slice none 0 0]) ?_ 0 _ rfl;(with_reducible repeat (first|refine qN ?_ _|refine qW ?_|refine qL ?_ _));exact BK177.out))⟩;have n6_:Aside0 (Below w.heap.size w w28):=⟨(by rw [hw];exact (by repeat (with_reducible first|exact HB.out|apply qA|apply qD|apply qO|refine qS ?_ GE174.out|refine qS ?_ GE177.out)))⟩;clear hw;clear HO_6;clear HO_39;clear HL176_0;clear HL176_1;clear BK174;clear BK177;clear HB;have HO_6:=n0_;have HO_39:=n1_;have HL176_0:=n2_;have HL176_1:=n3_;have BK174:=n4_;have BK177:=n5_;have HB:=n6_;clear n0_ n1_ n2_ n3_ n4_ n5_ n6_;clear HR176_0;have HR176_0:=qK ((Kd.V_reads' HL176_0.out).2.2);clear HR176_1;have HR176_1:=qK ((Kd.V_reads' HL176_1.out).2.2);have hcz29_0:w28.cell? ⟨gb177,0,none⟩=some (.slice A176_0 ((rd_T37 x6_2 x41_3).f0).length c176_0):=(qC BK177.out 0).trans rfl;have hcz29_1:w28.cell? ⟨gb177,1,none⟩=some (.slice A176_1 ((rd_T37 x6_2 x41_3).f1).length c176_1):=(qC BK177.out 1).trans rfl;have hfz29_0:=qF BK177.out 0;have hfz29_1:=qF BK177.out 1;have p178:0≤(0:Int):=(by omega);have q178:0 < (((rd_T37 x6_2 x41_3).f1).length:Int):=of_decide_eq_true (by first|(with_reducible assumption)|assumption);obtain ⟨ad178,e178,hx178_0⟩:=Kd.at_int (by repeat (first|(with_reducible exact HR176_1.out)|(with_reducible first|refine cL ?_ _|refine cN ?_ _|refine cW ?_)|exact HR176_1.out)) 0 p178 q178;cases e178;have qi178:(0 < ((rd_T37 x6_2 x41_3).f1).length)=True:=eq_true (by omega);(try rw [show ((0:Int)).toNat=0 from rfl] at hx178_0);(try rw [Addr.add_zero'] at hx178_0);replace p178:=eq_true p178;replace q178:=eq_true q178;have hcz30_0:w28.cell? ⟨gb174,0,none⟩=some (.slice A173_0 ((rd_T37 l0 x28_1).f0).length c173_0):=(qC BK174.out 0).trans rfl;have hcz30_1:w28.cell? ⟨gb174,1,none⟩=some (.slice (some ad175) ((rd_T37 l0 x28_1).f1).length c173_1):=(qC BK174.out 1).trans rfl;have hfz30_0:=qF BK174.out 0;have hfz30_1:=qF BK174.out 1)|(go_at_call 20;(with_reducible refine (spec_l7Same.calls k3 _ _ ((rd_T37 x6_2 x41_3).f0) _ _ ((rd_T37 l0 x28_1).f0) t179 _ ?side1 ?side2 ?side3 ?side4 A24.out).mono ?_);(case side1=>repeat (first|exact (by repeat (first|(with_reducible exact HR176_0.out)|(with_reducible first|refine cL ?_ _|refine cN ?_ _|refine cW ?_)|exact HR176_0.out))|(with_reducible first|refine cL ?_ _|refine cN ?_ _|refine cW ?_)));(case side2=>exact HC176_0.out);(case side3=>repeat (first|exact (cB HR173_0.out HB.out)|(with_reducible first|refine cL ?_ _|refine cN ?_ _|refine cW ?_)));(case side4=>exact HC173_0.out);rintro e w' ⟨rfl,⟨nd,rfl⟩⟩))
                    go_roundg k3
                    case measure=>have:=HK1.out;have:=HK2.out;have:=HK3.out;omega
                    case rel=>exact ⟨(t179),(wrap64 (x41_3 + 1)),(by first|rfl|(simp;done)|(simp [*];done)),(by first|rfl|(simp;done)|(simp [*];done)),H',⟨by have:=HK1.out;have:=HK2.out;have:=HK3.out;omega⟩,⟨by (with_reducible repeat (first|apply Kd.N_alloc|apply Kd.N_drewN|apply Kd.N_drew));exact Kd.N_mono HO_6.out (fun _ hk=>⟨hk.1,hk.2.1⟩)⟩,⟨by (with_reducible repeat (first|apply Kd.N_alloc|apply Kd.N_drewN|apply Kd.N_drew));exact Kd.N_mono HO_39.out (fun _ hk=>⟨hk.1,hk.2.1⟩)⟩,⟨by (with_reducible repeat (first|refine qN ?_ _|refine qW ?_|refine qL ?_ _));exact BK174.out⟩,⟨by repeat (first|(with_reducible first|exact HB.out|apply qA|apply qD|apply qO|refine qS ?_ GE174.out|refine qS ?_ GE177.out)|exact HB.out)⟩⟩
                   ·rw [if_neg c23] at H;have c23b0:((rd ((rd_T37 x6_2 x41_3).f1) 0) == (rd ((rd_T37 l0 x28_1).f1) x35_2))=false:=beq_eq_false_iff_ne.mpr c23;have c23b1:((rd ((rd_T37 x6_2 x41_3).f1) 0) != (rd ((rd_T37 l0 x28_1).f1) x35_2))=true:=bne_iff_ne.mpr c23;have H':=qK H;clear H;have p176:0≤(x41_3:Int):=of_decide_eq_true (by first|(with_reducible assumption)|assumption);have q176:x41_3 < (x6_2.length:Int):=of_decide_eq_true (by first|(with_reducible assumption)|assumption);obtain ⟨ad176,A176_0,c176_0,A176_1,c176_1,e176,hx176_0,hx176_1,hl176_0,hi176_0,hl176_1,hi176_1⟩:=at_T37 (Kd.N_reads' HO_39.out).2.2 x41_3 p176 q176;cases e176
                    obtain ⟨ce176,hce176,hMe176,hcc176⟩:=Kd.N_get HO_39.out z37 x41_3 p176 (by first|exact q176|exact of_decide_eq_true (by first|(with_reducible assumption)|assumption)|(have e_:=(Kd.N_reads' HO_39.out).1;omega));obtain ⟨ua176_0,uc176_0,ua176_1,uc176_1,rfl,ul176_0,ge176_0,ul176_1,ge176_1⟩:=k37_openF hMe176;have hv176_0:=hcc176 0 _ rfl;rw [Nat.add_zero] at hv176_0;replace hv176_0:=Option.some.inj (hv176_0.symm.trans hx176_0);injection hv176_0 with hva_ hvn_ hvc_
                    rw [hva_] at ge176_0;rw [hvc_] at ul176_0;have HL176_0:=qK (show Kd.V (Kd.int .i64) 3 _ w.heap.size _ _ ((rd_T37 x6_2 x41_3).f0) from Kd.V_mk ul176_0 ge176_0);clear hva_ hvn_ hvc_ ge176_0 ul176_0;have hv176_1:=hcc176 1 _ rfl;rw [add_field _ _ 1 (by omega)] at hv176_1;replace hv176_1:=Option.some.inj (hv176_1.symm.trans hx176_1);injection hv176_1 with hva_ hvn_ hvc_
                    rw [hva_] at ge176_1;rw [hvc_] at ul176_1;have HL176_1:=qK (show Kd.V (Kd.int .i64) 3 _ w.heap.size _ _ ((rd_T37 x6_2 x41_3).f1) from Kd.V_mk ul176_1 ge176_1);clear hva_ hvn_ hvc_ ge176_1 ul176_1;clear hcc176 hce176;have HR176_0:=qK hi176_0;have HC176_0:=qK hl176_0;clear hi176_0 hl176_0;have HR176_1:=qK hi176_1;have HC176_1:=qK hl176_1;clear hi176_1 hl176_1;replace p176:=eq_true p176;replace q176:=eq_true q176;go_wp2_with (first|((with_reducible refine gate_dst (N:=13) rfl ?_);refine box_event ?hg (N:=13) ?hd (cs:=#[.slice none 0 0,.slice none 0 0]) (t:=37) ?hr ?_;(case hd=>rfl);(case hg=>rfl);(case hr=>(go_simp;try rfl));intro gb177 hg w31 hbox hb;have n0_:=qK (Kd.N_below (Kd.N_elderB (by (with_reducible repeat (first|apply Kd.N_alloc|apply Kd.N_drewN|apply Kd.N_drew));exact HO_6.out) gb177 (Nat.le_of_eq hg.symm)) hb);have n1_:=qK (Kd.N_below (Kd.N_elderB (by (with_reducible repeat (first|apply Kd.N_alloc|apply Kd.N_drewN|apply Kd.N_drew));exact HO_39.out) gb177 (Nat.le_of_eq hg.symm)) hb);have n2_:=qK (Kd.V_below (Kd.V_elderB (by (with_reducible repeat (first|apply Kd.V_alloc|apply Kd.V_drewN|apply Kd.V_drew));exact HL176_0.out) gb177 (Nat.le_of_eq hg.symm)) hb);have n3_:=qK (Kd.V_below (Kd.V_elderB (by (with_reducible repeat (first|apply Kd.V_alloc|apply Kd.V_drewN|apply Kd.V_drew));exact HL176_1.out) gb177 (Nat.le_of_eq hg.symm)) hb);have n4_:=qK (qB (g:=gb174) (o:=_) (by (with_reducible repeat (first|refine qN ?_ _|refine qW ?_|refine qL ?_ _));exact BK174.out) hb);have n5_:=qK (cB (by repeat (first|(with_reducible exact HR176_0.out)|(with_reducible first|refine cL ?_ _|refine cN ?_ _|refine cW ?_)|exact HR176_0.out)) hb);have n6_:=qK (cB (by repeat (first|(with_reducible exact HR176_1.out)|(with_reducible first|refine cL ?_ _|refine cN ?_ _|refine cW ?_)|exact HR176_1.out)) hb);have n7_:=qK (qT (by repeat (with_reducible first|exact HB.out|apply qA|apply qD|apply qO|refine qS ?_ GE174.out)) hb);have n8_:=qK (hbox);have n9_:=qK ((by rw [hg];exact (qZ (by repeat (with_reducible first|exact HB.out|apply qA|apply qD|apply qO|refine qS ?_ GE174.out))):w.heap.size≤gb177));have n10_:=qK ((by rw [hg];exact (qZ (by repeat (with_reducible first|exact HB.out|apply qA|apply qD|apply qO|refine qS ?_ GE174.out))):w.heap.size≤gb177));have n11_:=qK ((by rw [hg];exact Nat.ne_of_lt (blk_lt (g:=gb174) (o:=_) (by (with_reducible repeat (first|refine qN ?_ _|refine qW ?_|refine qL ?_ _));exact BK174.out)):gb174 ≠ gb177));have n12_:=qK ((by rw [hg];exact Nat.ne_of_gt (blk_lt (g:=gb174) (o:=_) (by (with_reducible repeat (first|refine qN ?_ _|refine qW ?_|refine qL ?_ _));exact BK174.out)):gb177 ≠ gb174));clear HO_6;clear HO_39;clear HL176_0;clear HL176_1;clear BK174;clear HR176_0;clear HR176_1;clear HB;have HO_6:=n0_;have HO_39:=n1_;have HL176_0:=n2_;have HL176_1:=n3_;have BK174:=n4_;have HR176_0:=n5_;have HR176_1:=n6_;have HB:=n7_;have BK177:=n8_;have GW177:=n9_;have GE177:=n10_;have NB174_177:=n11_;have NB177_174:=n12_;clear n0_ n1_ n2_ n3_ n4_ n5_ n6_ n7_ n8_ n9_ n10_ n11_ n12_;clear hb hbox hg;have hnb32:=NB177_174.out;have hnc32:=NB174_177.out;have hcz33_0:w31.cell? ⟨gb177,0,none⟩=some (.slice none 0 0):=(qC BK177.out 0).trans rfl;have hcz33_1:w31.cell? ⟨gb177,1,none⟩=some (.slice none 0 0):=(qC BK177.out 1).trans rfl;have hfz33_0:=qF BK177.out 0;have hfz33_1:=qF BK177.out 1)|((with_reducible refine gate_store (t:=37) (p:=13) rfl ?_);refine store_event (t:=37) (p:=13) (v:=?vo_w34) (w1:=((w31.setCell ⟨gb177,0,none⟩ (.slice A176_0 ((rd_T37 x6_2 x41_3).f0).length c176_0)).setCell ⟨gb177,1,none⟩ (.slice A176_1 ((rd_T37 x6_2 x41_3).f1).length c176_1))) ?hg ?ho ?hn ?hr ?_;(case ho=>rfl);(case hg=>rfl);(case hn=>rfl);(case hr=>(go_simp;try rfl));intro w34 hw;have n0_:Aside0 (Kd.N k37 37 w34 w.heap.size (fun k_=>(w.heap.size≤k_)∧k_ ≠ gb174∧k_ ≠ gb177) (.slice (some ad176) x6_2.length co14) x6_2):=⟨(by rw [hw];exact (by (with_reducible repeat (first|apply Kd.N_alloc|apply Kd.N_drewN|apply Kd.N_drew));exact Kd.N_mono (Kd.N_far (p:=⟨gb177,1,none⟩) (Kd.N_far (p:=⟨gb177,0,none⟩) (Kd.N_mono HO_6.out (fun k_ hk=>(⟨hk,hk.2⟩:_∧k_ ≠ gb177))) (fun _ hk=>hk.2) (.slice A176_0 ((rd_T37 x6_2 x41_3).f0).length c176_0)) (fun _ hk=>hk.2) (.slice A176_1 ((rd_T37 x6_2 x41_3).f1).length c176_1)) (fun _ hk=>⟨hk.1.1.1,⟨hk.1.1.2,hk.1.2⟩⟩)))⟩;have n1_:Aside0 (Kd.N k37 37 w34 w.heap.size (fun k_=>(w.heap.size≤k_)∧k_ ≠ gb174∧k_ ≠ gb177) (.slice (some ad176) x6_2.length co14) x6_2):=⟨(by rw [hw];exact (by (with_reducible repeat (first|apply Kd.N_alloc|apply Kd.N_drewN|apply Kd.N_drew));exact Kd.N_mono (Kd.N_far (p:=⟨gb177,1,none⟩) (Kd.N_far (p:=⟨gb177,0,none⟩) (Kd.N_mono HO_39.out (fun k_ hk=>(⟨hk,hk.2⟩:_∧k_ ≠ gb177))) (fun _ hk=>hk.2) (.slice A176_0 ((rd_T37 x6_2 x41_3).f0).length c176_0)) (fun _ hk=>hk.2) (.slice A176_1 ((rd_T37 x6_2 x41_3).f1).length c176_1)) (fun _ hk=>⟨hk.1.1.1,⟨hk.1.1.2,hk.1.2⟩⟩)))⟩;have n2_:Aside0 (Kd.V (Kd.int .i64) 3 w34 w.heap.size (fun k_=>(w.heap.size≤k_)∧some k_ ≠ (.slice (some ad176) x6_2.length co14:Value).ownBlock∧k_ ≠ gb174∧k_ ≠ gb177) (.slice A176_0 ((rd_T37 x6_2 x41_3).f0).length c176_0) ((rd_T37 x6_2 x41_3).f0)):=⟨(by rw [hw];exact (by (with_reducible repeat (first|apply Kd.V_alloc|apply Kd.V_drewN|apply Kd.V_drew));exact Kd.V_mono (Kd.V_far (p:=⟨gb177,1,none⟩) (Kd.V_far (p:=⟨gb177,0,none⟩) (Kd.V_mono HL176_0.out (fun k_ hk=>(⟨hk,hk.2⟩:_∧k_ ≠ gb177))) (fun _ hk=>hk.2) (.slice A176_0 ((rd_T37 x6_2 x41_3).f0).length c176_0)) (fun _ hk=>hk.2) (.slice A176_1 ((rd_T37 x6_2 x41_3).f1).length c176_1)) (fun _ hk=>⟨hk.1.1.1.1,⟨hk.1.1.2,⟨hk.1.1.1.2,hk.1.2⟩⟩⟩)))⟩;have n3_:Aside0 (Kd.V (Kd.int .i64) 3 w34 w.heap.size (fun k_=>(w.heap.size≤k_)∧some k_ ≠ (.slice (some ad176) x6_2.length co14:Value).ownBlock∧k_ ≠ gb174∧k_ ≠ gb177) (.slice A176_1 ((rd_T37 x6_2 x41_3).f1).length c176_1) ((rd_T37 x6_2 x41_3).f1)):=⟨(by rw [hw];exact (by (with_reducible repeat (first|apply Kd.V_alloc|apply Kd.V_drewN|apply Kd.V_drew));exact Kd.V_mono (Kd.V_far (p:=⟨gb177,1,none⟩) (Kd.V_far (p:=⟨gb177,0,none⟩) (Kd.V_mono HL176_1.out (fun k_ hk=>(⟨hk,hk.2⟩:_∧k_ ≠ gb177))) (fun _ hk=>hk.2) (.slice A176_0 ((rd_T37 x6_2 x41_3).f0).length c176_0)) (fun _ hk=>hk.2) (.slice A176_1 ((rd_T37 x6_2 x41_3).f1).length c176_1)) (fun _ hk=>⟨hk.1.1.1.1,⟨hk.1.1.2,⟨hk.1.1.1.2,hk.1.2⟩⟩⟩)))⟩;have n4_:Aside0 (w34.heap[gb174]?=some (.cells #[.slice A173_0 ((rd_T37 l0 x28_1).f0).length c173_0,.slice (some ad175) ((rd_T37 l0 x28_1).f1).length c173_1] 37 (0,0))):=⟨(by rw [hw];exact (by (with_reducible repeat (first|refine qN ?_ _|refine qW ?_|refine qL ?_ _));refine qR ?_ NB174_177.out _;(with_reducible repeat (first|refine qN ?_ _|refine qW ?_|refine qL ?_ _));refine qR ?_ NB174_177.out _;(with_reducible repeat (first|refine qN ?_ _|refine qW ?_|refine qL ?_ _));exact BK174.out))⟩;have n5_:Aside0 (w34.heap[gb177]?=some (.cells #[.slice A176_0 ((rd_T37 x6_2 x41_3).f0).length c176_0,.slice A176_1 ((rd_T37 x6_2 x41_3).f1).length c176_1] 37 (0,0))):=⟨(by rw [hw];exact (by (with_reducible repeat (first|refine qN ?_ _|refine qW ?_|refine qL ?_ _));refine qP (cs:=#[.slice A176_0 ((rd_T37 x6_2 x41_3).f0).length c176_0,.slice none 0 0]) ?_ 1 _ rfl;(with_reducible repeat (first|refine qN ?_ _|refine qW ?_|refine qL ?_ _));refine qP (cs:=#[.slice none 0 0,.slice none 0 0]) ?_ 0 _ rfl;(with_reducible repeat (first|refine qN ?_ _|refine qW ?_|refine qL ?_ _));exact BK177.out))⟩;have n6_:Aside0 (Below w.heap.size w w34):=⟨(by rw [hw];exact (by repeat (with_reducible first|exact HB.out|apply qA|apply qD|apply qO|refine qS ?_ GE174.out|refine qS ?_ GE177.out)))⟩;clear hw;clear HO_6;clear HO_39;clear HL176_0;clear HL176_1;clear BK174;clear BK177;clear HB;have HO_6:=n0_;have HO_39:=n1_;have HL176_0:=n2_;have HL176_1:=n3_;have BK174:=n4_;have BK177:=n5_;have HB:=n6_;clear n0_ n1_ n2_ n3_ n4_ n5_ n6_;clear HR176_0;have HR176_0:=qK ((Kd.V_reads' HL176_0.out).2.2);clear HR176_1;have HR176_1:=qK ((Kd.V_reads' HL176_1.out).2.2);have hcz35_0:w34.cell? ⟨gb177,0,none⟩=some (.slice A176_0 ((rd_T37 x6_2 x41_3).f0).length c176_0):=(qC BK177.out 0).trans rfl;have hcz35_1:w34.cell? ⟨gb177,1,none⟩=some (.slice A176_1 ((rd_T37 x6_2 x41_3).f1).length c176_1):=(qC BK177.out 1).trans rfl;have hfz35_0:=qF BK177.out 0;have hfz35_1:=qF BK177.out 1;have p178:0≤(0:Int):=(by omega);have q178:0 < (((rd_T37 x6_2 x41_3).f1).length:Int):=of_decide_eq_true (by first|(with_reducible assumption)|assumption);obtain ⟨ad178,e178,hx178_0⟩:=Kd.at_int (by repeat (first|(with_reducible exact HR176_1.out)|(with_reducible first|refine cL ?_ _|refine cN ?_ _|refine cW ?_)|exact HR176_1.out)) 0 p178 q178;cases e178;have qi178:(0 < ((rd_T37 x6_2 x41_3).f1).length)=True:=eq_true (by omega);(try rw [show ((0:Int)).toNat=0 from rfl] at hx178_0);(try rw [Addr.add_zero'] at hx178_0);replace p178:=eq_true p178;replace q178:=eq_true q178))
                    go_roundg k3
                    case measure=>have:=HK1.out;have:=HK2.out;have:=HK3.out;omega
                    case rel=>exact ⟨(false),(wrap64 (x41_3 + 1)),(by first|rfl|(simp;done)|(simp [*];done)),(by first|rfl|(simp;done)|(simp [*];done)),H',⟨by have:=HK1.out;have:=HK2.out;have:=HK3.out;omega⟩,⟨by (with_reducible repeat (first|apply Kd.N_alloc|apply Kd.N_drewN|apply Kd.N_drew));exact Kd.N_mono HO_6.out (fun _ hk=>⟨hk.1,hk.2.1⟩)⟩,⟨by (with_reducible repeat (first|apply Kd.N_alloc|apply Kd.N_drewN|apply Kd.N_drew));exact Kd.N_mono HO_39.out (fun _ hk=>⟨hk.1,hk.2.1⟩)⟩,⟨by (with_reducible repeat (first|refine qN ?_ _|refine qW ?_|refine qL ?_ _));exact BK174.out⟩,⟨by repeat (first|(with_reducible first|exact HB.out|apply qA|apply qD|apply qO|refine qS ?_ GE174.out|refine qS ?_ GE177.out)|exact HB.out)⟩⟩
                  ·rw [if_neg c22] at H;exact absurd H (by simp)
                ·rw [if_neg c17] at H;exact absurd H (by simp)
               ·rw [if_neg c16] at H;exact absurd H (by simp)
              ·rw [if_neg c15] at H;have c15b0:decide (x41_3 < (x6_2.length:Int))=false:=decide_eq_false c15;clear c15;by_cases c36:x11_3=true
               ·subst c36;have H1:(spec_CoverOf.l1 k3 a1 x6_2 l0 (l0.length:Int) x28_1 ((rd_T37 l0 x28_1).f1) (((rd_T37 l0 x28_1).f1).length:Int) (wrap64 (x35_2 + 1)) ((rd_T37 l0 x28_1).f0) ((rd_T37 l0 x28_1).f1))=some (r1,r2):=by rw [if_pos rfl] at H;exact H
                clear H;have H:=H1;clear H1;have H':=qK H;clear H;go_wp2
                go_roundg k3
                case measure=>have:=HK1.out;have:=HK2.out;have:=HK3.out;omega
                case rel=>exact ⟨(x6_2),(wrap64 (x35_2 + 1)),(by first|rfl|(simp;done)|(simp [*];done)),H',⟨by have:=HK1.out;have:=HK2.out;have:=HK3.out;omega⟩,⟨by (with_reducible repeat (first|apply Kd.N_alloc|apply Kd.N_drewN|apply Kd.N_drew));exact HO_6.out⟩,⟨by (with_reducible repeat (first|refine qN ?_ _|refine qW ?_|refine qL ?_ _));exact BK174.out⟩,⟨by repeat (first|(with_reducible first|exact HB.out|apply qA|apply qD|apply qO|refine qS ?_ GE174.out)|exact HB.out)⟩⟩
               ·replace c36:=Bool.eq_false_iff.mpr c36;subst c36;have H1:((some (([]:List Int):List Int)).bind fun y180=>(if y180.length + ((rd_T37 l0 x28_1).f0).length < 17592186044416 then (if x6_2.length < 2932031007402 then (spec_CoverOf.l1 k3 a1 (x6_2 ++ [(⟨(y180 ++ ((rd_T37 l0 x28_1).f0)),(([(rd ((rd_T37 l0 x28_1).f1) x35_2)]:List Int))⟩:S37)]) l0 (l0.length:Int) x28_1 ((rd_T37 l0 x28_1).f1) (((rd_T37 l0 x28_1).f1).length:Int) (wrap64 (x35_2 + 1)) ((rd_T37 l0 x28_1).f0) ((rd_T37 l0 x28_1).f1)) else (none)) else (none)))=some (r1,r2):=by rw [if_neg (show ¬ (false=true) by decide)] at H;exact H
                clear H;have H:=H1;clear H1;obtain ⟨y180,hy180⟩:∃ y_:List Int,y_=(([]:List Int)):=⟨_,rfl⟩;replace H:(if y180.length + ((rd_T37 l0 x28_1).f0).length < 17592186044416 then (if x6_2.length < 2932031007402 then (spec_CoverOf.l1 k3 a1 (x6_2 ++ [(⟨(y180 ++ ((rd_T37 l0 x28_1).f0)),(([(rd ((rd_T37 l0 x28_1).f1) x35_2)]:List Int))⟩:S37)]) l0 (l0.length:Int) x28_1 ((rd_T37 l0 x28_1).f1) (((rd_T37 l0 x28_1).f1).length:Int) (wrap64 (x35_2 + 1)) ((rd_T37 l0 x28_1).f0) ((rd_T37 l0 x28_1).f1)) else (none)) else (none))=some (r1,r2):=by first|(rw [hy180];with_reducible exact H)|(have H2_:=(Option.bind_some _ _).symm.trans H;rw [hy180];with_reducible exact H2_)|(have H2_:=(Option.bind_some _ _).symm.trans H;with_reducible exact H2_)|with_reducible exact H|(rw [hy180];exact H)|exact H
                have Ny180:=qK hy180;clear hy180;by_cases c37:y180.length + ((rd_T37 l0 x28_1).f0).length < 17592186044416
                ·rw [if_pos c37] at H;have LMc37:=qK c37;clear c37;obtain ⟨y183,hy183⟩:∃ y_:List Int,y_=(y180 ++ ((rd_T37 l0 x28_1).f0)):=⟨_,rfl⟩;replace H:(if x6_2.length < 2932031007402 then (spec_CoverOf.l1 k3 a1 (x6_2 ++ [(⟨y183,(([(rd ((rd_T37 l0 x28_1).f1) x35_2)]:List Int))⟩:S37)]) l0 (l0.length:Int) x28_1 ((rd_T37 l0 x28_1).f1) (((rd_T37 l0 x28_1).f1).length:Int) (wrap64 (x35_2 + 1)) ((rd_T37 l0 x28_1).f0) ((rd_T37 l0 x28_1).f1)) else (none))=some (r1,r2):=by first|(rw [hy183];with_reducible exact H)|(have H2_:=(Option.bind_some _ _).symm.trans H;rw [hy183];with_reducible exact H2_)|(have H2_:=(Option.bind_some _ _).symm.trans H;with_reducible exact H2_)|with_reducible exact H|(rw [hy183];exact H)|exact H
                 have Ny183:=qK hy183;clear hy183;obtain ⟨y186,hy186⟩:∃ y_:List Int,y_=(([(rd ((rd_T37 l0 x28_1).f1) x35_2)]:List Int)):=⟨_,rfl⟩;replace H:(if x6_2.length < 2932031007402 then (spec_CoverOf.l1 k3 a1 (x6_2 ++ [(⟨y183,y186⟩:S37)]) l0 (l0.length:Int) x28_1 ((rd_T37 l0 x28_1).f1) (((rd_T37 l0 x28_1).f1).length:Int) (wrap64 (x35_2 + 1)) ((rd_T37 l0 x28_1).f0) ((rd_T37 l0 x28_1).f1)) else (none))=some (r1,r2):=by first|(rw [hy186];with_reducible exact H)|(have H2_:=(Option.bind_some _ _).symm.trans H;rw [hy186];with_reducible exact H2_)|(have H2_:=(Option.bind_some _ _).symm.trans H;with_reducible exact H2_)|with_reducible exact H|(rw [hy186];exact H)|exact H
                 have Ny186:=qK hy186;clear hy186;by_cases c38:x6_2.length < 2932031007402
                 ·rw [if_pos c38] at H;have LMc38:=qK c38;clear c38;obtain ⟨y189,hy189⟩:∃ y_:List (S37),y_=(x6_2 ++ [(⟨y183,y186⟩:S37)]):=⟨_,rfl⟩;replace H:(spec_CoverOf.l1 k3 a1 y189 l0 (l0.length:Int) x28_1 ((rd_T37 l0 x28_1).f1) (((rd_T37 l0 x28_1).f1).length:Int) (wrap64 (x35_2 + 1)) ((rd_T37 l0 x28_1).f0) ((rd_T37 l0 x28_1).f1))=some (r1,r2):=by first|(rw [hy189];with_reducible exact H)|(have H2_:=(Option.bind_some _ _).symm.trans H;rw [hy189];with_reducible exact H2_)|(have H2_:=(Option.bind_some _ _).symm.trans H;with_reducible exact H2_)|with_reducible exact H|(rw [hy189];exact H)|exact H
                  have Ny189:=qK hy189;clear hy189;have H':=qK H;clear H;go_wp2_with (first|((with_reducible refine gate_dst (N:=65) rfl ?_);refine Kd.R_lit (Kd.int .i64) _ 3 ?hg (N:=65) ?hd (xs:=([]:List Int)) (inner:=[]) (ok:=fun _=>True) (okp:=fun _=>True) ?hr ?hp (fun _ hk=>hk) trivial (Below.refl _ _) (Nat.le_refl _) (by simp) ?_;(case hd=>rfl);(case hg=>rfl);(case hr=>(go_simp;try rfl));(case hp=>exact (Reps.none _ _));intro v181 w39 ho40 hb hg_ hnew_;clear hg_ hnew_;(first|rw [← Ny180.out] at ho40|(simp only [Int.reduceToNat] at ho40;rw [← Ny180.out] at ho40));have n0_:=qK (Kd.N_elder' (by (with_reducible repeat (first|apply Kd.N_alloc|apply Kd.N_drewN|apply Kd.N_drew));exact HO_6.out) (Kd.R_base ho40) hb);have n1_:=qK (Kd.N_elder' (by (with_reducible repeat (first|apply Kd.N_alloc|apply Kd.N_drewN|apply Kd.N_drew));exact HO_39.out) (Kd.R_base ho40) hb);have n2_:=qK (Kd.R_lower (Kd.R_newM (M:=fun k_=>(w.heap.size≤k_)) ho40 (qZ (by repeat (with_reducible first|exact HB.out|apply qA|apply qD|apply qO|refine qS ?_ GE174.out))) (fun k_ h_=>h_)) (qZ (by repeat (with_reducible first|exact HB.out|apply qA|apply qD|apply qO|refine qS ?_ GE174.out))));have n3_:=qK (qB (g:=gb174) (o:=_) (by (with_reducible repeat (first|refine qN ?_ _|refine qW ?_|refine qL ?_ _));exact BK174.out) hb);have n4_:=qK (qT (by repeat (with_reducible first|exact HB.out|apply qA|apply qD|apply qO|refine qS ?_ GE174.out)) hb);clear HO_6;clear HO_39;clear BK174;clear HB;have HO_6:=n0_;have HO_39:=n1_;have HO182:=n2_;have BK174:=n3_;have HB:=n4_;clear n0_ n1_ n2_ n3_ n4_;clear hb ho40;have hcz41_0:w39.cell? ⟨gb174,0,none⟩=some (.slice A173_0 ((rd_T37 l0 x28_1).f0).length c173_0):=(qC BK174.out 0).trans rfl;have hcz41_1:w39.cell? ⟨gb174,1,none⟩=some (.slice (some ad175) ((rd_T37 l0 x28_1).f1).length c173_1):=(qC BK174.out 1).trans rfl;have hfz41_0:=qF BK174.out 0;have hfz41_1:=qF BK174.out 1)|((with_reducible refine gate_builtin (b:=.append) (xs:=#[.tmp 65,.tmp 67]) rfl ?_);at_builtin;refine Kd.R_append_rows (Kd.int .i64) (w0:=w) w.heap.size rfl (.tmp 65) (.tmp 67) 35 3 (.int .i64 0) 8 rfl Try.underlying35 info3 rfl (by decide) (by omega) v181 y180 ((rd_T37 l0 x28_1).f0) _ _ _ (fun k_=>(w.heap.size≤k_)) (fun _=>False) rfl rfl ?aO ?aR (fun _ _ h=>h) (fun _ h=>h.elim) ?aF ?aB ?aS ?aL ?_;(case aR=>repeat (first|exact (cB HR173_0.out HB.out)|(with_reducible first|refine cL ?_ _|refine cN ?_ _|refine cW ?_)));(case aB=>exact (by repeat (with_reducible first|exact HB.out|apply qA|apply qD|apply qO|refine qS ?_ GE174.out)));(case aF=>exact (fun k_ hk=>(Nat.le_trans (qZ (by repeat (with_reducible first|exact HB.out|apply qA|apply qD|apply qO|refine qS ?_ GE174.out))) hk)));(case aO=>exact (by (with_reducible repeat (first|apply rL|apply rN|apply rW));exact Kd.R_mono HO182.out (fun _ hk=>hk.1)));(case aS=>exact (qZ (by repeat (with_reducible first|exact HB.out|apply qA|apply qD|apply qO|refine qS ?_ GE174.out))));(case aL=>have:=LMc37.out;omega);intro v184 w42 ho hb hg hat;rw [← Ny183.out] at ho;have n0_:=qK (Kd.N_afterv (ok:=(fun k_=>(w.heap.size≤k_)∧k_ ≠ gb174)) (by (with_reducible repeat (first|apply Kd.N_alloc|apply Kd.N_drewN|apply Kd.N_drew));exact HO_6.out) hg hat);have n1_:=qK (Kd.N_afterv (ok:=(fun k_=>(w.heap.size≤k_)∧k_ ≠ gb174)) (by (with_reducible repeat (first|apply Kd.N_alloc|apply Kd.N_drewN|apply Kd.N_drew));exact HO_39.out) hg hat);have n2_:=qK (blk_grown (g:=gb174) (o:=_) (by (with_reducible repeat (first|refine qN ?_ _|refine qW ?_|refine qL ?_ _));exact BK174.out) hg (Kd.R_ne HO182.out BK174.out (by decide)));have n3_:=qK (hb);have n4_:=qK (ho);clear HO_6;clear HO_39;clear BK174;clear HB;clear HO182;have HO_6:=n0_;have HO_39:=n1_;have BK174:=n2_;have HB:=n3_;have HO185:=n4_;clear n0_ n1_ n2_ n3_ n4_;clear ho hb hg hat)|((with_reducible refine gate_dst (N:=70) rfl ?_);refine Kd.R_lit (Kd.int .i64) _ 3 ?hg (N:=70) ?hd (xs:=([(rd ((rd_T37 l0 x28_1).f1) x35_2)]:List Int)) (inner:=[.int .i64 (rd ((rd_T37 l0 x28_1).f1) x35_2)]) (ok:=fun _=>True) (okp:=fun _=>True) ?hr ?hp (fun _ hk=>hk) trivial (Below.refl _ _) (Nat.le_refl _) (by simp) ?_;(case hd=>rfl);(case hg=>rfl);(case hr=>(go_simp;try rfl));(case hp=>exact (Reps.one (show Kd.M (Kd.int .i64) _ _ _ (rd ((rd_T37 l0 x28_1).f1) x35_2) [.int .i64 (rd ((rd_T37 l0 x28_1).f1) x35_2)] from rfl) (Reps.none _ _)));intro v187 w43 ho44 hb hg_ hnew_;clear hg_ hnew_;(first|rw [← Ny186.out] at ho44|(simp only [Int.reduceToNat] at ho44;rw [← Ny186.out] at ho44));have n0_:=qK (Kd.N_elder' (by (with_reducible repeat (first|apply Kd.N_alloc|apply Kd.N_drewN|apply Kd.N_drew));exact HO_6.out) (Kd.R_base ho44) hb);have n1_:=qK (Kd.N_elder' (by (with_reducible repeat (first|apply Kd.N_alloc|apply Kd.N_drewN|apply Kd.N_drew));exact HO_39.out) (Kd.R_base ho44) hb);have n2_:=qK (Kd.R_elder' (by (with_reducible repeat (first|apply rL|apply rN|apply rW));exact HO185.out) (Kd.R_base ho44) hb);have n3_:=qK (Kd.R_lower (Kd.R_new' (Kd.R_newM (M:=fun k_=>(w.heap.size≤k_)) ho44 (qZ (by repeat (with_reducible first|exact HB.out|apply qA|apply qD|apply qO|refine qS ?_ GE174.out))) (fun k_ h_=>h_)) (Kd.R_lt (by (with_reducible repeat (first|apply rL|apply rN|apply rW));exact HO185.out))) (qZ (by repeat (with_reducible first|exact HB.out|apply qA|apply qD|apply qO|refine qS ?_ GE174.out))));have n4_:=qK (qB (g:=gb174) (o:=_) (by (with_reducible repeat (first|refine qN ?_ _|refine qW ?_|refine qL ?_ _));exact BK174.out) hb);have n5_:=qK (qT (by repeat (with_reducible first|exact HB.out|apply qA|apply qD|apply qO|refine qS ?_ GE174.out)) hb);clear HO_6;clear HO_39;clear HO185;clear BK174;clear HB;have HO_6:=n0_;have HO_39:=n1_;have HO185:=n2_;have HO188:=n3_;have BK174:=n4_;have HB:=n5_;clear n0_ n1_ n2_ n3_ n4_ n5_;clear hb ho44;obtain ⟨Ao45,co45,eo45⟩:=Kd.R_slice HO188.out;subst eo45;obtain ⟨Ao46,co46,eo46⟩:=Kd.R_slice HO185.out;subst eo46)|((with_reducible refine gate_builtin (b:=.append) (xs:=#[.tmp 64,.tmp 72]) rfl ?_);at_builtin;refine Kd.N_append k37 (w0:=w) w.heap.size rfl (.tmp 64) (.tmp 72) 24 37 (.agg #[(.slice none 0 0),(.slice none 0 0)]) 48 rfl Try.underlying24 info37 rfl (by decide) (by omega) (.slice Ao14 x6_2.length co14) x6_2 (⟨y183,y186⟩:S37) [.slice Ao46 y183.length co46,.slice Ao45 y186.length co45] (fun k_=>(w.heap.size≤k_)∧k_ ≠ gb174) (fun k_=>((fun k_=>(w.heap.size≤k_)∧k_ ≠ gb174)) k_∧some k_ ≠ (.slice Ao14 x6_2.length co14:Value).ownBlock) rfl rfl ?aP (fun _ hk=>hk) ?aF ?aO ?aB ?aS ?aL ?_;(case aP=>exact (k37_mkF _ _ (⟨y183,y186⟩:S37) (Kd.R_reads' (Kd.R_mono (ok':=(fun k_=>((fun k_=>(w.heap.size≤k_)∧k_ ≠ gb174)) k_∧some k_ ≠ (.slice Ao14 x6_2.length co14:Value).ownBlock)) (Kd.R_types (Kd.R_apart' (HO185.out) (Kd.N_typed HO_6.out) (by decide)) BK174.out (by decide)) (fun k_ hk=>⟨⟨hk.1.1.1,hk.2⟩,hk.1.2⟩))).2.1 (Kd.R_F (Kd.R_mono (ok':=(fun k_=>((fun k_=>(w.heap.size≤k_)∧k_ ≠ gb174)) k_∧some k_ ≠ (.slice Ao14 x6_2.length co14:Value).ownBlock)) (Kd.R_types (Kd.R_apart' (HO185.out) (Kd.N_typed HO_6.out) (by decide)) BK174.out (by decide)) (fun k_ hk=>⟨⟨hk.1.1.1,hk.2⟩,hk.1.2⟩))) (Kd.R_reads' (Kd.R_mono (ok':=(fun k_=>((fun k_=>(w.heap.size≤k_)∧k_ ≠ gb174)) k_∧some k_ ≠ (.slice Ao14 x6_2.length co14:Value).ownBlock)) (Kd.R_types (Kd.R_apart' (HO188.out) (Kd.N_typed HO_6.out) (by decide)) BK174.out (by decide)) (fun k_ hk=>⟨⟨hk.1.1.1.1,hk.2⟩,hk.1.2⟩))).2.1 (Kd.R_F (Kd.R_mono (ok':=(fun k_=>((fun k_=>(w.heap.size≤k_)∧k_ ≠ gb174)) k_∧some k_ ≠ (.slice Ao14 x6_2.length co14:Value).ownBlock)) (Kd.R_types (Kd.R_apart' (HO188.out) (Kd.N_typed HO_6.out) (by decide)) BK174.out (by decide)) (fun k_ hk=>⟨⟨hk.1.1.1.1,hk.2⟩,hk.1.2⟩)))));(case aB=>exact (by repeat (with_reducible first|exact HB.out|apply qA|apply qD|apply qO|refine qS ?_ GE174.out)));(case aF=>exact (fun k_ hk=>⟨(Nat.le_trans (qZ (by repeat (with_reducible first|exact HB.out|apply qA|apply qD|apply qO|refine qS ?_ GE174.out))) hk),Kd.freshB (g:=gb174) (o:=_) (by (with_reducible repeat (first|refine qN ?_ _|refine qW ?_|refine qL ?_ _));exact BK174.out) k_ hk⟩));(case aO=>exact (by (with_reducible repeat (first|apply Kd.N_alloc|apply Kd.N_drewN|apply Kd.N_drew));exact Kd.N_mono HO_6.out (fun _ hk=>⟨hk.1.1.1,hk.1.1.2⟩)));(case aS=>exact (qZ (by repeat (with_reducible first|exact HB.out|apply qA|apply qD|apply qO|refine qS ?_ GE174.out))));(case aL=>have:=LMc38.out;omega);intro v190 w47 ho hb hg hat;rw [← Ny189.out] at ho;have n0_:=qK (blk_grown (g:=gb174) (o:=_) (by (with_reducible repeat (first|refine qN ?_ _|refine qW ?_|refine qL ?_ _));exact BK174.out) hg (Kd.N_away HO_6.out (fun _ hk=>hk.1.1.2)));have n1_:=qK (hb);have n2_:=qK (ho);clear BK174;clear HB;clear HO_6;clear HO185;clear HO188;have BK174:=n0_;have HB:=n1_;have HO191:=n2_;clear n0_ n1_ n2_;clear ho hb hg hat))
                  go_roundg k3
                  case measure=>have:=HK1.out;have:=HK2.out;have:=HK3.out;omega
                  case rel=>exact ⟨(y189),(wrap64 (x35_2 + 1)),(by first|rfl|(simp;done)|(simp [*];done)),H',⟨by have:=HK1.out;have:=HK2.out;have:=HK3.out;omega⟩,⟨by (with_reducible repeat (first|apply Kd.N_alloc|apply Kd.N_drewN|apply Kd.N_drew));exact HO191.out⟩,⟨by (with_reducible repeat (first|refine qN ?_ _|refine qW ?_|refine qL ?_ _));exact BK174.out⟩,⟨by repeat (first|(with_reducible first|exact HB.out|apply qA|apply qD|apply qO|refine qS ?_ GE174.out)|exact HB.out)⟩⟩
                 ·rw [if_neg c38] at H;exact absurd H (by simp)
                ·rw [if_neg c37] at H;exact absurd H (by simp)
           ·rw [if_neg c13] at H;exact absurd H (by simp)
          ·rw [if_neg c12] at H;exact absurd H (by simp)
         ·rw [if_neg c11] at H;have c11b0:decide (x35_2 < (((rd_T37 l0 x28_1).f1).length:Int))=false:=decide_eq_false c11;clear c11;have H':=qK H;clear H;go_wp2
          go_roundg k2
          case measure=>have:=HK1.out;have:=HK2.out;omega
          case rel=>exact ⟨(x6_2),(wrap64 (x28_1 + 1)),(by first|rfl|(simp;done)|(simp [*];done)),H',⟨by have:=HK1.out;have:=HK2.out;omega⟩,⟨by (with_reducible repeat (first|apply Kd.N_alloc|apply Kd.N_drewN|apply Kd.N_drew));exact Kd.N_mono HO_6.out (fun _ hk=>hk.1)⟩,⟨by repeat (first|(with_reducible first|exact HB.out|apply qA|apply qD|apply qO|refine qS ?_ GE174.out)|exact HB.out)⟩⟩
      ·rw [if_neg c8] at H;exact absurd H (by simp)
     ·rw [if_neg c7] at H;exact absurd H (by simp)
    ·rw [if_neg c6] at H;have c6b0:decide (x28_1 < (l0.length:Int))=false:=decide_eq_false c6;clear c6;have H':=qK H;clear H;obtain ⟨Ao48,co48,eo48⟩:=Kd.N_slice HO_6.out;subst eo48;go_wp2
     go_loopg [78] k1 (fun kq v78 w'=>∃ (x6_2:List (S37)) (x78_2:Int),v78=.int .i64 x78_2∧Aside0 (spec_CoverOf.l3 kq a1 x6_2 (x6_1.length:Int) x78_2=some (r1,r2))∧Aside0 (kq≤k1)∧Aside0 (Kd.N k37 37 w' w.heap.size (fun k_=>(w.heap.size≤k_)) (.slice Ao48 x6_1.length co48) x6_2)∧Aside0 (Below w.heap.size w w'))
     case atStart=>exact ⟨(x6_1),(0),(by first|rfl|(simp;done)|(simp [*];done)),H',⟨Nat.le_refl _⟩,⟨by (with_reducible repeat (first|apply Kd.N_alloc|apply Kd.N_drewN|apply Kd.N_drew));exact HO_6.out⟩,⟨by repeat (first|(with_reducible first|exact HB.out|apply qA|apply qD|apply qO)|exact HB.out)⟩⟩
     case round =>
      clear H';try clear c1
      try clear p1
      try clear q1
      try clear hx1
      try clear qi1
      try clear c2
      try clear p2
      try clear c3
      try clear c4
      try clear c6
      try clear c6b0
      try clear p6
      try clear c7
      try clear c7b0
      try clear c8
      try clear c8b0
      try clear c11
      try clear c11b0
      try clear c12
      try clear c12b0
      try clear c13
      try clear c13b0
      try clear c15
      try clear c15b0
      try clear c16
      try clear c16b0
      try clear c17
      try clear c17b0
      try clear p17
      try clear q17
      try clear hx17
      try clear qi17
      try clear c18
      try clear c19
      try clear c20
      try clear c22
      try clear c22b0
      try clear c22b1
      try clear c23
      try clear c23b0
      try clear c23b1
      try clear c26
      try clear c32
      try clear c36
      try clear c37
      try clear c38
      try clear hcz10_0
      try clear hcz10_1
      try clear hcz21_0
      try clear hcz21_1
      try clear hcz27_0
      try clear hcz27_1
      try clear hcz29_0
      try clear hcz29_1
      try clear hcz30_0
      try clear hcz30_1
      try clear hcz33_0
      try clear hcz33_1
      try clear hcz35_0
      try clear hcz35_1
      try clear hcz41_0
      try clear hcz41_1
      try clear hfz10_0
      try clear hfz10_1
      try clear hfz21_0
      try clear hfz21_1
      try clear hfz27_0
      try clear hfz27_1
      try clear hfz29_0
      try clear hfz29_1
      try clear hfz30_0
      try clear hfz30_1
      try clear hfz33_0
      try clear hfz33_1
      try clear hfz35_0
      try clear hfz35_1
      try clear hfz41_0
      try clear hfz41_1
      try clear hx173_0
      try clear hx173_1
      try clear hx175_0
      try clear hx176_0
      try clear hx176_1
      try clear hx178_0
      try clear p1
      try clear p173
      try clear p175
      try clear p176
      try clear p178
      try clear p2
      try clear q1
      try clear q173
      try clear q175
      try clear q176
      try clear q178
      obtain ⟨x6_2,x78_2,rfl,HA,HK2,HO_6,HB⟩:=hrel;have hl6_2:=(Kd.N_reads' HO_6.out).1;rw [hl6_2] at HO_6;(try simp only [hl6_2]);cases gk with
      | zero=>exact absurd HA.out (by simp [spec_CoverOf.l3])
      | succ k2 =>
       have H:=HA.out;clear HA;simp only [spec_CoverOf.l3] at H;by_cases c49:x78_2 < (x6_1.length:Int)
       ·rw [if_pos c49] at H;have c49b0:decide (x78_2 < (x6_1.length:Int))=true:=decide_eq_true c49;clear c49;obtain ⟨y192,hy192⟩:∃ y_:List Int,y_=(([]:List Int)):=⟨_,rfl⟩;replace H:(if 0≤x78_2 then (if x78_2 < (x6_2.length:Int) then (if y192.length + ((rd_T37 x6_2 x78_2).f0).length < 17592186044416 then ((some (y192 ++ ((rd_T37 x6_2 x78_2).f0):List Int)).bind fun y196=>(spec_CoverOf.l4 k2 a1 x6_2 x78_2 (x6_1.length:Int) x78_2 y196 (y196.length:Int) 0)) else (none)) else (none)) else (none))=some (r1,r2):=by first|(rw [hy192];with_reducible exact H)|(have H2_:=(Option.bind_some _ _).symm.trans H;rw [hy192];with_reducible exact H2_)|(have H2_:=(Option.bind_some _ _).symm.trans H;with_reducible exact H2_)|with_reducible exact H|(rw [hy192];exact H)|exact H
        have Ny192:=qK hy192;clear hy192;by_cases c50:0≤x78_2
        ·rw [if_pos c50] at H;have c50b0:decide (0≤x78_2)=true:=decide_eq_true c50;clear c50;by_cases c51:x78_2 < (x6_2.length:Int)
         ·rw [if_pos c51] at H;have c51b0:decide (x78_2 < (x6_2.length:Int))=true:=decide_eq_true c51;clear c51;by_cases c52:y192.length + ((rd_T37 x6_2 x78_2).f0).length < 17592186044416
          ·rw [if_pos c52] at H;have LMc52:=qK c52;clear c52;obtain ⟨y196,hy196⟩:∃ y_:List Int,y_=(y192 ++ ((rd_T37 x6_2 x78_2).f0)):=⟨_,rfl⟩;replace H:(spec_CoverOf.l4 k2 a1 x6_2 x78_2 (x6_1.length:Int) x78_2 y196 (y196.length:Int) 0)=some (r1,r2):=by first|(rw [hy196];with_reducible exact H)|(have H2_:=(Option.bind_some _ _).symm.trans H;rw [hy196];with_reducible exact H2_)|(have H2_:=(Option.bind_some _ _).symm.trans H;with_reducible exact H2_)|with_reducible exact H|(rw [hy196];exact H)|exact H
           have Ny196:=qK hy196;clear hy196;have H':=qK H;clear H;go_wp2_with (first|((with_reducible refine gate_dst (N:=81) rfl ?_);refine Kd.R_lit (Kd.int .i64) _ 3 ?hg (N:=81) ?hd (xs:=([]:List Int)) (inner:=[]) (ok:=fun _=>True) (okp:=fun _=>True) ?hr ?hp (fun _ hk=>hk) trivial (Below.refl _ _) (Nat.le_refl _) (by simp) ?_;(case hd=>rfl);(case hg=>rfl);(case hr=>(go_simp;try rfl));(case hp=>exact (Reps.none _ _));intro v193 w53 ho54 hb hg_ hnew_;clear hg_ hnew_;(first|rw [← Ny192.out] at ho54|(simp only [Int.reduceToNat] at ho54;rw [← Ny192.out] at ho54));have n0_:=qK (Kd.N_elder' (by (with_reducible repeat (first|apply Kd.N_alloc|apply Kd.N_drewN|apply Kd.N_drew));exact HO_6.out) (Kd.R_base ho54) hb);have n1_:=qK (Kd.R_lower (Kd.R_newM (M:=fun k_=>(w.heap.size≤k_)) ho54 (qZ (by repeat (with_reducible first|exact HB.out|apply qA|apply qD|apply qO))) (fun k_ h_=>h_)) (qZ (by repeat (with_reducible first|exact HB.out|apply qA|apply qD|apply qO))));have n2_:=qK (qT (by repeat (with_reducible first|exact HB.out|apply qA|apply qD|apply qO)) hb);clear HO_6;clear HB;have HO_6:=n0_;have HO194:=n1_;have HB:=n2_;clear n0_ n1_ n2_;clear hb ho54;have p195:0≤(x78_2:Int):=of_decide_eq_true (by first|(with_reducible assumption)|assumption);have q195:x78_2 < (x6_2.length:Int):=of_decide_eq_true (by first|(with_reducible assumption)|assumption);obtain ⟨ad195,A195_0,c195_0,A195_1,c195_1,e195,hx195_0,hx195_1,hl195_0,hi195_0,hl195_1,hi195_1⟩:=at_T37 (Kd.N_reads' HO_6.out).2.2 x78_2 p195 q195;cases e195;obtain ⟨ce195,hce195,hMe195,hcc195⟩:=Kd.N_get HO_6.out z37 x78_2 p195 (by first|exact q195|exact of_decide_eq_true (by first|(with_reducible assumption)|assumption)|(have e_:=(Kd.N_reads' HO_6.out).1;omega));obtain ⟨ua195_0,uc195_0,ua195_1,uc195_1,rfl,ul195_0,ge195_0,ul195_1,ge195_1⟩:=k37_openF hMe195;have hv195_0:=hcc195 0 _ rfl;rw [Nat.add_zero] at hv195_0;replace hv195_0:=Option.some.inj (hv195_0.symm.trans hx195_0);injection hv195_0 with hva_ hvn_ hvc_;rw [hva_] at ge195_0;rw [hvc_] at ul195_0;have HL195_0:=qK (show Kd.V (Kd.int .i64) 3 _ w.heap.size _ _ ((rd_T37 x6_2 x78_2).f0) from Kd.V_mk ul195_0 ge195_0);clear hva_ hvn_ hvc_ ge195_0 ul195_0;have hv195_1:=hcc195 1 _ rfl;rw [add_field _ _ 1 (by omega)] at hv195_1;replace hv195_1:=Option.some.inj (hv195_1.symm.trans hx195_1);injection hv195_1 with hva_ hvn_ hvc_;rw [hva_] at ge195_1;rw [hvc_] at ul195_1;have HL195_1:=qK (show Kd.V (Kd.int .i64) 3 _ w.heap.size _ _ ((rd_T37 x6_2 x78_2).f1) from Kd.V_mk ul195_1 ge195_1);clear hva_ hvn_ hvc_ ge195_1 ul195_1;clear hcc195 hce195;have HR195_0:=qK hi195_0;have HC195_0:=qK hl195_0;clear hi195_0 hl195_0;have HR195_1:=qK hi195_1;have HC195_1:=qK hl195_1;clear hi195_1 hl195_1;replace p195:=eq_true p195;replace q195:=eq_true q195)|((with_reducible refine gate_builtin (b:=.append) (xs:=#[.tmp 81,.tmp 86]) rfl ?_);at_builtin;refine Kd.R_append_rows (Kd.int .i64) (w0:=w) w.heap.size rfl (.tmp 81) (.tmp 86) 35 3 (.int .i64 0) 8 rfl Try.underlying35 info3 rfl (by decide) (by omega) v193 y192 ((rd_T37 x6_2 x78_2).f0) _ _ _ (fun k_=>(w.heap.size≤k_)) (fun _=>False) rfl rfl ?aO ?aR (fun _ _ h=>h) (fun _ h=>h.elim) ?aF ?aB ?aS ?aL ?_;(case aR=>repeat (first|exact (by repeat (first|(with_reducible exact HR195_0.out)|(with_reducible first|refine cL ?_ _|refine cN ?_ _|refine cW ?_)|exact HR195_0.out))|(with_reducible first|refine cL ?_ _|refine cN ?_ _|refine cW ?_)));(case aB=>exact (by repeat (with_reducible first|exact HB.out|apply qA|apply qD|apply qO)));(case aF=>exact (fun k_ hk=>(Nat.le_trans (qZ (by repeat (with_reducible first|exact HB.out|apply qA|apply qD|apply qO))) hk)));(case aO=>exact (by (with_reducible repeat (first|apply rL|apply rN|apply rW));exact Kd.R_mono HO194.out (fun _ hk=>hk.1)));(case aS=>exact (qZ (by repeat (with_reducible first|exact HB.out|apply qA|apply qD|apply qO))));(case aL=>have:=LMc52.out;omega);intro v197 w55 ho hb hg hat;rw [← Ny196.out] at ho;have n0_:=qK (Kd.N_afterv (ok:=(fun k_=>(w.heap.size≤k_))) (by (with_reducible repeat (first|apply Kd.N_alloc|apply Kd.N_drewN|apply Kd.N_drew));exact HO_6.out) hg hat);have n1_:=qK (Kd.V_afterv (ok:=(fun k_=>(w.heap.size≤k_)∧some k_ ≠ (.slice (some ad195) x6_2.length co48:Value).ownBlock)) (by (with_reducible repeat (first|apply Kd.V_alloc|apply Kd.V_drewN|apply Kd.V_drew));exact Kd.V_mono HL195_0.out (fun _ hk=>⟨⟨hk.1.1,hk.2⟩,hk.1.2⟩)) hg hat);have n2_:=qK (Kd.V_afterv (ok:=(fun k_=>(w.heap.size≤k_)∧some k_ ≠ (.slice (some ad195) x6_2.length co48:Value).ownBlock)) (by (with_reducible repeat (first|apply Kd.V_alloc|apply Kd.V_drewN|apply Kd.V_drew));exact Kd.V_mono HL195_1.out (fun _ hk=>⟨⟨hk.1.1,hk.2⟩,hk.1.2⟩)) hg hat);have n3_:=qK (hb);have n4_:=qK (ho);clear HO_6;clear HL195_0;clear HL195_1;clear HB;clear HO194;have HO_6:=n0_;have HL195_0:=n1_;have HL195_1:=n2_;have HB:=n3_;have HO198:=n4_;clear n0_ n1_ n2_ n3_ n4_;clear ho hb hg hat;obtain ⟨Ao56,co56,eo56⟩:=Kd.R_slice HO198.out;subst eo56))
           go_loopg [89] k2 (fun kq v89 w'=>∃ (x6_3:List (S37)) (x89_3:Int),v89=.int .i64 x89_3∧Aside0 (spec_CoverOf.l4 kq a1 x6_3 x78_2 (x6_1.length:Int) x78_2 y196 (y196.length:Int) x89_3=some (r1,r2))∧Aside0 (kq≤k2)∧Aside0 (Kd.N k37 37 w' w.heap.size (fun k_=>(w.heap.size≤k_)∧some k_ ≠ ((.slice Ao56 y196.length co56):Value).ownBlock) (.slice (some ad195) x6_2.length co48) x6_3)∧Aside0 (Kd.R (Kd.int .i64) 3 w' w.heap.size (fun k_=>(w.heap.size≤k_)) (.slice Ao56 y196.length co56) y196)∧Aside0 (Below w.heap.size w w'))
           case atStart=>exact ⟨(x6_2),(0),(by first|rfl|(simp;done)|(simp [*];done)),H',⟨Nat.le_refl _⟩,⟨by (try simp only [hl6_2]);(with_reducible repeat (first|apply Kd.N_alloc|apply Kd.N_drewN|apply Kd.N_drew));exact HO_6.out⟩,⟨by (try simp only [hl6_2]);(with_reducible repeat (first|apply rL|apply rN|apply rW));exact HO198.out⟩,⟨by repeat (first|(with_reducible first|exact HB.out|apply qA|apply qD|apply qO)|exact HB.out)⟩⟩
           case round =>
            clear H';try clear c1
            try clear p1
            try clear q1
            try clear hx1
            try clear qi1
            try clear c2
            try clear p2
            try clear c3
            try clear c4
            try clear c5
            try clear c6
            try clear c6b0
            try clear p6
            try clear c7
            try clear c7b0
            try clear c8
            try clear c8b0
            try clear c11
            try clear c11b0
            try clear c12
            try clear c12b0
            try clear c13
            try clear c13b0
            try clear c15
            try clear c15b0
            try clear c16
            try clear c16b0
            try clear c17
            try clear c17b0
            try clear p17
            try clear q17
            try clear hx17
            try clear qi17
            try clear c18
            try clear c19
            try clear p19
            try clear q19
            try clear hx19
            try clear c20
            try clear c22
            try clear c22b0
            try clear c22b1
            try clear c23
            try clear c23b0
            try clear c23b1
            try clear c26
            try clear c32
            try clear c36
            try clear c37
            try clear c38
            try clear c49
            try clear c49b0
            try clear c50
            try clear c50b0
            try clear c51
            try clear c51b0
            try clear c52
            try clear hcz10_0
            try clear hcz10_1
            try clear hcz21_0
            try clear hcz21_1
            try clear hcz27_0
            try clear hcz27_1
            try clear hcz29_0
            try clear hcz29_1
            try clear hcz30_0
            try clear hcz30_1
            try clear hcz33_0
            try clear hcz33_1
            try clear hcz35_0
            try clear hcz35_1
            try clear hcz41_0
            try clear hcz41_1
            try clear hfz10_0
            try clear hfz10_1
            try clear hfz21_0
            try clear hfz21_1
            try clear hfz27_0
            try clear hfz27_1
            try clear hfz29_0
            try clear hfz29_1
            try clear hfz30_0
            try clear hfz30_1
            try clear hfz33_0
            try clear hfz33_1
            try clear hfz35_0
            try clear hfz35_1
            try clear hfz41_0
            try clear hfz41_1
            try clear hx173_0
            try clear hx173_1
            try clear hx175_0
            try clear hx176_0
            try clear hx176_1
            try clear hx178_0
            try clear hx195_0
            try clear hx195_1
            try clear p1
            try clear p17
            try clear p173
            try clear p175
            try clear p176
            try clear p178
            try clear p195
            try clear p2
            try clear p6
            try clear q1
            try clear q17
            try clear q173
            try clear q175
            try clear q176
            try clear q178
            try clear q195
            obtain ⟨x6_3,x89_3,rfl,HA,HK3,HO_6,HO_87,HB⟩:=hrel;have hl6_3:=(Kd.N_reads' HO_6.out).1;rw [hl6_3] at HO_6;(try simp only [hl6_3]);(try simp only [hl6_3] at HO_87);cases gk with
            | zero=>exact absurd HA.out (by simp [spec_CoverOf.l4])
            | succ k3 =>
             have H:=HA.out;clear HA;simp only [spec_CoverOf.l4] at H;by_cases c57:x89_3 < (y196.length:Int)
             ·rw [if_pos c57] at H;have c57b0:decide (x89_3 < (y196.length:Int))=true:=decide_eq_true c57;clear c57;by_cases c58:0≤x89_3
              ·rw [if_pos c58] at H;have c58b0:decide (0≤x89_3)=true:=decide_eq_true c58;clear c58;by_cases c59:x89_3 < (y196.length:Int)
               ·rw [if_pos c59] at H;have c59b0:decide (x89_3 < (y196.length:Int))=true:=decide_eq_true c59;clear c59;by_cases c60:0≤x78_2
                ·rw [if_pos c60] at H;have c60b0:decide (0≤x78_2)=true:=decide_eq_true c60;clear c60;by_cases c61:x78_2 < (x6_3.length:Int)
                 ·rw [if_pos c61] at H;have c61b0:decide (x78_2 < (x6_3.length:Int))=true:=decide_eq_true c61;clear c61;have H':=qK H;clear H;have p199:0≤(x89_3:Int):=of_decide_eq_true (by first|(with_reducible assumption)|assumption);have q199:x89_3 < (y196.length:Int):=of_decide_eq_true (by first|(with_reducible assumption)|assumption);obtain ⟨ad199,e199,hx199_0⟩:=Kd.at_int (Kd.R_reads' HO_87.out).2.2 x89_3 p199 q199;cases e199
                  replace p199:=eq_true p199;replace q199:=eq_true q199;have p200:0≤(x78_2:Int):=of_decide_eq_true (by first|(with_reducible assumption)|assumption);have q200:x78_2 < (x6_3.length:Int):=of_decide_eq_true (by first|(with_reducible assumption)|assumption);obtain ⟨ad200,A200_0,c200_0,A200_1,c200_1,e200,hx200_0,hx200_1,hl200_0,hi200_0,hl200_1,hi200_1⟩:=at_T37 (Kd.N_reads' HO_6.out).2.2 x78_2 p200 q200;obtain rfl:ad195=ad200:=(by injection e200);obtain ⟨ce200,hce200,hMe200,hcc200⟩:=Kd.N_get HO_6.out z37 x78_2 p200 (by first|exact q200|exact of_decide_eq_true (by first|(with_reducible assumption)|assumption)|(have e_:=(Kd.N_reads' HO_6.out).1;omega));obtain ⟨ua200_0,uc200_0,ua200_1,uc200_1,rfl,ul200_0,ge200_0,ul200_1,ge200_1⟩:=k37_openF hMe200;have hv200_0:=hcc200 0 _ rfl;rw [Nat.add_zero] at hv200_0;replace hv200_0:=Option.some.inj (hv200_0.symm.trans hx200_0);injection hv200_0 with hva_ hvn_ hvc_
                  rw [hva_] at ge200_0;rw [hvc_] at ul200_0;have HL200_0:=qK (show Kd.V (Kd.int .i64) 3 _ w.heap.size _ _ ((rd_T37 x6_3 x78_2).f0) from Kd.V_mk ul200_0 ge200_0);clear hva_ hvn_ hvc_ ge200_0 ul200_0;have hv200_1:=hcc200 1 _ rfl;rw [add_field _ _ 1 (by omega)] at hv200_1;replace hv200_1:=Option.some.inj (hv200_1.symm.trans hx200_1);injection hv200_1 with hva_ hvn_ hvc_
                  rw [hva_] at ge200_1;rw [hvc_] at ul200_1;have HL200_1:=qK (show Kd.V (Kd.int .i64) 3 _ w.heap.size _ _ ((rd_T37 x6_3 x78_2).f1) from Kd.V_mk ul200_1 ge200_1);clear hva_ hvn_ hvc_ ge200_1 ul200_1;clear hcc200 hce200;have HR200_0:=qK hi200_0;have HC200_0:=qK hl200_0;clear hi200_0 hl200_0;have HR200_1:=qK hi200_1;have HC200_1:=qK hl200_1;clear hi200_1 hl200_1;replace p200:=eq_true p200;replace q200:=eq_true q200;go_wp2
                  go_loopg [17,99] k3 (fun kq v17 v99 w'=>∃ (x17_4:List Int) (x99_4:Int),v99=.int .i64 x99_4∧Aside0 (spec_CoverOf.l5 kq a1 x6_3 x78_2 (rd y196 x89_3) x17_4 (x6_1.length:Int) x78_2 y196 (y196.length:Int) x89_3 ((rd_T37 x6_3 x78_2).f0) (((rd_T37 x6_3 x78_2).f0).length:Int) x99_4=some (r1,r2))∧Aside0 (kq≤k3)∧Aside0 (Kd.N k37 37 w' w.heap.size (fun k_=>(w.heap.size≤k_)∧some k_ ≠ (v17:Value).ownBlock∧some k_ ≠ ((.slice (some ad199) y196.length co56):Value).ownBlock) (.slice (some ad195) x6_3.length co48) x6_3)∧Aside0 (Kd.R (Kd.int .i64) 3 w' w.heap.size (fun k_=>(w.heap.size≤k_)∧some k_ ≠ ((.slice (some ad199) y196.length co56):Value).ownBlock) v17 x17_4)∧Aside0 (Kd.R (Kd.int .i64) 3 w' w.heap.size (fun k_=>(w.heap.size≤k_)∧some k_ ≠ (v17:Value).ownBlock) (.slice (some ad199) y196.length co56) y196)∧Aside0 (Kd.V (Kd.int .i64) 3 w' w.heap.size (fun k_=>(w.heap.size≤k_)∧some k_ ≠ (v17:Value).ownBlock) (.slice A200_0 ((rd_T37 x6_3 x78_2).f0).length c200_0) ((rd_T37 x6_3 x78_2).f0))∧Aside0 (Below w.heap.size w w'))
                  case atStart=>exact ⟨(([]:List Int)),(0),(by first|rfl|(simp;done)|(simp [*];done)),H',⟨Nat.le_refl _⟩,⟨by (try simp only [hl6_2]);(try simp only [hl6_3]);(with_reducible repeat (first|apply Kd.N_alloc|apply Kd.N_drewN|apply Kd.N_drew));exact Kd.N_mono HO_6.out (fun _ hk=>⟨hk.1,⟨(by simp [Value.ownBlock]),hk.2⟩⟩)⟩,⟨by (try simp only [hl6_2]);(try simp only [hl6_3]);first|exact Kd.R_nil _ _ _ _ _|exact Kd.N_nil _ _ _ _ _|exact Kd.V_nil _ _ _ _ _|exact Kd.Q_nil _ _ _ _ _|exact Kd.S_nil _ _ _ _ _⟩,⟨by (try simp only [hl6_2]);(try simp only [hl6_3]);(with_reducible repeat (first|apply rL|apply rN|apply rW));exact Kd.R_mono HO_87.out (fun _ hk=>⟨hk,(by simp [Value.ownBlock])⟩)⟩,⟨by (with_reducible repeat (first|apply Kd.V_alloc|apply Kd.V_drewN|apply Kd.V_drew));exact Kd.V_mono HL200_0.out (fun _ hk=>⟨(by have h_:=hk;(try simp only [and_assoc] at h_);exact h_.1),(by simp [Value.ownBlock])⟩)⟩,⟨by repeat (first|(with_reducible first|exact HB.out|apply qA|apply qD|apply qO)|exact HB.out)⟩⟩
                  case round =>
                   clear H';try clear c1
                   try clear p1
                   try clear q1
                   try clear hx1
                   try clear qi1
                   try clear c2
                   try clear p2
                   try clear q2
                   try clear hx2
                   try clear c3
                   try clear c4
                   try clear c5
                   try clear c6
                   try clear c6b0
                   try clear p6
                   try clear c7
                   try clear c7b0
                   try clear c8
                   try clear c8b0
                   try clear c11
                   try clear c11b0
                   try clear c12
                   try clear c12b0
                   try clear c13
                   try clear c13b0
                   try clear c15
                   try clear c15b0
                   try clear c16
                   try clear c16b0
                   try clear c17
                   try clear c17b0
                   try clear p17
                   try clear q17
                   try clear hx17
                   try clear qi17
                   try clear c18
                   try clear c19
                   try clear p19
                   try clear q19
                   try clear hx19
                   try clear c20
                   try clear p20
                   try clear q20
                   try clear hx20
                   try clear c22
                   try clear c22b0
                   try clear c22b1
                   try clear c23
                   try clear c23b0
                   try clear c23b1
                   try clear c26
                   try clear c32
                   try clear c36
                   try clear c37
                   try clear c38
                   try clear c49
                   try clear c49b0
                   try clear c50
                   try clear c50b0
                   try clear c51
                   try clear c51b0
                   try clear c52
                   try clear c57
                   try clear c57b0
                   try clear c58
                   try clear c58b0
                   try clear c59
                   try clear c59b0
                   try clear c60
                   try clear c60b0
                   try clear c61
                   try clear c61b0
                   try clear hcz10_0
                   try clear hcz10_1
                   try clear hcz21_0
                   try clear hcz21_1
                   try clear hcz27_0
                   try clear hcz27_1
                   try clear hcz29_0
                   try clear hcz29_1
                   try clear hcz30_0
                   try clear hcz30_1
                   try clear hcz33_0
                   try clear hcz33_1
                   try clear hcz35_0
                   try clear hcz35_1
                   try clear hcz41_0
                   try clear hcz41_1
                   try clear hfz10_0
                   try clear hfz10_1
                   try clear hfz21_0
                   try clear hfz21_1
                   try clear hfz27_0
                   try clear hfz27_1
                   try clear hfz29_0
                   try clear hfz29_1
                   try clear hfz30_0
                   try clear hfz30_1
                   try clear hfz33_0
                   try clear hfz33_1
                   try clear hfz35_0
                   try clear hfz35_1
                   try clear hfz41_0
                   try clear hfz41_1
                   try clear hx173_0
                   try clear hx173_1
                   try clear hx175_0
                   try clear hx176_0
                   try clear hx176_1
                   try clear hx178_0
                   try clear hx195_0
                   try clear hx195_1
                   try clear hx199_0
                   try clear hx200_0
                   try clear hx200_1
                   try clear p1
                   try clear p17
                   try clear p173
                   try clear p175
                   try clear p176
                   try clear p178
                   try clear p19
                   try clear p195
                   try clear p199
                   try clear p2
                   try clear p200
                   try clear p6
                   try clear q1
                   try clear q17
                   try clear q173
                   try clear q175
                   try clear q176
                   try clear q178
                   try clear q19
                   try clear q195
                   try clear q199
                   try clear q200
                   obtain ⟨x17_4,x99_4,rfl,HA,HK4,HO_6,HO_17,HO_87,HV_,HB⟩:=hrel;(try clear HR200_0);have HR200_0:=qK (Kd.V_reads' HV_.out).2.2;cases gk with
                   | zero=>exact absurd HA.out (by simp [spec_CoverOf.l5])
                   | succ k4 =>
                    have H:=HA.out;clear HA;simp only [spec_CoverOf.l5] at H;by_cases c62:x99_4 < (((rd_T37 x6_3 x78_2).f0).length:Int)
                    ·rw [if_pos c62] at H;have c62b0:decide (x99_4 < (((rd_T37 x6_3 x78_2).f0).length:Int))=true:=decide_eq_true c62;clear c62;by_cases c63:0≤x99_4
                     ·rw [if_pos c63] at H;have c63b0:decide (0≤x99_4)=true:=decide_eq_true c63;clear c63;by_cases c64:x99_4 < (((rd_T37 x6_3 x78_2).f0).length:Int)
                      ·rw [if_pos c64] at H;have c64b0:decide (x99_4 < (((rd_T37 x6_3 x78_2).f0).length:Int))=true:=decide_eq_true c64;clear c64;by_cases c65:(rd ((rd_T37 x6_3 x78_2).f0) x99_4)=(rd y196 x89_3)
                       ·rw [if_pos c65] at H;have c65b0:((rd ((rd_T37 x6_3 x78_2).f0) x99_4) == (rd y196 x89_3))=true:=beq_iff_eq.mpr c65;have c65b1:((rd ((rd_T37 x6_3 x78_2).f0) x99_4) != (rd y196 x89_3))=false:=bne_eq_false_iff_eq.mpr c65;clear c65;have H':=qK H;clear H;have p201:0≤(x99_4:Int):=of_decide_eq_true (by first|(with_reducible assumption)|assumption);have q201:x99_4 < (((rd_T37 x6_3 x78_2).f0).length:Int):=of_decide_eq_true (by first|(with_reducible assumption)|assumption);obtain ⟨ad201,e201,hx201_0⟩:=Kd.at_int HR200_0.out x99_4 p201 q201;cases e201
                        (try replace hx201_0:=(HB.out.cell (World.block_lt_of_cell? w _ hx201_0)).trans hx201_0);replace p201:=eq_true p201;replace q201:=eq_true q201;go_wp2
                        go_roundg k4
                        case measure=>have:=HK1.out;have:=HK2.out;have:=HK3.out;have:=HK4.out;omega
                        case rel=>exact ⟨(x17_4),(wrap64 (x99_4 + 1)),(by first|rfl|(simp;done)|(simp [*];done)),H',⟨by have:=HK1.out;have:=HK2.out;have:=HK3.out;have:=HK4.out;omega⟩,⟨by (try simp only [hl6_2]);(try simp only [hl6_3]);(with_reducible repeat (first|apply Kd.N_alloc|apply Kd.N_drewN|apply Kd.N_drew));exact HO_6.out⟩,⟨by (try simp only [hl6_2]);(try simp only [hl6_3]);(with_reducible repeat (first|apply rL|apply rN|apply rW));exact HO_17.out⟩,⟨by (try simp only [hl6_2]);(try simp only [hl6_3]);(with_reducible repeat (first|apply rL|apply rN|apply rW));exact HO_87.out⟩,⟨by (with_reducible repeat (first|apply Kd.V_alloc|apply Kd.V_drewN|apply Kd.V_drew));exact HV_.out⟩,⟨by repeat (first|(with_reducible first|exact HB.out|apply qA|apply qD|apply qO)|exact HB.out)⟩⟩
                       ·rw [if_neg c65] at H;have c65b0:((rd ((rd_T37 x6_3 x78_2).f0) x99_4) == (rd y196 x89_3))=false:=beq_eq_false_iff_ne.mpr c65;have c65b1:((rd ((rd_T37 x6_3 x78_2).f0) x99_4) != (rd y196 x89_3))=true:=bne_iff_ne.mpr c65;by_cases c66:x17_4.length < 17592186044416
                        ·rw [if_pos c66] at H;have LMc66:=qK c66;clear c66;obtain ⟨y202,hy202⟩:∃ y_:List Int,y_=(x17_4 ++ [rd ((rd_T37 x6_3 x78_2).f0) x99_4]):=⟨_,rfl⟩;replace H:(spec_CoverOf.l5 k4 a1 x6_3 x78_2 (rd y196 x89_3) y202 (x6_1.length:Int) x78_2 y196 (y196.length:Int) x89_3 ((rd_T37 x6_3 x78_2).f0) (((rd_T37 x6_3 x78_2).f0).length:Int) (wrap64 (x99_4 + 1)))=some (r1,r2):=by first|(rw [hy202];with_reducible exact H)|(have H2_:=(Option.bind_some _ _).symm.trans H;rw [hy202];with_reducible exact H2_)|(have H2_:=(Option.bind_some _ _).symm.trans H;with_reducible exact H2_)|with_reducible exact H|(rw [hy202];exact H)|exact H
                         have Ny202:=qK hy202;clear hy202;have H':=qK H;clear H;have p201:0≤(x99_4:Int):=of_decide_eq_true (by first|(with_reducible assumption)|assumption);have q201:x99_4 < (((rd_T37 x6_3 x78_2).f0).length:Int):=of_decide_eq_true (by first|(with_reducible assumption)|assumption);obtain ⟨ad201,e201,hx201_0⟩:=Kd.at_int HR200_0.out x99_4 p201 q201;cases e201
                         (try replace hx201_0:=(HB.out.cell (World.block_lt_of_cell? w _ hx201_0)).trans hx201_0);replace p201:=eq_true p201;replace q201:=eq_true q201;go_wp2_with (first|((with_reducible refine gate_builtin (b:=.append) (xs:=#[.tmp 106,.tmp 108]) rfl ?_);at_builtin;refine Kd.R_append (Kd.int .i64) (w0:=w) w.heap.size rfl (.tmp 106) (.tmp 108) 35 3 (.int .i64 0) 8 rfl Try.underlying35 info3 rfl (by decide) (by omega) u17 x17_4 (rd ((rd_T37 x6_3 x78_2).f0) x99_4) [.int .i64 (rd ((rd_T37 x6_3 x78_2).f0) x99_4)] (fun k_=>(w.heap.size≤k_)∧some k_ ≠ (.slice (some ad199) y196.length co56:Value).ownBlock) (fun _=>False) rfl rfl ?aP (fun _ hk=>hk.elim) ?aF ?aO ?aB ?aS ?aL ?_;(case aP=>exact rfl);(case aB=>exact (by repeat (with_reducible first|exact HB.out|apply qA|apply qD|apply qO)));(case aF=>exact (fun k_ hk=>⟨(Nat.le_trans (qZ (by repeat (with_reducible first|exact HB.out|apply qA|apply qD|apply qO))) hk),Kd.fresh' (Kd.R_lt (by (with_reducible repeat (first|apply rL|apply rN|apply rW));exact HO_87.out)) k_ hk⟩));(case aO=>exact (by (with_reducible repeat (first|apply rL|apply rN|apply rW));exact HO_17.out));(case aS=>exact (qZ (by repeat (with_reducible first|exact HB.out|apply qA|apply qD|apply qO))));(case aL=>have:=LMc66.out;omega);intro v203 w67 ho hb hg hat;rw [← Ny202.out] at ho;have n0_:=qK (Kd.N_afterv (ok:=(fun k_=>(w.heap.size≤k_)∧some k_ ≠ (.slice (some ad199) y196.length co56:Value).ownBlock)) (by (with_reducible repeat (first|apply Kd.N_alloc|apply Kd.N_drewN|apply Kd.N_drew));exact Kd.N_mono HO_6.out (fun _ hk=>⟨⟨hk.1,hk.2.2⟩,hk.2.1⟩)) hg hat);have n1_:=qK (Kd.R_after (ok:=(fun k_=>(w.heap.size≤k_))) (by (with_reducible repeat (first|apply rL|apply rN|apply rW));exact HO_87.out) hg hat);have n2_:=qK (hb);have n3_:=qK (ho);have n4_:=qK (Kd.V_afterv (ok:=(fun k_=>(w.heap.size≤k_))) (by (with_reducible repeat (first|apply Kd.V_alloc|apply Kd.V_drewN|apply Kd.V_drew));exact HV_.out) hg hat);clear HV_;have HV_:=n4_;clear n4_;clear HO_6;clear HO_87;clear HB;clear HO_17;have HO_6:=n0_;have HO_87:=n1_;have HB:=n2_;have HO204:=n3_;clear n0_ n1_ n2_ n3_;clear ho hb hg hat))
                         go_roundg k4
                         case measure=>have:=HK1.out;have:=HK2.out;have:=HK3.out;have:=HK4.out;omega
                         case rel=>exact ⟨(y202),(wrap64 (x99_4 + 1)),(by first|rfl|(simp;done)|(simp [*];done)),H',⟨by have:=HK1.out;have:=HK2.out;have:=HK3.out;have:=HK4.out;omega⟩,⟨by (try simp only [hl6_2]);(try simp only [hl6_3]);(with_reducible repeat (first|apply Kd.N_alloc|apply Kd.N_drewN|apply Kd.N_drew));exact Kd.N_mono HO_6.out (fun _ hk=>⟨hk.1.1,⟨hk.2,hk.1.2⟩⟩)⟩,⟨by (try simp only [hl6_2]);(try simp only [hl6_3]);(with_reducible repeat (first|apply rL|apply rN|apply rW));exact HO204.out⟩,⟨by (try simp only [hl6_2]);(try simp only [hl6_3]);(with_reducible repeat (first|apply rL|apply rN|apply rW));exact HO_87.out⟩,⟨by (with_reducible repeat (first|apply Kd.V_alloc|apply Kd.V_drewN|apply Kd.V_drew));exact HV_.out⟩,⟨by repeat (first|(with_reducible first|exact HB.out|apply qA|apply qD|apply qO)|exact HB.out)⟩⟩
                        ·rw [if_neg c66] at H;exact absurd H (by simp)
                      ·rw [if_neg c64] at H;exact absurd H (by simp)
                     ·rw [if_neg c63] at H;exact absurd H (by simp)
                    ·rw [if_neg c62] at H;have c62b0:decide (x99_4 < (((rd_T37 x6_3 x78_2).f0).length:Int))=false:=decide_eq_false c62;clear c62;by_cases c68:0≤x78_2
                     ·rw [if_pos c68] at H;have c68b0:decide (0≤x78_2)=true:=decide_eq_true c68;clear c68;by_cases c69:x78_2 < (x6_3.length:Int)
                      ·rw [if_pos c69] at H;have c69b0:decide (x78_2 < (x6_3.length:Int))=true:=decide_eq_true c69;clear c69;replace H:=Option.bind_eq_some_iff.mp H;obtain ⟨t206,A700,H⟩:=H;replace H:(if t206=true then (spec_CoverOf.l4 k4 a1 (x6_3.set (x78_2:Int).toNat (⟨x17_4,(rd_T37 x6_3 x78_2).f1⟩:S37)) x78_2 (x6_1.length:Int) x78_2 y196 (y196.length:Int) (wrap64 (x89_3 + 1))) else (spec_CoverOf.l4 k4 a1 x6_3 x78_2 (x6_1.length:Int) x78_2 y196 (y196.length:Int) (wrap64 (x89_3 + 1))))=some (r1,r2):=H;have A70:=qK A700;clear A700;by_cases c71:t206=true
                       ·subst c71;have H1:(spec_CoverOf.l4 k4 a1 (x6_3.set (x78_2:Int).toNat (⟨x17_4,(rd_T37 x6_3 x78_2).f1⟩:S37)) x78_2 (x6_1.length:Int) x78_2 y196 (y196.length:Int) (wrap64 (x89_3 + 1)))=some (r1,r2):=by rw [if_pos rfl] at H;exact H
                        clear H;have H:=H1;clear H1;obtain ⟨y207,hy207⟩:∃ y_:List (S37),y_=(x6_3.set (x78_2:Int).toNat (⟨x17_4,(rd_T37 x6_3 x78_2).f1⟩:S37)):=⟨_,rfl⟩;replace H:(spec_CoverOf.l4 k4 a1 y207 x78_2 (x6_1.length:Int) x78_2 y196 (y196.length:Int) (wrap64 (x89_3 + 1)))=some (r1,r2):=by first|(rw [hy207];with_reducible exact H)|(have H2_:=(Option.bind_some _ _).symm.trans H;rw [hy207];with_reducible exact H2_)|(have H2_:=(Option.bind_some _ _).symm.trans H;with_reducible exact H2_)|with_reducible exact H|(rw [hy207];exact H)|exact H
                        have Ny207:=qK hy207;clear hy207;have H':=qK H;clear H;have p205:0≤(x78_2:Int):=of_decide_eq_true (by first|(with_reducible assumption)|assumption);have q205:x78_2 < (x6_3.length:Int):=of_decide_eq_true (by first|(with_reducible assumption)|assumption);obtain ⟨ad205,A205_0,c205_0,A205_1,c205_1,e205,hx205_0,hx205_1,hl205_0,hi205_0,hl205_1,hi205_1⟩:=at_T37 (Kd.N_reads' HO_6.out).2.2 x78_2 p205 q205;obtain rfl:ad195=ad205:=(by injection e205);obtain ⟨ce205,hce205,hMe205,hcc205⟩:=Kd.N_get HO_6.out z37 x78_2 p205 (by first|exact q205|exact of_decide_eq_true (by first|(with_reducible assumption)|assumption)|(have e_:=(Kd.N_reads' HO_6.out).1;omega));obtain ⟨ua205_0,uc205_0,ua205_1,uc205_1,rfl,ul205_0,ge205_0,ul205_1,ge205_1⟩:=k37_openF hMe205;have hv205_0:=hcc205 0 _ rfl;rw [Nat.add_zero] at hv205_0;replace hv205_0:=Option.some.inj (hv205_0.symm.trans hx205_0);injection hv205_0 with hva_ hvn_ hvc_
                        rw [hva_] at ge205_0;rw [hvc_] at ul205_0;have HL205_0:=qK (show Kd.V (Kd.int .i64) 3 _ w.heap.size _ _ ((rd_T37 x6_3 x78_2).f0) from Kd.V_mk ul205_0 ge205_0);clear hva_ hvn_ hvc_ ge205_0 ul205_0;have hv205_1:=hcc205 1 _ rfl;rw [add_field _ _ 1 (by omega)] at hv205_1;replace hv205_1:=Option.some.inj (hv205_1.symm.trans hx205_1);injection hv205_1 with hva_ hvn_ hvc_
                        rw [hva_] at ge205_1;rw [hvc_] at ul205_1;have HL205_1:=qK (show Kd.V (Kd.int .i64) 3 _ w.heap.size _ _ ((rd_T37 x6_3 x78_2).f1) from Kd.V_mk ul205_1 ge205_1);clear hva_ hvn_ hvc_ ge205_1 ul205_1;clear hcc205 hce205;have HR205_0:=qK hi205_0;have HC205_0:=qK hl205_0;clear hi205_0 hl205_0;have HR205_1:=qK hi205_1;have HC205_1:=qK hl205_1;clear hi205_1 hl205_1;replace p205:=eq_true p205;replace q205:=eq_true q205;obtain ⟨Ao73,co73,eo73⟩:=Kd.R_slice HO_17.out;subst eo73;go_wp2_with (first|((with_reducible refine gate_callee (f:=21) rfl ?_);refine goesL_ (some 119) rfl rfl Try.func21 (by kernel_rfl) rfl #[.slice (some ad195) x6_3.length co48,.agg #[.slice Ao73 x17_4.length co73,.slice A205_1 ((rd_T37 x6_3 x78_2).f1).length c205_1]] rfl (by (try simp only [mT,mC,mN]);first|done|rfl|(simp only [lD,lT];rfl)) ?_;(with_reducible refine (spec_l7Implies.calls k4 _ _ x6_3 _ _ x17_4 _ _ ((rd_T37 x6_3 x78_2).f1) true _ ?side1 ?side2 ?side3 ?side4 ?side5 ?side6 A70.out).mono ?_);(case side1=>repeat (first|exact (Kd.N_reads' HO_6.out).2.2|(with_reducible first|refine cL ?_ _|refine cN ?_ _|refine cW ?_)));(case side2=>exact (Kd.N_reads' HO_6.out).2.1);(case side3=>repeat (first|exact (Kd.R_reads' HO_17.out).2.2|(with_reducible first|refine cL ?_ _|refine cN ?_ _|refine cW ?_)));(case side4=>exact (Kd.R_reads' HO_17.out).2.1);(case side5=>repeat (first|exact (by repeat (first|(with_reducible exact HR205_1.out)|(with_reducible first|refine cL ?_ _|refine cN ?_ _|refine cW ?_)|exact HR205_1.out))|(with_reducible first|refine cL ?_ _|refine cN ?_ _|refine cW ?_)));(case side6=>exact HC205_1.out);rintro e w74 ⟨rfl,hb⟩;refine ⟨_,rfl,?_⟩;have n0_:=qK (Kd.N_below (by (with_reducible repeat (first|apply Kd.N_alloc|apply Kd.N_drewN|apply Kd.N_drew));exact HO_6.out) hb);have n1_:=qK (rB (by (with_reducible repeat (first|apply rL|apply rN|apply rW));exact HO_17.out) hb);have n2_:=qK (rB (by (with_reducible repeat (first|apply rL|apply rN|apply rW));exact HO_87.out) hb);have n3_:=qK (Kd.V_below (by (with_reducible repeat (first|apply Kd.V_alloc|apply Kd.V_drewN|apply Kd.V_drew));exact HL205_0.out) hb);have n4_:=qK (Kd.V_below (by (with_reducible repeat (first|apply Kd.V_alloc|apply Kd.V_drewN|apply Kd.V_drew));exact HL205_1.out) hb);have n5_:=qK (cB (by repeat (first|(with_reducible exact HR205_0.out)|(with_reducible first|refine cL ?_ _|refine cN ?_ _|refine cW ?_)|exact HR205_0.out)) hb);have n6_:=qK (cB (by repeat (first|(with_reducible exact HR205_1.out)|(with_reducible first|refine cL ?_ _|refine cN ?_ _|refine cW ?_)|exact HR205_1.out)) hb);have n7_:=qK (qT (by repeat (with_reducible first|exact HB.out|apply qA|apply qD|apply qO)) hb);clear HO_6;clear HO_17;clear HO_87;clear HL205_0;clear HL205_1;clear HR205_0;clear HR205_1;clear HB;have HO_6:=n0_;have HO_17:=n1_;have HO_87:=n2_;have HL205_0:=n3_;have HL205_1:=n4_;have HR205_0:=n5_;have HR205_1:=n6_;have HB:=n7_;clear n0_ n1_ n2_ n3_ n4_ n5_ n6_ n7_;(try clear hb);have p72:0≤(x78_2:Int):=of_decide_eq_true (by first|(with_reducible assumption)|assumption);have q72:(x78_2:Int) < ((x6_3.length:Int):Int):=of_decide_eq_true (by first|(with_reducible assumption)|assumption);obtain ⟨go72,co72,eo72,gb72,gl72,cl72,HG72⟩:=Kd.N_form HO_6.out (by omega);(first|cases eo72|(injection eo72 with ea_ en_ ec_;(first|subst ea_|(injection ea_ with ea_;subst ea_));subst ec_;clear en_));have GB72:=qK gb72;have GG72:=qK HG72;clear gb72 gl72 HG72;(first|simp only [add_plain] at hx195_0|skip);(first|simp only [add_plain] at hx195_1|skip);(first|simp only [add_plain] at hx200_0|skip);(first|simp only [add_plain] at hx200_1|skip);(first|simp only [add_plain] at hx205_0|skip);(first|simp only [add_plain] at hx205_1|skip);obtain ⟨ce72,hcl72,hM72,hcc72,hfr72⟩:=Kd.N_elem HO_6.out z37 (x78_2:Int) p72 q72;obtain ⟨ua72_0,uc72_0,ua72_1,uc72_1,rfl,ul72_0,ge72_0,ul72_1,ge72_1⟩:=k37_openF hM72;have hx72_0:w74.cell? ⟨go72,(x78_2:Int).toNat * 2,none⟩=some (.slice ua72_0 ((rd_T37 x6_3 x78_2).f0).length uc72_0):=hcc72 0 _ rfl;have hx72_1:w74.cell? ⟨go72,(x78_2:Int).toNat * 2 + 1,none⟩=some (.slice ua72_1 ((rd_T37 x6_3 x78_2).f1).length uc72_1):=hcc72 1 _ rfl;have hf72_0:w74.frozen? ⟨go72,(x78_2:Int).toNat * 2,none⟩=false:=hfr72 0;have hf72_1:w74.frozen? ⟨go72,(x78_2:Int).toNat * 2 + 1,none⟩=false:=hfr72 1;clear hcl72 hcc72 hfr72 hM72;replace p72:=eq_true p72;replace q72:=eq_true q72;have HX75:=qK (show Kd.N k37 37 w74 w.heap.size (fun k_=>(w.heap.size≤k_)∧some k_ ≠ (.slice (some ad199) y196.length co56:Value).ownBlock) (.slice (some ⟨go72,0,none⟩) x6_3.length co48) x6_3 from (by (with_reducible repeat (first|apply Kd.N_alloc|apply Kd.N_drewN|apply Kd.N_drew));exact Kd.N_mono HO_6.out (fun _ hk=>⟨hk.1,hk.2.2⟩)));obtain ⟨ce75,hcl75,hM75,hcc75,hfr75⟩:=Kd.N_elem HX75.out z37 (x78_2:Int) (of_decide_eq_true (by first|(with_reducible assumption)|assumption)) (by have h_:(x78_2:Int) < ((x6_3.length:Int):Int):=of_decide_eq_true (by first|(with_reducible assumption)|assumption);first|exact h_|(have e_:=(Kd.N_reads' HO_6.out).1;omega)|simpa using h_);obtain ⟨ua75_0,uc75_0,ua75_1,uc75_1,rfl,ul75_0,ge75_0,ul75_1,ge75_1⟩:=k37_openF hM75;have HP75:=Kd.N_seg HX75.out (x78_2:Int) (of_decide_eq_true (by first|(with_reducible assumption)|assumption)) (by have h_:(x78_2:Int) < ((x6_3.length:Int):Int):=of_decide_eq_true (by first|(with_reducible assumption)|assumption);first|exact h_|(have e_:=(Kd.N_reads' HO_6.out).1;omega)|simpa using h_) (seg:=[.slice Ao73 x17_4.length co73]) (j:=0) hcl75 hcc75 (show 1≤2 from by decide) (x':=(⟨x17_4,(rd_T37 x6_3 x78_2).f1⟩:S37)) (k37_mkF _ _ (⟨x17_4,(rd_T37 x6_3 x78_2).f1⟩:S37) (Kd.R_reads' (Kd.R_mono (ok':=(fun k_=>((fun k_=>(w.heap.size≤k_)∧some k_ ≠ (.slice (some ad199) y196.length co56:Value).ownBlock)) k_∧k_ ≠ go72)) (Kd.R_apart' (HO_17.out) (Kd.N_typed HO_6.out) (by decide)) (fun k_ hk=>⟨⟨hk.1.1,hk.1.2⟩,fun e_=>(hk.2) (by rw [e_];rfl)⟩))).2.1 (Kd.R_F (Kd.R_mono (ok':=(fun k_=>((fun k_=>(w.heap.size≤k_)∧some k_ ≠ (.slice (some ad199) y196.length co56:Value).ownBlock)) k_∧k_ ≠ go72)) (Kd.R_apart' (HO_17.out) (Kd.N_typed HO_6.out) (by decide)) (fun k_ hk=>⟨⟨hk.1.1,hk.1.2⟩,fun e_=>(hk.2) (by rw [e_];rfl)⟩))) ul75_1 ge75_1) (fun _ hk=>hk);have hx75_0:=hcc75 0 _ rfl;(try simp only [show (k37).sz=2 from rfl,Nat.mul_one,Nat.add_zero] at hx75_0);have hf75_0:=hfr75 0;(try simp only [show (k37).sz=2 from rfl,Nat.mul_one,Nat.add_zero] at hf75_0);clear hcl75 hcc75 hfr75 hM75)|((with_reducible refine gate_store (t:=35) (p:=124) rfl ?_);refine store_event (t:=35) (p:=124) (v:=?vo_w76) (w1:=(w74.setCell ⟨go72,(x78_2:Int).toNat * 2,none⟩ (.slice Ao73 x17_4.length co73))) ?hg ?ho ?hn ?hr ?_;(case ho=>rfl);(case hg=>rfl);(case hn=>rfl);(case hr=>(go_simp;try rfl));intro w76 hw;have hg:w74.grownBy w76 (some go72):=(by rw [hw];exact HP75.2);have hp_:Kd.N k37 37 w76 w.heap.size (fun k_=>(w.heap.size≤k_)∧some k_ ≠ (.slice (some ad199) y196.length co56:Value).ownBlock) (.slice (some ⟨go72,0,none⟩) x6_3.length co48) y207:=(by rw [hw,Ny207.out];exact HP75.1);clear HP75;have n0_:=qK (hp_);have n1_:=qK (Kd.R_over' (v:=(.slice (some ⟨go72,0,none⟩) x6_3.length co48)) (by (with_reducible repeat (first|apply rL|apply rN|apply rW));exact HO_87.out) (Kd.N_typed HO_6.out) (by decide) hg);have n2_:=qK (Kd.V_afterv (v:=(.slice (some ⟨go72,0,none⟩) x6_3.length co48)) (v1:=(.slice (some ⟨go72,0,none⟩) x6_3.length co48)) (ok:=(fun k_=>(w.heap.size≤k_)∧some k_ ≠ (.slice Ao73 x17_4.length co73:Value).ownBlock∧some k_ ≠ (.slice (some ad199) y196.length co56:Value).ownBlock)) (by (with_reducible repeat (first|apply Kd.V_alloc|apply Kd.V_drewN|apply Kd.V_drew));exact HL205_0.out) hg (.inl rfl));have n3_:=qK (Kd.V_afterv (v:=(.slice (some ⟨go72,0,none⟩) x6_3.length co48)) (v1:=(.slice (some ⟨go72,0,none⟩) x6_3.length co48)) (ok:=(fun k_=>(w.heap.size≤k_)∧some k_ ≠ (.slice Ao73 x17_4.length co73:Value).ownBlock∧some k_ ≠ (.slice (some ad199) y196.length co56:Value).ownBlock)) (by (with_reducible repeat (first|apply Kd.V_alloc|apply Kd.V_drewN|apply Kd.V_drew));exact HL205_1.out) hg (.inl rfl));have n4_:=qK ((by rw [hw];exact qS (HB.out) GB72.out:Below w.heap.size w w76));clear HO_6;clear HO_87;clear HL205_0;clear HL205_1;clear HB;clear HO_17;have HO_6:=n0_;have HO_87:=n1_;have HL205_0:=n2_;have HL205_1:=n3_;have HB:=n4_;clear n0_ n1_ n2_ n3_ n4_;clear hg hw hp_))
                        (try rw [show ({block:=go72,off:=x78_2.toNat * 2,spot:=none}:Addr)=Addr.add ⟨go72,0,none⟩ (x78_2.toNat * 2) from by simp [Addr.add]]);(try simp only [← hl6_3]);go_roundg k4
                        case measure=>have:=HK1.out;have:=HK2.out;have:=HK3.out;have:=HK4.out;omega
                        case rel=>exact ⟨(y207),(wrap64 (x89_3 + 1)),(by first|rfl|(simp;done)|(simp [*];done)),H',⟨by have:=HK1.out;have:=HK2.out;have:=HK3.out;have:=HK4.out;omega⟩,⟨by (try simp only [hl6_2]);(try simp only [hl6_3]);(with_reducible repeat (first|apply Kd.N_alloc|apply Kd.N_drewN|apply Kd.N_drew));exact HO_6.out⟩,⟨by (try simp only [hl6_2]);(try simp only [hl6_3]);(with_reducible repeat (first|apply rL|apply rN|apply rW));exact Kd.R_mono HO_87.out (fun _ hk=>hk.1)⟩,⟨by repeat (first|(with_reducible first|exact HB.out|apply qA|apply qD|apply qO)|exact HB.out)⟩⟩
                       ·replace c71:=Bool.eq_false_iff.mpr c71;subst c71;have H1:(spec_CoverOf.l4 k4 a1 x6_3 x78_2 (x6_1.length:Int) x78_2 y196 (y196.length:Int) (wrap64 (x89_3 + 1)))=some (r1,r2):=by rw [if_neg (show ¬ (false=true) by decide)] at H;exact H
                        clear H;have H:=H1;clear H1;have H':=qK H;clear H;have p205:0≤(x78_2:Int):=of_decide_eq_true (by first|(with_reducible assumption)|assumption);have q205:x78_2 < (x6_3.length:Int):=of_decide_eq_true (by first|(with_reducible assumption)|assumption);obtain ⟨ad205,A205_0,c205_0,A205_1,c205_1,e205,hx205_0,hx205_1,hl205_0,hi205_0,hl205_1,hi205_1⟩:=at_T37 (Kd.N_reads' HO_6.out).2.2 x78_2 p205 q205;obtain rfl:ad195=ad205:=(by injection e205);obtain ⟨ce205,hce205,hMe205,hcc205⟩:=Kd.N_get HO_6.out z37 x78_2 p205 (by first|exact q205|exact of_decide_eq_true (by first|(with_reducible assumption)|assumption)|(have e_:=(Kd.N_reads' HO_6.out).1;omega));obtain ⟨ua205_0,uc205_0,ua205_1,uc205_1,rfl,ul205_0,ge205_0,ul205_1,ge205_1⟩:=k37_openF hMe205;have hv205_0:=hcc205 0 _ rfl;rw [Nat.add_zero] at hv205_0;replace hv205_0:=Option.some.inj (hv205_0.symm.trans hx205_0);injection hv205_0 with hva_ hvn_ hvc_
                        rw [hva_] at ge205_0;rw [hvc_] at ul205_0;have HL205_0:=qK (show Kd.V (Kd.int .i64) 3 _ w.heap.size _ _ ((rd_T37 x6_3 x78_2).f0) from Kd.V_mk ul205_0 ge205_0);clear hva_ hvn_ hvc_ ge205_0 ul205_0;have hv205_1:=hcc205 1 _ rfl;rw [add_field _ _ 1 (by omega)] at hv205_1;replace hv205_1:=Option.some.inj (hv205_1.symm.trans hx205_1);injection hv205_1 with hva_ hvn_ hvc_
                        rw [hva_] at ge205_1;rw [hvc_] at ul205_1;have HL205_1:=qK (show Kd.V (Kd.int .i64) 3 _ w.heap.size _ _ ((rd_T37 x6_3 x78_2).f1) from Kd.V_mk ul205_1 ge205_1);clear hva_ hvn_ hvc_ ge205_1 ul205_1;clear hcc205 hce205;have HR205_0:=qK hi205_0;have HC205_0:=qK hl205_0;clear hi205_0 hl205_0;have HR205_1:=qK hi205_1;have HC205_1:=qK hl205_1;clear hi205_1 hl205_1;replace p205:=eq_true p205;replace q205:=eq_true q205;obtain ⟨Ao77,co77,eo77⟩:=Kd.R_slice HO_17.out;subst eo77;go_wp2_with (first|((with_reducible refine gate_callee (f:=21) rfl ?_);refine goesL_ (some 119) rfl rfl Try.func21 (by kernel_rfl) rfl #[.slice (some ad195) x6_3.length co48,.agg #[.slice Ao77 x17_4.length co77,.slice A205_1 ((rd_T37 x6_3 x78_2).f1).length c205_1]] rfl (by (try simp only [mT,mC,mN]);first|done|rfl|(simp only [lD,lT];rfl)) ?_;(with_reducible refine (spec_l7Implies.calls k4 _ _ x6_3 _ _ x17_4 _ _ ((rd_T37 x6_3 x78_2).f1) false _ ?side1 ?side2 ?side3 ?side4 ?side5 ?side6 A70.out).mono ?_);(case side1=>repeat (first|exact (Kd.N_reads' HO_6.out).2.2|(with_reducible first|refine cL ?_ _|refine cN ?_ _|refine cW ?_)));(case side2=>exact (Kd.N_reads' HO_6.out).2.1);(case side3=>repeat (first|exact (Kd.R_reads' HO_17.out).2.2|(with_reducible first|refine cL ?_ _|refine cN ?_ _|refine cW ?_)));(case side4=>exact (Kd.R_reads' HO_17.out).2.1);(case side5=>repeat (first|exact (by repeat (first|(with_reducible exact HR205_1.out)|(with_reducible first|refine cL ?_ _|refine cN ?_ _|refine cW ?_)|exact HR205_1.out))|(with_reducible first|refine cL ?_ _|refine cN ?_ _|refine cW ?_)));(case side6=>exact HC205_1.out);rintro e w78 ⟨rfl,hb⟩;refine ⟨_,rfl,?_⟩;have n0_:=qK (Kd.N_below (by (with_reducible repeat (first|apply Kd.N_alloc|apply Kd.N_drewN|apply Kd.N_drew));exact HO_6.out) hb);have n1_:=qK (rB (by (with_reducible repeat (first|apply rL|apply rN|apply rW));exact HO_17.out) hb);have n2_:=qK (rB (by (with_reducible repeat (first|apply rL|apply rN|apply rW));exact HO_87.out) hb);have n3_:=qK (Kd.V_below (by (with_reducible repeat (first|apply Kd.V_alloc|apply Kd.V_drewN|apply Kd.V_drew));exact HL205_0.out) hb);have n4_:=qK (Kd.V_below (by (with_reducible repeat (first|apply Kd.V_alloc|apply Kd.V_drewN|apply Kd.V_drew));exact HL205_1.out) hb);have n5_:=qK (cB (by repeat (first|(with_reducible exact HR205_0.out)|(with_reducible first|refine cL ?_ _|refine cN ?_ _|refine cW ?_)|exact HR205_0.out)) hb);have n6_:=qK (cB (by repeat (first|(with_reducible exact HR205_1.out)|(with_reducible first|refine cL ?_ _|refine cN ?_ _|refine cW ?_)|exact HR205_1.out)) hb);have n7_:=qK (qT (by repeat (with_reducible first|exact HB.out|apply qA|apply qD|apply qO)) hb);clear HO_6;clear HO_17;clear HO_87;clear HL205_0;clear HL205_1;clear HR205_0;clear HR205_1;clear HB;have HO_6:=n0_;have HO_17:=n1_;have HO_87:=n2_;have HL205_0:=n3_;have HL205_1:=n4_;have HR205_0:=n5_;have HR205_1:=n6_;have HB:=n7_;clear n0_ n1_ n2_ n3_ n4_ n5_ n6_ n7_;(try clear hb)))
                        (try simp only [← hl6_3]);go_roundg k4
                        case measure=>have:=HK1.out;have:=HK2.out;have:=HK3.out;have:=HK4.out;omega
                        case rel=>exact ⟨(x6_3),(wrap64 (x89_3 + 1)),(by first|rfl|(simp;done)|(simp [*];done)),H',⟨by have:=HK1.out;have:=HK2.out;have:=HK3.out;have:=HK4.out;omega⟩,⟨by (try simp only [hl6_2]);(try simp only [hl6_3]);(with_reducible repeat (first|apply Kd.N_alloc|apply Kd.N_drewN|apply Kd.N_drew));exact Kd.N_mono HO_6.out (fun _ hk=>⟨hk.1,hk.2.2⟩)⟩,⟨by (try simp only [hl6_2]);(try simp only [hl6_3]);(with_reducible repeat (first|apply rL|apply rN|apply rW));exact Kd.R_mono HO_87.out (fun _ hk=>hk.1)⟩,⟨by repeat (first|(with_reducible first|exact HB.out|apply qA|apply qD|apply qO)|exact HB.out)⟩⟩
                      ·rw [if_neg c69] at H;exact absurd H (by simp)
                     ·rw [if_neg c68] at H;exact absurd H (by simp)
                 ·rw [if_neg c61] at H;exact absurd H (by simp)
                ·rw [if_neg c60] at H;exact absurd H (by simp)
               ·rw [if_neg c59] at H;exact absurd H (by simp)
              ·rw [if_neg c58] at H;exact absurd H (by simp)
             ·rw [if_neg c57] at H;have c57b0:decide (x89_3 < (y196.length:Int))=false:=decide_eq_false c57;clear c57;have H':=qK H;clear H;go_wp2
              (try simp only [← hl6_2,← hl6_3]);go_roundg k3
              case measure=>have:=HK1.out;have:=HK2.out;have:=HK3.out;omega
              case rel=>exact ⟨(x6_3),(wrap64 (x78_2 + 1)),(by first|rfl|(simp;done)|(simp [*];done)),H',⟨by have:=HK1.out;have:=HK2.out;have:=HK3.out;omega⟩,⟨by (try simp only [hl6_2]);(try simp only [hl6_3]);(with_reducible repeat (first|apply Kd.N_alloc|apply Kd.N_drewN|apply Kd.N_drew));exact Kd.N_mono HO_6.out (fun _ hk=>hk.1)⟩,⟨by repeat (first|(with_reducible first|exact HB.out|apply qA|apply qD|apply qO)|exact HB.out)⟩⟩
          ·rw [if_neg c52] at H;exact absurd H (by simp)
         ·rw [if_neg c51] at H;exact absurd H (by simp)
        ·rw [if_neg c50] at H;exact absurd H (by simp)
       ·rw [if_neg c49] at H;have c49b0:decide (x78_2 < (x6_1.length:Int))=false:=decide_eq_false c49;clear c49;have c49b1:decide (x78_2 < (x6_2.length:Int))=false:=(congrArg (fun n_:Nat=>decide (x78_2 < (n_:Int))) hl6_2).symm.trans c49b0;have H':=qK H;clear H;go_wp2
        go_loopg [6,20] k2 (fun kq v6 v20 w'=>∃ (x6_3:List (S37)) (x20_3:Int),v20=.int .i64 x20_3∧Aside0 (spec_CoverOf.l6 kq a1 x6_3 x20_3=some (r1,r2))∧Aside0 (kq≤k2)∧Aside0 (Kd.N k37 37 w' w.heap.size (fun k_=>(w.heap.size≤k_)) v6 x6_3)∧Aside0 (Below w.heap.size w w'))
        case atStart=>exact ⟨(x6_2),(0),(by first|rfl|(simp;done)|(simp [*];done)),H',⟨Nat.le_refl _⟩,⟨by (try simp only [hl6_2]);(with_reducible repeat (first|apply Kd.N_alloc|apply Kd.N_drewN|apply Kd.N_drew));exact HO_6.out⟩,⟨by repeat (first|(with_reducible first|exact HB.out|apply qA|apply qD|apply qO)|exact HB.out)⟩⟩
        case round =>
         clear H';try clear c1
         try clear p1
         try clear q1
         try clear hx1
         try clear qi1
         try clear c2
         try clear p2
         try clear q2
         try clear hx2
         try clear c3
         try clear c4
         try clear c5
         try clear c6
         try clear c6b0
         try clear p6
         try clear c7
         try clear c7b0
         try clear p7
         try clear q7
         try clear hx7
         try clear hf7
         try clear c8
         try clear c8b0
         try clear c11
         try clear c11b0
         try clear c12
         try clear c12b0
         try clear c13
         try clear c13b0
         try clear c15
         try clear c15b0
         try clear c16
         try clear c16b0
         try clear c17
         try clear c17b0
         try clear p17
         try clear q17
         try clear hx17
         try clear qi17
         try clear c18
         try clear c19
         try clear p19
         try clear q19
         try clear hx19
         try clear c20
         try clear p20
         try clear q20
         try clear hx20
         try clear c21
         try clear c22
         try clear c22b0
         try clear c22b1
         try clear c23
         try clear c23b0
         try clear c23b1
         try clear c26
         try clear c32
         try clear c36
         try clear c37
         try clear c38
         try clear c49
         try clear c49b0
         try clear c50
         try clear c50b0
         try clear c51
         try clear c51b0
         try clear c52
         try clear c57
         try clear c57b0
         try clear c58
         try clear c58b0
         try clear c59
         try clear c59b0
         try clear c60
         try clear c60b0
         try clear c61
         try clear c61b0
         try clear c62
         try clear c62b0
         try clear c63
         try clear c63b0
         try clear c64
         try clear c64b0
         try clear p64
         try clear c65
         try clear c65b0
         try clear c65b1
         try clear c66
         try clear c68
         try clear c68b0
         try clear c69
         try clear c69b0
         try clear c71
         try clear c72
         try clear p72
         try clear q72
         try clear hx72
         try clear hf72
         try clear c75
         try clear hx75
         try clear hf75
         try clear hcz10_0
         try clear hcz10_1
         try clear hcz21_0
         try clear hcz21_1
         try clear hcz27_0
         try clear hcz27_1
         try clear hcz29_0
         try clear hcz29_1
         try clear hcz30_0
         try clear hcz30_1
         try clear hcz33_0
         try clear hcz33_1
         try clear hcz35_0
         try clear hcz35_1
         try clear hcz41_0
         try clear hcz41_1
         try clear hfz10_0
         try clear hfz10_1
         try clear hfz21_0
         try clear hfz21_1
         try clear hfz27_0
         try clear hfz27_1
         try clear hfz29_0
         try clear hfz29_1
         try clear hfz30_0
         try clear hfz30_1
         try clear hfz33_0
         try clear hfz33_1
         try clear hfz35_0
         try clear hfz35_1
         try clear hfz41_0
         try clear hfz41_1
         try clear hx173_0
         try clear hx173_1
         try clear hx175_0
         try clear hx176_0
         try clear hx176_1
         try clear hx178_0
         try clear hx195_0
         try clear hx195_1
         try clear hx199_0
         try clear hx200_0
         try clear hx200_1
         try clear hx201_0
         try clear hx205_0
         try clear hx205_1
         try clear hx72_0
         try clear hx72_1
         try clear hx75_0
         try clear p1
         try clear p17
         try clear p173
         try clear p175
         try clear p176
         try clear p178
         try clear p19
         try clear p195
         try clear p199
         try clear p2
         try clear p20
         try clear p200
         try clear p201
         try clear p205
         try clear p6
         try clear p72
         try clear q1
         try clear q17
         try clear q173
         try clear q175
         try clear q176
         try clear q178
         try clear q19
         try clear q195
         try clear q199
         try clear q2
         try clear q20
         try clear q200
         try clear q201
         try clear q205
         try clear q72
         obtain ⟨x6_3,x20_3,rfl,HA,HK3,HO_6,HB⟩:=hrel;cases gk with
         | zero=>exact absurd HA.out (by simp [spec_CoverOf.l6])
         | succ k3 =>
          have H:=HA.out;clear HA;simp only [spec_CoverOf.l6] at H;by_cases c79:x20_3 < (x6_3.length:Int)
          ·rw [if_pos c79] at H;have c79b0:decide (x20_3 < (x6_3.length:Int))=true:=decide_eq_true c79;clear c79;obtain ⟨y208,hy208⟩:∃ y_:List (S37),y_=(([]:List (S37))):=⟨_,rfl⟩;replace H:(if 0≤x20_3 then (if x20_3≤(x6_3.length:Int) then ((some (x6_3.take (x20_3:Int).toNat:List (S37))).bind fun y211=>(if y208.length + y211.length < 2932031007402 then ((some (y208 ++ y211:List (S37))).bind fun y216=>(if 0≤(wrap64 (x20_3 + 1)) then (if (wrap64 (x20_3 + 1))≤(x6_3.length:Int) then ((some (x6_3.drop ((wrap64 (x20_3 + 1)):Int).toNat:List (S37))).bind fun y219=>(if y216.length + y219.length < 2932031007402 then ((some (y216 ++ y219:List (S37))).bind fun y224=>((spec_l7Implies.f k3 y224 ((rd_T37 x6_3 x20_3).f0) ((rd_T37 x6_3 x20_3).f1)).bind fun t228=>(if t228=true then (spec_CoverOf.l6 k3 a1 y224 x20_3) else (spec_CoverOf.l6 k3 a1 x6_3 (wrap64 (x20_3 + 1)))))) else (none))) else (none)) else (none))) else (none))) else (none)) else (none))=some (r1,r2):=by first|(rw [hy208];with_reducible exact H)|(have H2_:=(Option.bind_some _ _).symm.trans H;rw [hy208];with_reducible exact H2_)|(have H2_:=(Option.bind_some _ _).symm.trans H;with_reducible exact H2_)|with_reducible exact H|(rw [hy208];exact H)|exact H
           have Ny208:=qK hy208;clear hy208;by_cases c80:0≤x20_3
           ·rw [if_pos c80] at H;have c80b0:=eq_true c80;have c80b1:decide (0≤x20_3)=true:=decide_eq_true c80;clear c80;by_cases c81:x20_3≤(x6_3.length:Int)
            ·rw [if_pos c81] at H;have c81b0:=eq_true c81;have c81b1:decide (x20_3≤(x6_3.length:Int))=true:=decide_eq_true c81;clear c81;obtain ⟨y211,hy211⟩:∃ y_:List (S37),y_=(x6_3.take (x20_3:Int).toNat):=⟨_,rfl⟩;replace H:(if y208.length + y211.length < 2932031007402 then ((some (y208 ++ y211:List (S37))).bind fun y216=>(if 0≤(wrap64 (x20_3 + 1)) then (if (wrap64 (x20_3 + 1))≤(x6_3.length:Int) then ((some (x6_3.drop ((wrap64 (x20_3 + 1)):Int).toNat:List (S37))).bind fun y219=>(if y216.length + y219.length < 2932031007402 then ((some (y216 ++ y219:List (S37))).bind fun y224=>((spec_l7Implies.f k3 y224 ((rd_T37 x6_3 x20_3).f0) ((rd_T37 x6_3 x20_3).f1)).bind fun t228=>(if t228=true then (spec_CoverOf.l6 k3 a1 y224 x20_3) else (spec_CoverOf.l6 k3 a1 x6_3 (wrap64 (x20_3 + 1)))))) else (none))) else (none)) else (none))) else (none))=some (r1,r2):=by first|(rw [hy211];with_reducible exact H)|(have H2_:=(Option.bind_some _ _).symm.trans H;rw [hy211];with_reducible exact H2_)|(have H2_:=(Option.bind_some _ _).symm.trans H;with_reducible exact H2_)|with_reducible exact H|(rw [hy211];exact H)|exact H
             have Ny211:=qK hy211;clear hy211;by_cases c82:y208.length + y211.length < 2932031007402
             ·rw [if_pos c82] at H;have LMc82:=qK c82;clear c82;obtain ⟨y216,hy216⟩:∃ y_:List (S37),y_=(y208 ++ y211):=⟨_,rfl⟩;replace H:(if 0≤(wrap64 (x20_3 + 1)) then (if (wrap64 (x20_3 + 1))≤(x6_3.length:Int) then ((some (x6_3.drop ((wrap64 (x20_3 + 1)):Int).toNat:List (S37))).bind fun y219=>(if y216.length + y219.length < 2932031007402 then ((some (y216 ++ y219:List (S37))).bind fun y224=>((spec_l7Implies.f k3 y224 ((rd_T37 x6_3 x20_3).f0) ((rd_T37 x6_3 x20_3).f1)).bind fun t228=>(if t228=true then (spec_CoverOf.l6 k3 a1 y224 x20_3) else (spec_CoverOf.l6 k3 a1 x6_3 (wrap64 (x20_3 + 1)))))) else (none))) else (none)) else (none))=some (r1,r2):=by first|(rw [hy216];with_reducible exact H)|(have H2_:=(Option.bind_some _ _).symm.trans H;rw [hy216];with_reducible exact H2_)|(have H2_:=(Option.bind_some _ _).symm.trans H;with_reducible exact H2_)|with_reducible exact H|(rw [hy216];exact H)|exact H
              have Ny216:=qK hy216;clear hy216;obtain ⟨ji83,hji83⟩:∃ j_:Int,(wrap64 (x20_3 + 1))=j_:=⟨_,rfl⟩;replace H:(if 0≤(ji83) then (if (ji83)≤(x6_3.length:Int) then ((some (x6_3.drop ((ji83):Int).toNat:List (S37))).bind fun y219=>(if y216.length + y219.length < 2932031007402 then ((some (y216 ++ y219:List (S37))).bind fun y224=>((spec_l7Implies.f k3 y224 ((rd_T37 x6_3 x20_3).f0) ((rd_T37 x6_3 x20_3).f1)).bind fun t228=>(if t228=true then (spec_CoverOf.l6 k3 a1 y224 x20_3) else (spec_CoverOf.l6 k3 a1 x6_3 ji83)))) else (none))) else (none)) else (none))=some (r1,r2):=by first|(rw [hji83] at H;exact H)|(simp only [hji83] at H ⊢;exact H)
              have hji83w:(IntKind.i64.wrap (x20_3 + 1))=ji83:=(i64_w _).trans hji83;by_cases c84:0≤(ji83)
              ·rw [if_pos c84] at H;have c84b0:=eq_true c84;have c84b1:decide (0≤(ji83))=true:=decide_eq_true c84;clear c84;by_cases c85:(ji83)≤(x6_3.length:Int)
               ·rw [if_pos c85] at H;have c85b0:=eq_true c85;have c85b1:decide ((ji83)≤(x6_3.length:Int))=true:=decide_eq_true c85;clear c85;obtain ⟨y219,hy219⟩:∃ y_:List (S37),y_=(x6_3.drop ((ji83):Int).toNat):=⟨_,rfl⟩;replace H:(if y216.length + y219.length < 2932031007402 then ((some (y216 ++ y219:List (S37))).bind fun y224=>((spec_l7Implies.f k3 y224 ((rd_T37 x6_3 x20_3).f0) ((rd_T37 x6_3 x20_3).f1)).bind fun t228=>(if t228=true then (spec_CoverOf.l6 k3 a1 y224 x20_3) else (spec_CoverOf.l6 k3 a1 x6_3 ji83)))) else (none))=some (r1,r2):=by first|(rw [hy219];with_reducible exact H)|(have H2_:=(Option.bind_some _ _).symm.trans H;rw [hy219];with_reducible exact H2_)|(have H2_:=(Option.bind_some _ _).symm.trans H;with_reducible exact H2_)|with_reducible exact H|(rw [hy219];exact H)|exact H
                have Ny219:=qK hy219;clear hy219;by_cases c86:y216.length + y219.length < 2932031007402
                ·rw [if_pos c86] at H;have LMc86:=qK c86;clear c86;obtain ⟨y224,hy224⟩:∃ y_:List (S37),y_=(y216 ++ y219):=⟨_,rfl⟩;replace H:((spec_l7Implies.f k3 y224 ((rd_T37 x6_3 x20_3).f0) ((rd_T37 x6_3 x20_3).f1)).bind fun t228=>(if t228=true then (spec_CoverOf.l6 k3 a1 y224 x20_3) else (spec_CoverOf.l6 k3 a1 x6_3 ji83)))=some (r1,r2):=by first|(rw [hy224];with_reducible exact H)|(have H2_:=(Option.bind_some _ _).symm.trans H;rw [hy224];with_reducible exact H2_)|(have H2_:=(Option.bind_some _ _).symm.trans H;with_reducible exact H2_)|with_reducible exact H|(rw [hy224];exact H)|exact H
                 have Ny224:=qK hy224;clear hy224;replace H:=Option.bind_eq_some_iff.mp H;obtain ⟨t228,A870,H⟩:=H;replace H:(if t228=true then (spec_CoverOf.l6 k3 a1 y224 x20_3) else (spec_CoverOf.l6 k3 a1 x6_3 ji83))=some (r1,r2):=H;have A87:=qK A870;clear A870;by_cases c88:t228=true
                 ·subst c88;have H1:(spec_CoverOf.l6 k3 a1 y224 x20_3)=some (r1,r2):=by rw [if_pos rfl] at H;exact H
                  clear H;have H:=H1;clear H1;have H':=qK H;clear H;obtain ⟨Ao89,co89,eo89⟩:=Kd.N_slice HO_6.out;subst eo89;try go_wp2
                  (try (rw [drewN_self wr];generalize hq_:World.drewN wr _=wr;have n0_:Aside0 (Kd.N k37 37 wr w.heap.size (fun k_=>(w.heap.size≤k_)) (.slice Ao89 x6_3.length co89) x6_3):=⟨by rw [← hq_];exact (by (with_reducible repeat (first|apply Kd.N_alloc|apply Kd.N_drewN|apply Kd.N_drew));exact HO_6.out)⟩;have n1_:Aside0 (Below w.heap.size w wr):=⟨by rw [← hq_];exact (by repeat (with_reducible first|exact HB.out|apply qA|apply qD|apply qO))⟩;clear HO_6 HB hq_;have HO_6:=n0_;have HB:=n1_;clear n0_ n1_));have n0_:=qK (Kd.N_drew HO_6.out);have n1_:=qK (qO HB.out);clear HO_6;clear HB;have HO_6:=n0_;have HB:=n1_;clear n0_ n1_;have q91:(x20_3:Int)≤((x6_3.length:Int):Int):=of_decide_eq_true (by first|(with_reducible assumption)|assumption);obtain ⟨i091,hi091,_,hsz91,_⟩:=info_parts info37;have hroom91:x6_3.length≤co89:=(Kd.N_reads' HO_6.out).2.1;have hC91:Kd.F k37 _ _ Ao89 x6_3.length x6_3:=(Kd.V_at (base:=w.heap.size) (Kd.N_V HO_6.out)).2.2;have hcut91:=cut_to (P:=Try.prog) 24 37 .i64 Try.underlying24 hi091 Ao89 x6_3.length co89 x20_3 (of_decide_eq_true (by first|(with_reducible assumption)|assumption)) q91 hroom91;have hr91:=Kd.F_take (m:=(x20_3:Int).toNat) hC91 (by omega);have hy91:y211.length=(x20_3:Int).toNat:=(by rw [Ny211.out,lT];omega);rw [← Ny211.out] at hr91;rw [← hy91] at hcut91;have HO215:=qK (show Kd.V k37 37 _ w.heap.size _ (.slice Ao89 y211.length co89) y211 from Kd.V_mk (by omega) hr91);have HC215:=qK (show y211.length≤co89 from by omega);clear hr91 hC91 hroom91 hi091 hsz91;have KY91:=qK hy91;clear hy91;replace q91:=eq_true q91;have q92:((ji83):Int)≤((x6_3.length:Int):Int):=of_decide_eq_true (by first|(with_reducible assumption)|assumption);obtain ⟨i092,hi092,_,hsz92,_⟩:=info_parts info37;have hroom92:x6_3.length≤co89:=(Kd.N_reads' HO_6.out).2.1;have hC92:Kd.F k37 _ _ Ao89 x6_3.length x6_3:=(Kd.V_at (base:=w.heap.size) (Kd.N_V HO_6.out)).2.2;have q092:(0:Int)≤((ji83):Int):=of_decide_eq_true (by first|(with_reducible assumption)|assumption);have hcut92:=cut_from (P:=Try.prog) 24 37 .i64 Try.underlying24 hi092 2 hsz92 Ao89 x6_3.length co89 (ji83) q092 q92;have hr92:=Kd.F_cut (m:=((ji83):Int).toNat) (c:=co89) hC92 (by omega) hroom92;obtain ⟨A92,hA92⟩:∃ A1,A1=(if co89=((ji83):Int).toNat then Ao89 else (Ao89:Option Addr).map (·.add (((ji83):Int).toNat * 2))):=⟨_,rfl⟩;obtain ⟨c92,hc92⟩:∃ c1,c1=co89 - ((ji83):Int).toNat:=⟨_,rfl⟩;have hy92:y219.length=x6_3.length - ((ji83):Int).toNat:=(by rw [Ny219.out,lD] <;> omega);rw [show (x6_3).drop ((ji83):Int).toNat=y219 from Ny219.out.symm] at hr92;replace hr92:Kd.F k37 _ _ A92 y219.length y219:=(by rw [hA92];exact hr92);rw [← hy92,← hA92,← hc92] at hcut92;have HO223:=qK (show Kd.V k37 37 _ w.heap.size _ (.slice A92 y219.length c92) y219 from Kd.V_mk (by rw [hy92,hc92];exact Nat.sub_le_sub_right hroom92 _) hr92);have HC223:=qK (show y219.length≤c92 from by rw [hy92,hc92];exact Nat.sub_le_sub_right hroom92 _);clear hr92 hC92 hroom92 hi092 hsz92 hc92;have KY92:=qK hy92;have KA92:=qK hA92;clear hy92 hA92;replace q92:=eq_true q92;refine start_ (n:=11) (S:=fun w'=>True) (ds:=[]) #[Z,Z,Z,Z,Z,Z,Z,Z,Z,Z,Z] (by kernel_rfl) rfl rfl trivial (fun hHeld=>?_);refine with_tabW spec_CoverOf.tab39 spec_CoverOf.bits39 (fun HT_ HW_=>?_);generalize wr.drew=w90 at HO_6 HB HO215 HO223 hHeld ⊢
                  refine pure_ (i:=1) (N:=some 132) (v:=?_) (a':=?_) #[Z,Y,Z,Z,Z,Z,Z,Z,Z,Z,Z] rfl rfl (any_of HT_.out (by kernel_rfl)) (fun _ _ _ h=>h) (Or.inl ⟨by rfl,?_⟩) ?_ ?_;rotate_left
                  ·intro w';go_simp;with_reducible rfl
                  rotate_left
                  ·simp only [Act.put,sIb,sZ,sS,i64_w,i32_w];rfl
                  refine pure_ (i:=2) (N:=some 133) (v:=?_) (a':=?_) #[Z,Y,Y,Z,Z,Z,Z,Z,Z,Z,Z] rfl rfl (any_of HT_.out (by kernel_rfl)) (fun _ _ _ h=>h) (Or.inl ⟨by rfl,?_⟩) ?_ ?_;rotate_left
                  ·intro w';go_simp;with_reducible rfl
                  rotate_left
                  ·simp only [Act.put,sIb,sZ,sS,i64_w,i32_w];rfl
                  refine pure_ (i:=3) (N:=some 134) (v:=?_) (a':=?_) #[Z,Y,Y,Y,Z,Z,Z,Z,Z,Z,Z] rfl rfl (any_of HT_.out (by kernel_rfl)) (fun _ _ _ h=>h) (Or.inl ⟨by rfl,?_⟩) ?_ ?_;rotate_left
                  ·intro w';go_simp;with_reducible rfl
                  rotate_left
                  ·simp only [Act.put,sIb,sZ,sS,i64_w,i32_w];rfl
                  refine pure_ (i:=5) (N:=some 136) (v:=?_) (a':=?_) #[Z,Y,Y,Y,Z,Y,Z,Z,Z,Z,Z] rfl rfl (any_of HT_.out (by kernel_rfl)) (fun _ _ _ h=>h) (Or.inl ⟨by rfl,?_⟩) ?_ ?_;rotate_left
                  ·intro w';go_simp;with_reducible rfl
                  rotate_left
                  ·simp only [Act.put,sIb,sZ,sS,i64_w,i32_w];rfl
                  refine pure_ (i:=6) (N:=some 137) (v:=?_) (a':=?_) #[Z,Y,Y,Y,Z,Y,Y,Z,Z,Z,Z] rfl rfl (any_of HT_.out (by kernel_rfl)) (fun _ _ _ h=>h) (Or.inl ⟨by rfl,?_⟩) ?_ ?_;rotate_left
                  ·intro w';go_simp;with_reducible rfl
                  rotate_left
                  ·simp only [Act.put,sIb,sZ,sS,i64_w,i32_w];rfl
                  refine pure_ (i:=7) (N:=some 138) (v:=?_) (a':=?_) #[Z,Y,Y,Y,Z,Y,Y,Y,Z,Z,Z] rfl rfl (any_of HT_.out (by kernel_rfl)) (fun _ _ _ h=>h) (Or.inl ⟨by rfl,?_⟩) ?_ ?_;rotate_left
                  ·intro w';go_simp;with_reducible rfl
                  rotate_left
                  ·simp only [Act.put,sIb,sZ,sS,i64_w,i32_w];rfl
                  refine pure_ (i:=8) (N:=some 139) (v:=?_) (a':=?_) #[Z,Y,Y,Y,Z,Y,Y,Y,Y,Z,Z] rfl rfl (any_of HT_.out (by kernel_rfl)) (fun _ _ _ h=>h) (Or.inl ⟨by rfl,?_⟩) ?_ ?_;rotate_left
                  ·intro w';go_simp;with_reducible rfl
                  rotate_left
                  ·simp only [Act.put,sIb,sZ,sS,i64_w,i32_w];rfl
                  refine one_ (i:=0) (N:=some 131) #[Y,Y,Y,Y,Z,Y,Y,Y,Y,Z,Z] rfl rfl (one_of HT_.out (by kernel_rfl)) (by decide) (fun K hK=>?_);refine Kd.N_lit_step k37 _ 37 ?hg (N':=131) ?hd (xs:=([]:List (S37))) (inner:=[]) (ok:=(fun k_=>(w.heap.size≤k_)∧some k_ ≠ (.slice Ao89 x6_3.length co89:Value).ownBlock)) (okp:=(fun k_=>(w.heap.size≤k_)∧some k_ ≠ (.slice Ao89 x6_3.length co89:Value).ownBlock)) ?hr ?hp (fun _ hk=>hk) ((show ∀ k_,w90.heap.size≤k_→(fun k_=>(w.heap.size≤k_)∧some k_ ≠ (.slice Ao89 x6_3.length co89:Value).ownBlock) k_ from fun k_ hk=>⟨(Nat.le_trans (qZ (by repeat (with_reducible first|exact HB.out|apply qA|apply qD|apply qO))) hk),Kd.fresh' (Kd.N_lt (by (with_reducible repeat (first|apply Kd.N_alloc|apply Kd.N_drewN|apply Kd.N_drew));exact HO_6.out)) k_ hk⟩) _ (Nat.le_refl _)) (Below.refl _ _) (Nat.le_refl _) (by simp) ?_;(case hd=>rfl);(case hg=>rfl);(case hr=>(go_simp;try rfl));(case hp=>exact (Reps.none _ _));intro v209 w93 ho94 hb hg_ hnew_;clear hg_ hnew_;(first|rw [← Ny208.out] at ho94|(simp only [Int.reduceToNat] at ho94;rw [← Ny208.out] at ho94));have n0_:=qK (Kd.N_elder' (by (with_reducible repeat (first|apply Kd.N_alloc|apply Kd.N_drewN|apply Kd.N_drew));exact HO_6.out) (Kd.N_base ho94) hb);have n1_:=qK (Kd.V_elder' (by (with_reducible repeat (first|apply Kd.V_alloc|apply Kd.V_drewN|apply Kd.V_drew));exact HO215.out) (Kd.N_base ho94) hb);have n2_:=qK (Kd.V_elder' (by (with_reducible repeat (first|apply Kd.V_alloc|apply Kd.V_drewN|apply Kd.V_drew));exact HO223.out) (Kd.N_base ho94) hb);have n3_:=qK (Kd.N_lower ho94 (qZ (by repeat (with_reducible first|exact HB.out|apply qA|apply qD|apply qO))));have n4_:=qK (qT (by repeat (with_reducible first|exact HB.out|apply qA|apply qD|apply qO)) hb);clear HO_6;clear HO215;clear HO223;clear HB;have HO_6:=n0_;have HO215:=n1_;have HO223:=n2_;have HO210:=n3_;have HB:=n4_;clear n0_ n1_ n2_ n3_ n4_;clear hb ho94;refine hK.out _ _ trivial (fun hHeld=>?_);clear hK K;refine norm_ (a':=?_) ?_ ?_;rotate_left
                  ·show Act.put _ (some 131) _=_
                   simp only [Act.put,sIb,sZ,sS,i64_w,i32_w];rfl
                  refine one_ (i:=4) (N:=some 135) #[Y,Y,Y,Y,Y,Y,Y,Y,Y,Z,Z] rfl rfl (one_of HT_.out (by kernel_rfl)) (by decide) (fun K hK=>?_);refine Kd.N_append_rows_step k37 (w0:=w) w.heap.size (by rfl) (.tmp 131) (.tmp 134) 24 37 (.agg #[(.slice none 0 0),(.slice none 0 0)]) 48 rfl Try.underlying24 info37 rfl (by decide) (by omega) v209 y208 y211 _ _ _ (fun k_=>(w.heap.size≤k_)) (fun k_=>((fun k_=>(w.heap.size≤k_))) k_∧some k_ ≠ (v209:Value).ownBlock) rfl rfl ?aO ?aR (fun _ hk=>hk) ?aF ?aB ?aS ?aL ?_;(case aR=>exact (by skip;exact Kd.V_F (Kd.V_mono (ok':=(fun k_=>((fun k_=>(w.heap.size≤k_))) k_∧some k_ ≠ (v209:Value).ownBlock)) (HO215.out) (fun k_ hk=>⟨hk.1,hk.2⟩))));(case aB=>exact (by repeat (with_reducible first|exact HB.out|apply qA|apply qD|apply qO)));(case aF=>exact (fun k_ hk=>(Nat.le_trans (qZ (by repeat (with_reducible first|exact HB.out|apply qA|apply qD|apply qO))) hk)));(case aO=>exact (by (with_reducible repeat (first|apply Kd.N_alloc|apply Kd.N_drewN|apply Kd.N_drew));exact Kd.N_mono HO210.out (fun _ hk=>hk.1)));(case aS=>exact (qZ (by repeat (with_reducible first|exact HB.out|apply qA|apply qD|apply qO))));(case aL=>have:=LMc82.out;omega);intro v217 w95 ho hb hg hat;rw [← Ny216.out] at ho;have n0_:=qK (Kd.N_afterv (ok:=(fun k_=>(w.heap.size≤k_))) (by (with_reducible repeat (first|apply Kd.N_alloc|apply Kd.N_drewN|apply Kd.N_drew));exact HO_6.out) hg hat);have n1_:=qK (Kd.V_afterv (ok:=(fun k_=>(w.heap.size≤k_))) (by (with_reducible repeat (first|apply Kd.V_alloc|apply Kd.V_drewN|apply Kd.V_drew));exact HO215.out) hg hat);have n2_:=qK (Kd.V_afterv (ok:=(fun k_=>(w.heap.size≤k_))) (by (with_reducible repeat (first|apply Kd.V_alloc|apply Kd.V_drewN|apply Kd.V_drew));exact HO223.out) hg hat);have n3_:=qK (hb);have n4_:=qK (ho);clear HO_6;clear HO215;clear HO223;clear HB;clear HO210;have HO_6:=n0_;have HO215:=n1_;have HO223:=n2_;have HB:=n3_;have HO218:=n4_;clear n0_ n1_ n2_ n3_ n4_;clear ho hb hg hat;refine hK.out _ _ trivial (fun hHeld=>?_);clear hK K;refine norm_ (a':=?_) ?_ ?_;rotate_left
                  ·show Act.put _ (some 135) _=_
                   simp only [Act.put,sIb,sZ,sS,i64_w,i32_w];rfl
                  refine one_ (i:=9) (N:=some 140) #[Y,Y,Y,Y,Y,Y,Y,Y,Y,Y,Z] rfl rfl (one_of HT_.out (by kernel_rfl)) (by decide) (fun K hK=>?_);refine Kd.N_append_rows_step k37 (w0:=w) w.heap.size (by rfl) (.tmp 135) (.tmp 139) 24 37 (.agg #[(.slice none 0 0),(.slice none 0 0)]) 48 rfl Try.underlying24 info37 rfl (by decide) (by omega) v217 y216 y219 _ _ _ (fun k_=>(w.heap.size≤k_)) (fun k_=>((fun k_=>(w.heap.size≤k_))) k_∧some k_ ≠ (v217:Value).ownBlock) rfl rfl ?aO ?aR (fun _ hk=>hk) ?aF ?aB ?aS ?aL ?_;(case aR=>exact (by skip;exact Kd.V_F (Kd.V_mono (ok':=(fun k_=>((fun k_=>(w.heap.size≤k_))) k_∧some k_ ≠ (v217:Value).ownBlock)) (HO223.out) (fun k_ hk=>⟨hk.1,hk.2⟩))));(case aB=>exact (by repeat (with_reducible first|exact HB.out|apply qA|apply qD|apply qO)));(case aF=>exact (fun k_ hk=>(Nat.le_trans (qZ (by repeat (with_reducible first|exact HB.out|apply qA|apply qD|apply qO))) hk)));(case aO=>exact (by (with_reducible repeat (first|apply Kd.N_alloc|apply Kd.N_drewN|apply Kd.N_drew));exact HO218.out));(case aS=>exact (qZ (by repeat (with_reducible first|exact HB.out|apply qA|apply qD|apply qO))));(case aL=>have:=LMc86.out;omega);intro v225 w96 ho hb hg hat;rw [← Ny224.out] at ho;have n0_:=qK (Kd.N_afterv (ok:=(fun k_=>(w.heap.size≤k_))) (by (with_reducible repeat (first|apply Kd.N_alloc|apply Kd.N_drewN|apply Kd.N_drew));exact HO_6.out) hg hat);have n1_:=qK (Kd.V_afterv (ok:=(fun k_=>(w.heap.size≤k_))) (by (with_reducible repeat (first|apply Kd.V_alloc|apply Kd.V_drewN|apply Kd.V_drew));exact HO215.out) hg hat);have n2_:=qK (Kd.V_afterv (ok:=(fun k_=>(w.heap.size≤k_))) (by (with_reducible repeat (first|apply Kd.V_alloc|apply Kd.V_drewN|apply Kd.V_drew));exact HO223.out) hg hat);have n3_:=qK (hb);have n4_:=qK (ho);clear HO_6;clear HO215;clear HO223;clear HB;clear HO218;have HO_6:=n0_;have HO215:=n1_;have HO223:=n2_;have HB:=n3_;have HO226:=n4_;clear n0_ n1_ n2_ n3_ n4_;clear ho hb hg hat;refine hK.out _ _ trivial (fun hHeld=>?_);clear hK K;refine norm_ (a':=?_) ?_ ?_;rotate_left
                  ·show Act.put _ (some 140) _=_
                   simp only [Act.put,sIb,sZ,sS,i64_w,i32_w];rfl
                  refine pure_ (i:=10) (N:=some 21) (v:=?_) (a':=?_) #[Y,Y,Y,Y,Y,Y,Y,Y,Y,Y,Y] rfl rfl (any_of HT_.out (by kernel_rfl)) (fun _ _ _ h=>h) (Or.inl ⟨by rfl,?_⟩) ?_ ?_;rotate_left
                  ·intro w';go_simp;with_reducible rfl
                  rotate_left
                  ·simp only [Act.put,sIb,sZ,sS,i64_w,i32_w];rfl
                  refine done_ (done_of HT_.out (by kernel_rfl)) ?_;have p227:0≤(x20_3:Int):=of_decide_eq_true (by first|(with_reducible assumption)|assumption);have q227:x20_3 < (x6_3.length:Int):=of_decide_eq_true (by first|(with_reducible assumption)|assumption);obtain ⟨ad227,A227_0,c227_0,A227_1,c227_1,e227,hx227_0,hx227_1,hl227_0,hi227_0,hl227_1,hi227_1⟩:=at_T37 (Kd.N_reads' HO_6.out).2.2 x20_3 p227 q227;cases e227
                  obtain ⟨ce227,hce227,hMe227,hcc227⟩:=Kd.N_get HO_6.out z37 x20_3 p227 (by first|exact q227|exact of_decide_eq_true (by first|(with_reducible assumption)|assumption)|(have e_:=(Kd.N_reads' HO_6.out).1;omega));obtain ⟨ua227_0,uc227_0,ua227_1,uc227_1,rfl,ul227_0,ge227_0,ul227_1,ge227_1⟩:=k37_openF hMe227;have hv227_0:=hcc227 0 _ rfl;rw [Nat.add_zero] at hv227_0;replace hv227_0:=Option.some.inj (hv227_0.symm.trans hx227_0);injection hv227_0 with hva_ hvn_ hvc_
                  rw [hva_] at ge227_0;rw [hvc_] at ul227_0;have HL227_0:=qK (show Kd.V (Kd.int .i64) 3 _ w.heap.size _ _ ((rd_T37 x6_3 x20_3).f0) from Kd.V_mk ul227_0 ge227_0);clear hva_ hvn_ hvc_ ge227_0 ul227_0;have hv227_1:=hcc227 1 _ rfl;rw [add_field _ _ 1 (by omega)] at hv227_1;replace hv227_1:=Option.some.inj (hv227_1.symm.trans hx227_1);injection hv227_1 with hva_ hvn_ hvc_
                  rw [hva_] at ge227_1;rw [hvc_] at ul227_1;have HL227_1:=qK (show Kd.V (Kd.int .i64) 3 _ w.heap.size _ _ ((rd_T37 x6_3 x20_3).f1) from Kd.V_mk ul227_1 ge227_1);clear hva_ hvn_ hvc_ ge227_1 ul227_1;clear hcc227 hce227;have HR227_0:=qK hi227_0;have HC227_0:=qK hl227_0;clear hi227_0 hl227_0;have HR227_1:=qK hi227_1;have HC227_1:=qK hl227_1;clear hi227_1 hl227_1;replace p227:=eq_true p227;replace q227:=eq_true q227;obtain ⟨Ao97,co97,eo97⟩:=Kd.N_slice HO226.out;subst eo97;try go_wp2_with (first|((with_reducible refine gate_callee (f:=21) rfl ?_);refine goesL_ (some 146) rfl rfl Try.func21 (by kernel_rfl) rfl #[.slice Ao97 y224.length co97,.agg #[.slice A227_0 ((rd_T37 x6_3 x20_3).f0).length c227_0,.slice A227_1 ((rd_T37 x6_3 x20_3).f1).length c227_1]] rfl (by (try simp only [mT,mC,mN]);first|done|rfl|(simp only [lD,lT];rfl)) ?_;(with_reducible refine (spec_l7Implies.calls k3 _ _ y224 _ _ ((rd_T37 x6_3 x20_3).f0) _ _ ((rd_T37 x6_3 x20_3).f1) true _ ?side1 ?side2 ?side3 ?side4 ?side5 ?side6 A87.out).mono ?_);(case side1=>repeat (first|exact (Kd.N_reads' HO226.out).2.2|(with_reducible first|refine cL ?_ _|refine cN ?_ _|refine cW ?_)));(case side2=>exact (Kd.N_reads' HO226.out).2.1);(case side3=>repeat (first|exact (by repeat (first|(with_reducible exact HR227_0.out)|(with_reducible first|refine cL ?_ _|refine cN ?_ _|refine cW ?_)|exact HR227_0.out))|(with_reducible first|refine cL ?_ _|refine cN ?_ _|refine cW ?_)));(case side4=>exact HC227_0.out);(case side5=>repeat (first|exact (by repeat (first|(with_reducible exact HR227_1.out)|(with_reducible first|refine cL ?_ _|refine cN ?_ _|refine cW ?_)|exact HR227_1.out))|(with_reducible first|refine cL ?_ _|refine cN ?_ _|refine cW ?_)));(case side6=>exact HC227_1.out);rintro e w98 ⟨rfl,hb⟩;refine ⟨_,rfl,?_⟩;have n0_:=qK (Kd.N_below (by (with_reducible repeat (first|apply Kd.N_alloc|apply Kd.N_drewN|apply Kd.N_drew));exact HO_6.out) hb);have n1_:=qK (Kd.V_below (by (with_reducible repeat (first|apply Kd.V_alloc|apply Kd.V_drewN|apply Kd.V_drew));exact HO215.out) hb);have n2_:=qK (Kd.V_below (by (with_reducible repeat (first|apply Kd.V_alloc|apply Kd.V_drewN|apply Kd.V_drew));exact HO223.out) hb);have n3_:=qK (Kd.N_below (by (with_reducible repeat (first|apply Kd.N_alloc|apply Kd.N_drewN|apply Kd.N_drew));exact HO226.out) hb);have n4_:=qK (Kd.V_below (by (with_reducible repeat (first|apply Kd.V_alloc|apply Kd.V_drewN|apply Kd.V_drew));exact HL227_0.out) hb);have n5_:=qK (Kd.V_below (by (with_reducible repeat (first|apply Kd.V_alloc|apply Kd.V_drewN|apply Kd.V_drew));exact HL227_1.out) hb);have n6_:=qK (cB (by repeat (first|(with_reducible exact HR227_0.out)|(with_reducible first|refine cL ?_ _|refine cN ?_ _|refine cW ?_)|exact HR227_0.out)) hb);have n7_:=qK (cB (by repeat (first|(with_reducible exact HR227_1.out)|(with_reducible first|refine cL ?_ _|refine cN ?_ _|refine cW ?_)|exact HR227_1.out)) hb);have n8_:=qK (qT (by repeat (with_reducible first|exact HB.out|apply qA|apply qD|apply qO)) hb);clear HO_6;clear HO215;clear HO223;clear HO226;clear HL227_0;clear HL227_1;clear HR227_0;clear HR227_1;clear HB;have HO_6:=n0_;have HO215:=n1_;have HO223:=n2_;have HO226:=n3_;have HL227_0:=n4_;have HL227_1:=n5_;have HR227_0:=n6_;have HR227_1:=n7_;have HB:=n8_;clear n0_ n1_ n2_ n3_ n4_ n5_ n6_ n7_ n8_;(try clear hb)))
                  go_roundg k3
                  case measure=>have:=HK1.out;have:=HK2.out;have:=HK3.out;omega
                  case rel=>exact ⟨(y224),(x20_3),(by first|rfl|(simp;done)|(simp [*];done)),H',⟨by have:=HK1.out;have:=HK2.out;have:=HK3.out;omega⟩,⟨by (try simp only [hl6_2]);(with_reducible repeat (first|apply Kd.N_alloc|apply Kd.N_drewN|apply Kd.N_drew));exact HO226.out⟩,⟨by repeat (first|(with_reducible first|exact HB.out|apply qA|apply qD|apply qO)|exact HB.out)⟩⟩
                 ·replace c88:=Bool.eq_false_iff.mpr c88;subst c88;have H1:(spec_CoverOf.l6 k3 a1 x6_3 ji83)=some (r1,r2):=by rw [if_neg (show ¬ (false=true) by decide)] at H;exact H
                  clear H;have H:=H1;clear H1;have H':=qK H;clear H;obtain ⟨Ao99,co99,eo99⟩:=Kd.N_slice HO_6.out;subst eo99;try go_wp2
                  (try (rw [drewN_self wr];generalize hq_:World.drewN wr _=wr;have n0_:Aside0 (Kd.N k37 37 wr w.heap.size (fun k_=>(w.heap.size≤k_)) (.slice Ao99 x6_3.length co99) x6_3):=⟨by rw [← hq_];exact (by (with_reducible repeat (first|apply Kd.N_alloc|apply Kd.N_drewN|apply Kd.N_drew));exact HO_6.out)⟩;have n1_:Aside0 (Below w.heap.size w wr):=⟨by rw [← hq_];exact (by repeat (with_reducible first|exact HB.out|apply qA|apply qD|apply qO))⟩;clear HO_6 HB hq_;have HO_6:=n0_;have HB:=n1_;clear n0_ n1_));have n0_:=qK (Kd.N_drew HO_6.out);have n1_:=qK (qO HB.out);clear HO_6;clear HB;have HO_6:=n0_;have HB:=n1_;clear n0_ n1_;have q101:(x20_3:Int)≤((x6_3.length:Int):Int):=of_decide_eq_true (by first|(with_reducible assumption)|assumption);obtain ⟨i0101,hi0101,_,hsz101,_⟩:=info_parts info37;have hroom101:x6_3.length≤co99:=(Kd.N_reads' HO_6.out).2.1;have hC101:Kd.F k37 _ _ Ao99 x6_3.length x6_3:=(Kd.V_at (base:=w.heap.size) (Kd.N_V HO_6.out)).2.2;have hcut101:=cut_to (P:=Try.prog) 24 37 .i64 Try.underlying24 hi0101 Ao99 x6_3.length co99 x20_3 (of_decide_eq_true (by first|(with_reducible assumption)|assumption)) q101 hroom101;have hr101:=Kd.F_take (m:=(x20_3:Int).toNat) hC101 (by omega);have hy101:y211.length=(x20_3:Int).toNat:=(by rw [Ny211.out,lT];omega);rw [← Ny211.out] at hr101;rw [← hy101] at hcut101;have HO215:=qK (show Kd.V k37 37 _ w.heap.size _ (.slice Ao99 y211.length co99) y211 from Kd.V_mk (by omega) hr101);have HC215:=qK (show y211.length≤co99 from by omega);clear hr101 hC101 hroom101 hi0101 hsz101;have KY101:=qK hy101;clear hy101;replace q101:=eq_true q101;have q102:((ji83):Int)≤((x6_3.length:Int):Int):=of_decide_eq_true (by first|(with_reducible assumption)|assumption);obtain ⟨i0102,hi0102,_,hsz102,_⟩:=info_parts info37;have hroom102:x6_3.length≤co99:=(Kd.N_reads' HO_6.out).2.1;have hC102:Kd.F k37 _ _ Ao99 x6_3.length x6_3:=(Kd.V_at (base:=w.heap.size) (Kd.N_V HO_6.out)).2.2;have q0102:(0:Int)≤((ji83):Int):=of_decide_eq_true (by first|(with_reducible assumption)|assumption);have hcut102:=cut_from (P:=Try.prog) 24 37 .i64 Try.underlying24 hi0102 2 hsz102 Ao99 x6_3.length co99 (ji83) q0102 q102;have hr102:=Kd.F_cut (m:=((ji83):Int).toNat) (c:=co99) hC102 (by omega) hroom102;obtain ⟨A102,hA102⟩:∃ A1,A1=(if co99=((ji83):Int).toNat then Ao99 else (Ao99:Option Addr).map (·.add (((ji83):Int).toNat * 2))):=⟨_,rfl⟩;obtain ⟨c102,hc102⟩:∃ c1,c1=co99 - ((ji83):Int).toNat:=⟨_,rfl⟩;have hy102:y219.length=x6_3.length - ((ji83):Int).toNat:=(by rw [Ny219.out,lD] <;> omega);rw [show (x6_3).drop ((ji83):Int).toNat=y219 from Ny219.out.symm] at hr102;replace hr102:Kd.F k37 _ _ A102 y219.length y219:=(by rw [hA102];exact hr102);rw [← hy102,← hA102,← hc102] at hcut102;have HO223:=qK (show Kd.V k37 37 _ w.heap.size _ (.slice A102 y219.length c102) y219 from Kd.V_mk (by rw [hy102,hc102];exact Nat.sub_le_sub_right hroom102 _) hr102);have HC223:=qK (show y219.length≤c102 from by rw [hy102,hc102];exact Nat.sub_le_sub_right hroom102 _);clear hr102 hC102 hroom102 hi0102 hsz102 hc102;have KY102:=qK hy102;have KA102:=qK hA102;clear hy102 hA102;replace q102:=eq_true q102;refine start_ (n:=11) (S:=fun w'=>True) (ds:=[]) #[Z,Z,Z,Z,Z,Z,Z,Z,Z,Z,Z] (by kernel_rfl) rfl rfl trivial (fun hHeld=>?_);refine with_tabW spec_CoverOf.tab39 spec_CoverOf.bits39 (fun HT_ HW_=>?_);generalize wr.drew=w100 at HO_6 HB HO215 HO223 hHeld ⊢
                  refine pure_ (i:=1) (N:=some 132) (v:=?_) (a':=?_) #[Z,Y,Z,Z,Z,Z,Z,Z,Z,Z,Z] rfl rfl (any_of HT_.out (by kernel_rfl)) (fun _ _ _ h=>h) (Or.inl ⟨by rfl,?_⟩) ?_ ?_;rotate_left
                  ·intro w';go_simp;with_reducible rfl
                  rotate_left
                  ·simp only [Act.put,sIb,sZ,sS,i64_w,i32_w];rfl
                  refine pure_ (i:=2) (N:=some 133) (v:=?_) (a':=?_) #[Z,Y,Y,Z,Z,Z,Z,Z,Z,Z,Z] rfl rfl (any_of HT_.out (by kernel_rfl)) (fun _ _ _ h=>h) (Or.inl ⟨by rfl,?_⟩) ?_ ?_;rotate_left
                  ·intro w';go_simp;with_reducible rfl
                  rotate_left
                  ·simp only [Act.put,sIb,sZ,sS,i64_w,i32_w];rfl
                  refine pure_ (i:=3) (N:=some 134) (v:=?_) (a':=?_) #[Z,Y,Y,Y,Z,Z,Z,Z,Z,Z,Z] rfl rfl (any_of HT_.out (by kernel_rfl)) (fun _ _ _ h=>h) (Or.inl ⟨by rfl,?_⟩) ?_ ?_;rotate_left
                  ·intro w';go_simp;with_reducible rfl
                  rotate_left
                  ·simp only [Act.put,sIb,sZ,sS,i64_w,i32_w];rfl
                  refine pure_ (i:=5) (N:=some 136) (v:=?_) (a':=?_) #[Z,Y,Y,Y,Z,Y,Z,Z,Z,Z,Z] rfl rfl (any_of HT_.out (by kernel_rfl)) (fun _ _ _ h=>h) (Or.inl ⟨by rfl,?_⟩) ?_ ?_;rotate_left
                  ·intro w';go_simp;with_reducible rfl
                  rotate_left
                  ·simp only [Act.put,sIb,sZ,sS,i64_w,i32_w];rfl
                  refine pure_ (i:=6) (N:=some 137) (v:=?_) (a':=?_) #[Z,Y,Y,Y,Z,Y,Y,Z,Z,Z,Z] rfl rfl (any_of HT_.out (by kernel_rfl)) (fun _ _ _ h=>h) (Or.inl ⟨by rfl,?_⟩) ?_ ?_;rotate_left
                  ·intro w';go_simp;with_reducible rfl
                  rotate_left
                  ·simp only [Act.put,sIb,sZ,sS,i64_w,i32_w];rfl
                  refine pure_ (i:=7) (N:=some 138) (v:=?_) (a':=?_) #[Z,Y,Y,Y,Z,Y,Y,Y,Z,Z,Z] rfl rfl (any_of HT_.out (by kernel_rfl)) (fun _ _ _ h=>h) (Or.inl ⟨by rfl,?_⟩) ?_ ?_;rotate_left
                  ·intro w';go_simp;with_reducible rfl
                  rotate_left
                  ·simp only [Act.put,sIb,sZ,sS,i64_w,i32_w];rfl
                  refine pure_ (i:=8) (N:=some 139) (v:=?_) (a':=?_) #[Z,Y,Y,Y,Z,Y,Y,Y,Y,Z,Z] rfl rfl (any_of HT_.out (by kernel_rfl)) (fun _ _ _ h=>h) (Or.inl ⟨by rfl,?_⟩) ?_ ?_;rotate_left
                  ·intro w';go_simp;with_reducible rfl
                  rotate_left
                  ·simp only [Act.put,sIb,sZ,sS,i64_w,i32_w];rfl
                  refine one_ (i:=0) (N:=some 131) #[Y,Y,Y,Y,Z,Y,Y,Y,Y,Z,Z] rfl rfl (one_of HT_.out (by kernel_rfl)) (by decide) (fun K hK=>?_);refine Kd.N_lit_step k37 _ 37 ?hg (N':=131) ?hd (xs:=([]:List (S37))) (inner:=[]) (ok:=(fun k_=>(w.heap.size≤k_)∧some k_ ≠ (.slice Ao99 x6_3.length co99:Value).ownBlock)) (okp:=(fun k_=>(w.heap.size≤k_)∧some k_ ≠ (.slice Ao99 x6_3.length co99:Value).ownBlock)) ?hr ?hp (fun _ hk=>hk) ((show ∀ k_,w100.heap.size≤k_→(fun k_=>(w.heap.size≤k_)∧some k_ ≠ (.slice Ao99 x6_3.length co99:Value).ownBlock) k_ from fun k_ hk=>⟨(Nat.le_trans (qZ (by repeat (with_reducible first|exact HB.out|apply qA|apply qD|apply qO))) hk),Kd.fresh' (Kd.N_lt (by (with_reducible repeat (first|apply Kd.N_alloc|apply Kd.N_drewN|apply Kd.N_drew));exact HO_6.out)) k_ hk⟩) _ (Nat.le_refl _)) (Below.refl _ _) (Nat.le_refl _) (by simp) ?_;(case hd=>rfl);(case hg=>rfl);(case hr=>(go_simp;try rfl));(case hp=>exact (Reps.none _ _));intro v209 w103 ho104 hb hg_ hnew_;clear hg_ hnew_;(first|rw [← Ny208.out] at ho104|(simp only [Int.reduceToNat] at ho104;rw [← Ny208.out] at ho104));have n0_:=qK (Kd.N_elder' (by (with_reducible repeat (first|apply Kd.N_alloc|apply Kd.N_drewN|apply Kd.N_drew));exact HO_6.out) (Kd.N_base ho104) hb);have n1_:=qK (Kd.V_elder' (by (with_reducible repeat (first|apply Kd.V_alloc|apply Kd.V_drewN|apply Kd.V_drew));exact HO215.out) (Kd.N_base ho104) hb);have n2_:=qK (Kd.V_elder' (by (with_reducible repeat (first|apply Kd.V_alloc|apply Kd.V_drewN|apply Kd.V_drew));exact HO223.out) (Kd.N_base ho104) hb);have n3_:=qK (Kd.N_lower ho104 (qZ (by repeat (with_reducible first|exact HB.out|apply qA|apply qD|apply qO))));have n4_:=qK (qT (by repeat (with_reducible first|exact HB.out|apply qA|apply qD|apply qO)) hb);clear HO_6;clear HO215;clear HO223;clear HB;have HO_6:=n0_;have HO215:=n1_;have HO223:=n2_;have HO210:=n3_;have HB:=n4_;clear n0_ n1_ n2_ n3_ n4_;clear hb ho104;refine hK.out _ _ trivial (fun hHeld=>?_);clear hK K;refine norm_ (a':=?_) ?_ ?_;rotate_left
                  ·show Act.put _ (some 131) _=_
                   simp only [Act.put,sIb,sZ,sS,i64_w,i32_w];rfl
                  refine one_ (i:=4) (N:=some 135) #[Y,Y,Y,Y,Y,Y,Y,Y,Y,Z,Z] rfl rfl (one_of HT_.out (by kernel_rfl)) (by decide) (fun K hK=>?_);refine Kd.N_append_rows_step k37 (w0:=w) w.heap.size (by rfl) (.tmp 131) (.tmp 134) 24 37 (.agg #[(.slice none 0 0),(.slice none 0 0)]) 48 rfl Try.underlying24 info37 rfl (by decide) (by omega) v209 y208 y211 _ _ _ (fun k_=>(w.heap.size≤k_)) (fun k_=>((fun k_=>(w.heap.size≤k_))) k_∧some k_ ≠ (v209:Value).ownBlock) rfl rfl ?aO ?aR (fun _ hk=>hk) ?aF ?aB ?aS ?aL ?_;(case aR=>exact (by skip;exact Kd.V_F (Kd.V_mono (ok':=(fun k_=>((fun k_=>(w.heap.size≤k_))) k_∧some k_ ≠ (v209:Value).ownBlock)) (HO215.out) (fun k_ hk=>⟨hk.1,hk.2⟩))));(case aB=>exact (by repeat (with_reducible first|exact HB.out|apply qA|apply qD|apply qO)));(case aF=>exact (fun k_ hk=>(Nat.le_trans (qZ (by repeat (with_reducible first|exact HB.out|apply qA|apply qD|apply qO))) hk)));(case aO=>exact (by (with_reducible repeat (first|apply Kd.N_alloc|apply Kd.N_drewN|apply Kd.N_drew));exact Kd.N_mono HO210.out (fun _ hk=>hk.1)));(case aS=>exact (qZ (by repeat (with_reducible first|exact HB.out|apply qA|apply qD|apply qO))));(case aL=>have:=LMc82.out;omega);intro v217 w105 ho hb hg hat;rw [← Ny216.out] at ho;have n0_:=qK (Kd.N_afterv (ok:=(fun k_=>(w.heap.size≤k_))) (by (with_reducible repeat (first|apply Kd.N_alloc|apply Kd.N_drewN|apply Kd.N_drew));exact HO_6.out) hg hat);have n1_:=qK (Kd.V_afterv (ok:=(fun k_=>(w.heap.size≤k_))) (by (with_reducible repeat (first|apply Kd.V_alloc|apply Kd.V_drewN|apply Kd.V_drew));exact HO215.out) hg hat);have n2_:=qK (Kd.V_afterv (ok:=(fun k_=>(w.heap.size≤k_))) (by (with_reducible repeat (first|apply Kd.V_alloc|apply Kd.V_drewN|apply Kd.V_drew));exact HO223.out) hg hat);have n3_:=qK (hb);have n4_:=qK (ho);clear HO_6;clear HO215;clear HO223;clear HB;clear HO210;have HO_6:=n0_;have HO215:=n1_;have HO223:=n2_;have HB:=n3_;have HO218:=n4_;clear n0_ n1_ n2_ n3_ n4_;clear ho hb hg hat;refine hK.out _ _ trivial (fun hHeld=>?_);clear hK K;refine norm_ (a':=?_) ?_ ?_;rotate_left
                  ·show Act.put _ (some 135) _=_
                   simp only [Act.put,sIb,sZ,sS,i64_w,i32_w];rfl
                  refine one_ (i:=9) (N:=some 140) #[Y,Y,Y,Y,Y,Y,Y,Y,Y,Y,Z] rfl rfl (one_of HT_.out (by kernel_rfl)) (by decide) (fun K hK=>?_);refine Kd.N_append_rows_step k37 (w0:=w) w.heap.size (by rfl) (.tmp 135) (.tmp 139) 24 37 (.agg #[(.slice none 0 0),(.slice none 0 0)]) 48 rfl Try.underlying24 info37 rfl (by decide) (by omega) v217 y216 y219 _ _ _ (fun k_=>(w.heap.size≤k_)) (fun k_=>((fun k_=>(w.heap.size≤k_))) k_∧some k_ ≠ (v217:Value).ownBlock) rfl rfl ?aO ?aR (fun _ hk=>hk) ?aF ?aB ?aS ?aL ?_;(case aR=>exact (by skip;exact Kd.V_F (Kd.V_mono (ok':=(fun k_=>((fun k_=>(w.heap.size≤k_))) k_∧some k_ ≠ (v217:Value).ownBlock)) (HO223.out) (fun k_ hk=>⟨hk.1,hk.2⟩))));(case aB=>exact (by repeat (with_reducible first|exact HB.out|apply qA|apply qD|apply qO)));(case aF=>exact (fun k_ hk=>(Nat.le_trans (qZ (by repeat (with_reducible first|exact HB.out|apply qA|apply qD|apply qO))) hk)));(case aO=>exact (by (with_reducible repeat (first|apply Kd.N_alloc|apply Kd.N_drewN|apply Kd.N_drew));exact HO218.out));(case aS=>exact (qZ (by repeat (with_reducible first|exact HB.out|apply qA|apply qD|apply qO))));(case aL=>have:=LMc86.out;omega);intro v225 w106 ho hb hg hat;rw [← Ny224.out] at ho;have n0_:=qK (Kd.N_afterv (ok:=(fun k_=>(w.heap.size≤k_))) (by (with_reducible repeat (first|apply Kd.N_alloc|apply Kd.N_drewN|apply Kd.N_drew));exact HO_6.out) hg hat);have n1_:=qK (Kd.V_afterv (ok:=(fun k_=>(w.heap.size≤k_))) (by (with_reducible repeat (first|apply Kd.V_alloc|apply Kd.V_drewN|apply Kd.V_drew));exact HO215.out) hg hat);have n2_:=qK (Kd.V_afterv (ok:=(fun k_=>(w.heap.size≤k_))) (by (with_reducible repeat (first|apply Kd.V_alloc|apply Kd.V_drewN|apply Kd.V_drew));exact HO223.out) hg hat);have n3_:=qK (hb);have n4_:=qK (ho);clear HO_6;clear HO215;clear HO223;clear HB;clear HO218;have HO_6:=n0_;have HO215:=n1_;have HO223:=n2_;have HB:=n3_;have HO226:=n4_;clear n0_ n1_ n2_ n3_ n4_;clear ho hb hg hat;refine hK.out _ _ trivial (fun hHeld=>?_);clear hK K;refine norm_ (a':=?_) ?_ ?_;rotate_left
                  ·show Act.put _ (some 140) _=_
                   simp only [Act.put,sIb,sZ,sS,i64_w,i32_w];rfl
                  refine pure_ (i:=10) (N:=some 21) (v:=?_) (a':=?_) #[Y,Y,Y,Y,Y,Y,Y,Y,Y,Y,Y] rfl rfl (any_of HT_.out (by kernel_rfl)) (fun _ _ _ h=>h) (Or.inl ⟨by rfl,?_⟩) ?_ ?_;rotate_left
                  ·intro w';go_simp;with_reducible rfl
                  rotate_left
                  ·simp only [Act.put,sIb,sZ,sS,i64_w,i32_w];rfl
                  refine done_ (done_of HT_.out (by kernel_rfl)) ?_;have p227:0≤(x20_3:Int):=of_decide_eq_true (by first|(with_reducible assumption)|assumption);have q227:x20_3 < (x6_3.length:Int):=of_decide_eq_true (by first|(with_reducible assumption)|assumption);obtain ⟨ad227,A227_0,c227_0,A227_1,c227_1,e227,hx227_0,hx227_1,hl227_0,hi227_0,hl227_1,hi227_1⟩:=at_T37 (Kd.N_reads' HO_6.out).2.2 x20_3 p227 q227;cases e227
                  obtain ⟨ce227,hce227,hMe227,hcc227⟩:=Kd.N_get HO_6.out z37 x20_3 p227 (by first|exact q227|exact of_decide_eq_true (by first|(with_reducible assumption)|assumption)|(have e_:=(Kd.N_reads' HO_6.out).1;omega));obtain ⟨ua227_0,uc227_0,ua227_1,uc227_1,rfl,ul227_0,ge227_0,ul227_1,ge227_1⟩:=k37_openF hMe227;have hv227_0:=hcc227 0 _ rfl;rw [Nat.add_zero] at hv227_0;replace hv227_0:=Option.some.inj (hv227_0.symm.trans hx227_0);injection hv227_0 with hva_ hvn_ hvc_
                  rw [hva_] at ge227_0;rw [hvc_] at ul227_0;have HL227_0:=qK (show Kd.V (Kd.int .i64) 3 _ w.heap.size _ _ ((rd_T37 x6_3 x20_3).f0) from Kd.V_mk ul227_0 ge227_0);clear hva_ hvn_ hvc_ ge227_0 ul227_0;have hv227_1:=hcc227 1 _ rfl;rw [add_field _ _ 1 (by omega)] at hv227_1;replace hv227_1:=Option.some.inj (hv227_1.symm.trans hx227_1);injection hv227_1 with hva_ hvn_ hvc_
                  rw [hva_] at ge227_1;rw [hvc_] at ul227_1;have HL227_1:=qK (show Kd.V (Kd.int .i64) 3 _ w.heap.size _ _ ((rd_T37 x6_3 x20_3).f1) from Kd.V_mk ul227_1 ge227_1);clear hva_ hvn_ hvc_ ge227_1 ul227_1;clear hcc227 hce227;have HR227_0:=qK hi227_0;have HC227_0:=qK hl227_0;clear hi227_0 hl227_0;have HR227_1:=qK hi227_1;have HC227_1:=qK hl227_1;clear hi227_1 hl227_1;replace p227:=eq_true p227;replace q227:=eq_true q227;obtain ⟨Ao107,co107,eo107⟩:=Kd.N_slice HO226.out;subst eo107;try go_wp2_with (first|((with_reducible refine gate_callee (f:=21) rfl ?_);refine goesL_ (some 146) rfl rfl Try.func21 (by kernel_rfl) rfl #[.slice Ao107 y224.length co107,.agg #[.slice A227_0 ((rd_T37 x6_3 x20_3).f0).length c227_0,.slice A227_1 ((rd_T37 x6_3 x20_3).f1).length c227_1]] rfl (by (try simp only [mT,mC,mN]);first|done|rfl|(simp only [lD,lT];rfl)) ?_;(with_reducible refine (spec_l7Implies.calls k3 _ _ y224 _ _ ((rd_T37 x6_3 x20_3).f0) _ _ ((rd_T37 x6_3 x20_3).f1) false _ ?side1 ?side2 ?side3 ?side4 ?side5 ?side6 A87.out).mono ?_);(case side1=>repeat (first|exact (Kd.N_reads' HO226.out).2.2|(with_reducible first|refine cL ?_ _|refine cN ?_ _|refine cW ?_)));(case side2=>exact (Kd.N_reads' HO226.out).2.1);(case side3=>repeat (first|exact (by repeat (first|(with_reducible exact HR227_0.out)|(with_reducible first|refine cL ?_ _|refine cN ?_ _|refine cW ?_)|exact HR227_0.out))|(with_reducible first|refine cL ?_ _|refine cN ?_ _|refine cW ?_)));(case side4=>exact HC227_0.out);(case side5=>repeat (first|exact (by repeat (first|(with_reducible exact HR227_1.out)|(with_reducible first|refine cL ?_ _|refine cN ?_ _|refine cW ?_)|exact HR227_1.out))|(with_reducible first|refine cL ?_ _|refine cN ?_ _|refine cW ?_)));(case side6=>exact HC227_1.out);rintro e w108 ⟨rfl,hb⟩;refine ⟨_,rfl,?_⟩;have n0_:=qK (Kd.N_below (by (with_reducible repeat (first|apply Kd.N_alloc|apply Kd.N_drewN|apply Kd.N_drew));exact HO_6.out) hb);have n1_:=qK (Kd.V_below (by (with_reducible repeat (first|apply Kd.V_alloc|apply Kd.V_drewN|apply Kd.V_drew));exact HO215.out) hb);have n2_:=qK (Kd.V_below (by (with_reducible repeat (first|apply Kd.V_alloc|apply Kd.V_drewN|apply Kd.V_drew));exact HO223.out) hb);have n3_:=qK (Kd.N_below (by (with_reducible repeat (first|apply Kd.N_alloc|apply Kd.N_drewN|apply Kd.N_drew));exact HO226.out) hb);have n4_:=qK (Kd.V_below (by (with_reducible repeat (first|apply Kd.V_alloc|apply Kd.V_drewN|apply Kd.V_drew));exact HL227_0.out) hb);have n5_:=qK (Kd.V_below (by (with_reducible repeat (first|apply Kd.V_alloc|apply Kd.V_drewN|apply Kd.V_drew));exact HL227_1.out) hb);have n6_:=qK (cB (by repeat (first|(with_reducible exact HR227_0.out)|(with_reducible first|refine cL ?_ _|refine cN ?_ _|refine cW ?_)|exact HR227_0.out)) hb);have n7_:=qK (cB (by repeat (first|(with_reducible exact HR227_1.out)|(with_reducible first|refine cL ?_ _|refine cN ?_ _|refine cW ?_)|exact HR227_1.out)) hb);have n8_:=qK (qT (by repeat (with_reducible first|exact HB.out|apply qA|apply qD|apply qO)) hb);clear HO_6;clear HO215;clear HO223;clear HO226;clear HL227_0;clear HL227_1;clear HR227_0;clear HR227_1;clear HB;have HO_6:=n0_;have HO215:=n1_;have HO223:=n2_;have HO226:=n3_;have HL227_0:=n4_;have HL227_1:=n5_;have HR227_0:=n6_;have HR227_1:=n7_;have HB:=n8_;clear n0_ n1_ n2_ n3_ n4_ n5_ n6_ n7_ n8_;(try clear hb)))
                  go_roundg k3
                  case measure=>have:=HK1.out;have:=HK2.out;have:=HK3.out;omega
                  case rel=>exact ⟨(x6_3),(ji83),(by first|rfl|(simp;done)|(simp only [← hji83] <;> (first|rfl|simp))|(simp [*];done)),H',⟨by have:=HK1.out;have:=HK2.out;have:=HK3.out;omega⟩,⟨by (try simp only [hl6_2]);(with_reducible repeat (first|apply Kd.N_alloc|apply Kd.N_drewN|apply Kd.N_drew));exact Kd.N_mono HO_6.out (fun _ hk=>hk.1)⟩,⟨by repeat (first|(with_reducible first|exact HB.out|apply qA|apply qD|apply qO)|exact HB.out)⟩⟩
                ·rw [if_neg c86] at H;exact absurd H (by simp)
               ·rw [if_neg c85] at H;exact absurd H (by simp)
              ·rw [if_neg c84] at H;exact absurd H (by simp)
             ·rw [if_neg c82] at H;exact absurd H (by simp)
            ·rw [if_neg c81] at H;exact absurd H (by simp)
           ·rw [if_neg c80] at H;exact absurd H (by simp)
          ·rw [if_neg c79] at H;have c79b0:decide (x20_3 < (x6_3.length:Int))=false:=decide_eq_false c79;clear c79;replace H:=Option.bind_eq_some_iff.mp H;obtain ⟨t229,A1090,H⟩:=H;replace H:(if t229=true then (some (x6_3,true)) else (some (([]:List (S37)),false)))=some (r1,r2):=H;have A109:=qK A1090;clear A1090;by_cases c110:t229=true
           ·subst c110;have H1:(some (x6_3,true))=some (r1,r2):=by rw [if_pos rfl] at H;exact H
            clear H;have H:=H1;clear H1;simp only [Option.some.injEq,Prod.mk.injEq] at H;obtain ⟨rfl,rfl⟩:=H;obtain ⟨Ao111,co111,eo111⟩:=Kd.N_slice HO_6.out;subst eo111;go_wp2_with (first|((with_reducible refine gate_callee (f:=19) rfl ?_);refine goesL_ (some 152) rfl rfl Try.func19 (by kernel_rfl) rfl #[.slice Ao111 x6_3.length co111,.int .i64 a1] rfl (by (try simp only [mT,mC,mN]);first|done|rfl|(simp only [lD,lT];rfl)) ?_;(with_reducible refine (spec_GoodDepends.calls k3 _ _ x6_3 a1 true _ ?side1 ?side2 A109.out).mono ?_);(case side1=>repeat (first|exact (Kd.N_reads' HO_6.out).2.2|(with_reducible first|refine cL ?_ _|refine cN ?_ _|refine cW ?_)));(case side2=>exact (Kd.N_reads' HO_6.out).2.1);rintro e w112 ⟨rfl,hb⟩;refine ⟨_,rfl,?_⟩;have n0_:=qK (Kd.N_below (by (with_reducible repeat (first|apply Kd.N_alloc|apply Kd.N_drewN|apply Kd.N_drew));exact HO_6.out) hb);have n1_:=qK (qT (by repeat (with_reducible first|exact HB.out|apply qA|apply qD|apply qO)) hb);clear HO_6;clear HB;have HO_6:=n0_;have HB:=n1_;clear n0_ n1_;(try clear hb)))
            go_ret2
            exact ⟨_,by first|rfl|(simp [errW_none,errW_some] <;> rfl)|(simp [*,errW_none,errW_some] <;> rfl),by (with_reducible repeat (first|apply Kd.N_alloc|apply Kd.N_drewN|apply Kd.N_drew));exact HO_6.out,by repeat (first|(with_reducible first|exact HB.out|apply qA|apply qD|apply qO)|exact HB.out)⟩
           ·replace c110:=Bool.eq_false_iff.mpr c110;subst c110;have H1:(some (([]:List (S37)),false))=some (r1,r2):=by rw [if_neg (show ¬ (false=true) by decide)] at H;exact H
            clear H;have H:=H1;clear H1;simp only [Option.some.injEq,Prod.mk.injEq] at H;obtain ⟨rfl,rfl⟩:=H;obtain ⟨Ao113,co113,eo113⟩:=Kd.N_slice HO_6.out;subst eo113;go_wp2_with (first|((with_reducible refine gate_callee (f:=19) rfl ?_);refine goesL_ (some 152) rfl rfl Try.func19 (by kernel_rfl) rfl #[.slice Ao113 x6_3.length co113,.int .i64 a1] rfl (by (try simp only [mT,mC,mN]);first|done|rfl|(simp only [lD,lT];rfl)) ?_;(with_reducible refine (spec_GoodDepends.calls k3 _ _ x6_3 a1 false _ ?side1 ?side2 A109.out).mono ?_);(case side1=>repeat (first|exact (Kd.N_reads' HO_6.out).2.2|(with_reducible first|refine cL ?_ _|refine cN ?_ _|refine cW ?_)));(case side2=>exact (Kd.N_reads' HO_6.out).2.1);rintro e w114 ⟨rfl,hb⟩;refine ⟨_,rfl,?_⟩;have n0_:=qK (Kd.N_below (by (with_reducible repeat (first|apply Kd.N_alloc|apply Kd.N_drewN|apply Kd.N_drew));exact HO_6.out) hb);have n1_:=qK (qT (by repeat (with_reducible first|exact HB.out|apply qA|apply qD|apply qO)) hb);clear HO_6;clear HB;have HO_6:=n0_;have HB:=n1_;clear n0_ n1_;(try clear hb)))
            go_ret2
            exact ⟨_,by first|rfl|(simp [errW_none,errW_some] <;> rfl)|(simp [*,errW_none,errW_some] <;> rfl),by first|exact Kd.S_nil _ _ _ _ _|exact Kd.N_nil _ _ _ _ _|exact Kd.V_nil _ _ _ _ _|exact Kd.Q_nil _ _ _ _ _|exact Kd.R_nil _ _ _ _ _,by repeat (first|(with_reducible first|exact HB.out|apply qA|apply qD|apply qO)|exact HB.out)⟩
 ·replace c4:=Bool.eq_false_iff.mpr c4;subst c4;have H1:(some (([]:List (S37)),false))=some (r1,r2):=by rw [if_neg (show ¬ (false=true) by decide)] at H;exact H
  clear H;have H:=H1;clear H1;simp only [Option.some.injEq,Prod.mk.injEq] at H;obtain ⟨rfl,rfl⟩:=H;go_enter Try.func6,Try.ntmps6
  go_wp2_with (first|((with_reducible refine gate_callee (f:=19) rfl ?_);refine goesL_ (some 24) rfl rfl Try.func19 (by kernel_rfl) rfl #[.slice A0 l0.length c0,.int .i64 a1] rfl (by (try simp only [mT,mC,mN]);first|done|rfl|(simp only [lD,lT];rfl)) ?_;(with_reducible refine (spec_GoodDepends.calls k _ _ l0 a1 false _ ?side1 ?side2 A3.out).mono ?_);(case side1=>repeat (first|exact HR0.out|(with_reducible first|refine cL ?_ _|refine cN ?_ _|refine cW ?_)));(case side2=>exact HC0.out);rintro e w115 ⟨rfl,hb⟩;refine ⟨_,rfl,?_⟩;have n0_:=qK (qT (by repeat (with_reducible first|exact HB.out|apply qA|apply qD|apply qO)) hb);clear HB;have HB:=n0_;clear n0_;(try clear hb)))
  go_ret2
  exact ⟨_,by first|rfl|(simp [errW_none,errW_some] <;> rfl)|(simp [*,errW_none,errW_some] <;> rfl),by first|exact Kd.S_nil _ _ _ _ _|exact Kd.N_nil _ _ _ _ _|exact Kd.V_nil _ _ _ _ _|exact Kd.Q_nil _ _ _ _ _|exact Kd.R_nil _ _ _ _ _,by repeat (first|(with_reducible first|exact HB.out|apply qA|apply qD|apply qO)|exact HB.out)⟩

end Go.Proofs.Ytadfmbmnnekamaa.PFnCover
