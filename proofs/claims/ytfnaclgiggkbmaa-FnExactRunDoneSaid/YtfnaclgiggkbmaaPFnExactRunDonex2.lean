/-
  A text of this claim's own, printed by a program of the session (wip/tools/xprint.py): functions of the program as Lean functions, each with what its call comes to.
-/
import Derived.Test.YtfnaclgiggkbmaaPFnExactRunDonex0
import Derived.Test.YtfnaclgiggkbmaaPFnExactRunDonex1
namespace Go.Proofs.Ytfnaclgiggkbmaa.PFnExactRunDone
open Go.Proofs.YtfnaclgiggkbmaaW.PrintWords renaming pw_below_drewN → qD, blk_cell → qC, below_drew1 → qO, below_alloc → qA, blk_frozen → qF, below_set → qS, blk_drewN → qN, blk_alloc → qL, blk_drew → qW, below_size → qZ, below_step → qT, blk_below → qB, blk_far → qR, blk_put → qP
open Go.Proofs.YtfnaclgiggkbmaaW.PrintWords.Aside0 renaming mk → qK
open Bool renaming true → Y, false → Z
open List renaming setIfInBounds_toArray → sIb, set_cons_zero → sZ, set_cons_succ → sS, map_toArray → mT, map_cons → mC, map_nil → mN, length_drop → lD, length_take → lT
open Go.Proofs.YtfnaclgiggkbmaaW.PrintWords.Kd renaming C_alloc → cL, C_drewN → cN, C_drew → cW, C_below → cB, R_alloc → rL, R_drewN → rN, R_drew → rW, R_below → rB
open Go.RowKit Go.Proofs.YtfnaclgiggkbmaaW.PrintWords Go.Proofs.YtfnaclgiggkbmaaW.PrintLast Go.Proofs.YtfnaclgiggkbmaaW.PrintMore
attribute [local go_sem] max2_int min2_int max_two min_two max_three min_three max_four min_four   -- for this text's walks alone
set_option linter.unusedVariables false
set_option linter.unusedSimpArgs false

/-! ### spec_GoodLocks: function 21 -/
mutual
def spec_GoodLocks.j0 : Nat→Bool→List (S47)→List (S47)→List (S47)→List Int→List Int→Option (Bool)
 | 0,_,_,_,_,_,_=>none
 | k + 1,x29,x117000,x117001,x117002,x117003,x117004=>if x29=true then (some false) else (spec_GoodLocks.l0 k x117000 (x117000.length:Int) 0 x117000 x117001 x117002 x117003 x117004)
def spec_GoodLocks.l0 : Nat→List (S47)→Int→Int→List (S47)→List (S47)→List (S47)→List Int→List Int→Option (Bool)
 | 0,_,_,_,_,_,_,_,_=>none
 | k + 1,x31,x32,x33,x117000,x117001,x117002,x117003,x117004=>if x33 < x32 then (if 0≤x33 then (if x33 < (x31.length:Int) then ((spec_l14Ended.f k x117000 x117001 x117002 x117003 x117004 ((rd_T47 x31 x33).f0)).bind fun t122=>(if t122=true then (spec_GoodLocks.j2 k x33 x31 x32 x33 true x117000 x117001 x117002 x117003 x117004 ((rd_T47 x31 x33).f0) ((rd_T47 x31 x33).f1) ((rd_T47 x31 x33).f2)) else (if x33 > 0 then (if 0≤(wrap64 (x33 - 1)) then (if (wrap64 (x33 - 1)) < (x117000.length:Int) then (if ((rd_T47 x117000 (wrap64 (x33 - 1))).f0) > ((rd_T47 x31 x33).f0) then (spec_GoodLocks.j2 k x33 x31 x32 x33 true x117000 x117001 x117002 x117003 x117004 ((rd_T47 x31 x33).f0) ((rd_T47 x31 x33).f1) ((rd_T47 x31 x33).f2)) else (if ((rd_T47 x117000 (wrap64 (x33 - 1))).f0)=((rd_T47 x31 x33).f0) then (spec_GoodLocks.j2 k x33 x31 x32 x33 (decide (((rd_T47 x117000 (wrap64 (x33 - 1))).f2) ≥ ((rd_T47 x31 x33).f2))) x117000 x117001 x117002 x117003 x117004 ((rd_T47 x31 x33).f0) ((rd_T47 x31 x33).f1) ((rd_T47 x31 x33).f2)) else (spec_GoodLocks.j2 k x33 x31 x32 x33 false x117000 x117001 x117002 x117003 x117004 ((rd_T47 x31 x33).f0) ((rd_T47 x31 x33).f1) ((rd_T47 x31 x33).f2)))) else (none)) else (none)) else (spec_GoodLocks.j2 k x33 x31 x32 x33 false x117000 x117001 x117002 x117003 x117004 ((rd_T47 x31 x33).f0) ((rd_T47 x31 x33).f1) ((rd_T47 x31 x33).f2))))) else (none)) else (none)) else (spec_GoodLocks.l2 k x117001 (x117001.length:Int) 0 x117000 x117001 x117002 x117003 x117004)
def spec_GoodLocks.j2 : Nat→Int→List (S47)→Int→Int→Bool→List (S47)→List (S47)→List (S47)→List Int→List Int→Int→Int→Int→Option (Bool)
 | 0,_,_,_,_,_,_,_,_,_,_,_,_,_=>none
 | k + 1,x3,x31,x32,x33,x81,x117000,x117001,x117002,x117003,x117004,x122000,x122001,x122002=>if x81=true then (some false) else (if 0≤x3 then (if x3≤(x117000.length:Int) then ((some (x117000.take (x3:Int).toNat:List (S47))).bind fun y126=>(spec_GoodLocks.l1 k x31 x32 x33 y126 (y126.length:Int) 0 x117000 x117001 x117002 x117003 x117004 x122000 x122001 x122002)) else (none)) else (none))
def spec_GoodLocks.l1 : Nat→List (S47)→Int→Int→List (S47)→Int→Int→List (S47)→List (S47)→List (S47)→List Int→List Int→Int→Int→Int→Option (Bool)
 | 0,_,_,_,_,_,_,_,_,_,_,_,_,_,_=>none
 | k + 1,x31,x32,x33,x85,x86,x87,x117000,x117001,x117002,x117003,x117004,x122000,x122001,x122002=>if x87 < x86 then (if 0≤x87 then (if x87 < (x85.length:Int) then ((spec_l13Clash.f x122000 x122001 x122002 ((rd_T47 x85 x87).f0) ((rd_T47 x85 x87).f1) ((rd_T47 x85 x87).f2)).bind fun t132=>(if t132=true then (some false) else (spec_GoodLocks.l1 k x31 x32 x33 x85 x86 (wrap64 (x87 + 1)) x117000 x117001 x117002 x117003 x117004 x122000 x122001 x122002))) else (none)) else (none)) else (spec_GoodLocks.l0 k x31 x32 (wrap64 (x33 + 1)) x117000 x117001 x117002 x117003 x117004)
def spec_GoodLocks.l2 : Nat→List (S47)→Int→Int→List (S47)→List (S47)→List (S47)→List Int→List Int→Option (Bool)
 | 0,_,_,_,_,_,_,_,_=>none
 | k + 1,x97,x98,x99,x117000,x117001,x117002,x117003,x117004=>if x99 < x98 then (if 0≤x99 then (if x99 < (x97.length:Int) then ((spec_l14Ended.f k x117000 x117001 x117002 x117003 x117004 ((rd_T47 x97 x99).f0)).bind fun t135=>(if t135=true then (some false) else (if x99≤(x117001.length:Int) then ((some (x117001.take (x99:Int).toNat:List (S47))).bind fun y136=>(spec_GoodLocks.l3 k x97 x98 x99 y136 (y136.length:Int) 0 x117000 x117001 x117002 x117003 x117004 ((rd_T47 x97 x99).f0) ((rd_T47 x97 x99).f1) ((rd_T47 x97 x99).f2))) else (none)))) else (none)) else (none)) else ((some (([]:List Int):List Int)).bind fun y142=>(if y142.length + x117003.length < 17592186044416 then ((some (y142 ++ x117003:List Int)).bind fun y145=>(if y145.length + x117004.length < 17592186044416 then ((some (y145 ++ x117004:List Int)).bind fun y148=>(spec_GoodLocks.l4 k y148 y148 (y148.length:Int) 0 x117000 x117001 x117002 x117003 x117004)) else (none))) else (none)))
def spec_GoodLocks.l3 : Nat→List (S47)→Int→Int→List (S47)→Int→Int→List (S47)→List (S47)→List (S47)→List Int→List Int→Int→Int→Int→Option (Bool)
 | 0,_,_,_,_,_,_,_,_,_,_,_,_,_,_=>none
 | k + 1,x97,x98,x99,x111,x112,x113,x117000,x117001,x117002,x117003,x117004,x135000,x135001,x135002=>if x113 < x112 then (if 0≤x113 then (if x113 < (x111.length:Int) then (if x135000=((rd_T47 x111 x113).f0) then (some false) else (spec_GoodLocks.l3 k x97 x98 x99 x111 x112 (wrap64 (x113 + 1)) x117000 x117001 x117002 x117003 x117004 x135000 x135001 x135002)) else (none)) else (none)) else (spec_GoodLocks.l2 k x97 x98 (wrap64 (x99 + 1)) x117000 x117001 x117002 x117003 x117004)
def spec_GoodLocks.l4 : Nat→List Int→List Int→Int→Int→List (S47)→List (S47)→List (S47)→List Int→List Int→Option (Bool)
 | 0,_,_,_,_,_,_,_,_,_=>none
 | k + 1,x11,x131,x132,x133,x117000,x117001,x117002,x117003,x117004=>if x133 < x132 then (if 0≤x133 then (if x133 < (x131.length:Int) then (if (rd x131 x133) < 0 then (some false) else (if (rd x131 x133) ≥ 6 then (some false) else (if x133≤(x11.length:Int) then ((spec_l1Has.f k (x11.take (x133:Int).toNat) (rd x131 x133)).bind fun t156=>(if t156=true then (some false) else (spec_GoodLocks.l4 k x11 x131 x132 (wrap64 (x133 + 1)) x117000 x117001 x117002 x117003 x117004))) else (none)))) else (none)) else (none)) else (some (decide ((wrap64 ((x117002.length:Int) + (x117001.length:Int)))≤40)))
end
def spec_GoodLocks.f (k:Nat) (l0_0:List (S47)) (l0_1:List (S47)) (l0_2:List (S47)) (l0_3:List Int) (l0_4:List Int):Option (Bool):=(spec_GoodSteps.f k l0_0).bind fun t117=>(if t117=true then ((spec_GoodSteps.f k l0_1).bind fun t118=>(if t118=true then ((spec_GoodSteps.f k l0_2).bind fun t119=>(spec_GoodLocks.j0 k (!t119) l0_0 l0_1 l0_2 l0_3 l0_4)) else (spec_GoodLocks.j0 k true l0_0 l0_1 l0_2 l0_3 l0_4))) else (spec_GoodLocks.j0 k true l0_0 l0_1 l0_2 l0_3 l0_4))
theorem spec_GoodLocks.mono_l : ∀ k,(∀ y0 y1 y2 y3 y4 y5,LeO (spec_GoodLocks.j0 k y0 y1 y2 y3 y4 y5) (spec_GoodLocks.j0 (k + 1) y0 y1 y2 y3 y4 y5))∧(∀ y0 y1 y2 y3 y4 y5 y6 y7,LeO (spec_GoodLocks.l0 k y0 y1 y2 y3 y4 y5 y6 y7) (spec_GoodLocks.l0 (k + 1) y0 y1 y2 y3 y4 y5 y6 y7))∧(∀ y0 y1 y2 y3 y4 y5 y6 y7 y8 y9 y10 y11 y12,LeO (spec_GoodLocks.j2 k y0 y1 y2 y3 y4 y5 y6 y7 y8 y9 y10 y11 y12) (spec_GoodLocks.j2 (k + 1) y0 y1 y2 y3 y4 y5 y6 y7 y8 y9 y10 y11 y12))∧(∀ y0 y1 y2 y3 y4 y5 y6 y7 y8 y9 y10 y11 y12 y13,LeO (spec_GoodLocks.l1 k y0 y1 y2 y3 y4 y5 y6 y7 y8 y9 y10 y11 y12 y13) (spec_GoodLocks.l1 (k + 1) y0 y1 y2 y3 y4 y5 y6 y7 y8 y9 y10 y11 y12 y13))∧(∀ y0 y1 y2 y3 y4 y5 y6 y7,LeO (spec_GoodLocks.l2 k y0 y1 y2 y3 y4 y5 y6 y7) (spec_GoodLocks.l2 (k + 1) y0 y1 y2 y3 y4 y5 y6 y7))∧(∀ y0 y1 y2 y3 y4 y5 y6 y7 y8 y9 y10 y11 y12 y13,LeO (spec_GoodLocks.l3 k y0 y1 y2 y3 y4 y5 y6 y7 y8 y9 y10 y11 y12 y13) (spec_GoodLocks.l3 (k + 1) y0 y1 y2 y3 y4 y5 y6 y7 y8 y9 y10 y11 y12 y13))∧(∀ y0 y1 y2 y3 y4 y5 y6 y7 y8,LeO (spec_GoodLocks.l4 k y0 y1 y2 y3 y4 y5 y6 y7 y8) (spec_GoodLocks.l4 (k + 1) y0 y1 y2 y3 y4 y5 y6 y7 y8))
 | 0=>⟨fun _ _ _ _ _ _ r h=>by simp [spec_GoodLocks.j0] at h,fun _ _ _ _ _ _ _ _ r h=>by simp [spec_GoodLocks.l0] at h,fun _ _ _ _ _ _ _ _ _ _ _ _ _ r h=>by simp [spec_GoodLocks.j2] at h,fun _ _ _ _ _ _ _ _ _ _ _ _ _ _ r h=>by simp [spec_GoodLocks.l1] at h,fun _ _ _ _ _ _ _ _ r h=>by simp [spec_GoodLocks.l2] at h,fun _ _ _ _ _ _ _ _ _ _ _ _ _ _ r h=>by simp [spec_GoodLocks.l3] at h,fun _ _ _ _ _ _ _ _ _ r h=>by simp [spec_GoodLocks.l4] at h⟩
 | k + 1=>by
  obtain ⟨ih0,ih1,ih2,ih3,ih4,ih5,ih6⟩:=spec_GoodLocks.mono_l k;refine ⟨?_,?_,?_,?_,?_,?_,?_⟩
  ·intro y0 y1 y2 y3 y4 y5;unfold spec_GoodLocks.j0
   repeat' first
   | (with_reducible exact ih0 _ _ _ _ _ _)
   | (with_reducible exact ih1 _ _ _ _ _ _ _ _)
   | (with_reducible exact ih2 _ _ _ _ _ _ _ _ _ _ _ _ _)
   | (with_reducible exact ih3 _ _ _ _ _ _ _ _ _ _ _ _ _ _)
   | (with_reducible exact ih4 _ _ _ _ _ _ _ _)
   | (with_reducible exact ih5 _ _ _ _ _ _ _ _ _ _ _ _ _ _)
   | (with_reducible exact ih6 _ _ _ _ _ _ _ _ _)
   | (with_reducible exact spec_GoodSteps.mono _ _)
   | (with_reducible exact spec_l14Ended.mono _ _ _ _ _ _ _)
   | (with_reducible exact spec_l1Has.mono _ _ _)
   | (with_reducible exact LeO.refl _)
   | (with_reducible exact LeO.none _)
   | (with_reducible refine LeO.ite ?_ ?_)
   | (with_reducible refine LeO.bind ?_ (fun _=>?_))
   | exact ih0 _ _ _ _ _ _
   | exact ih1 _ _ _ _ _ _ _ _
   | exact ih2 _ _ _ _ _ _ _ _ _ _ _ _ _
   | exact ih3 _ _ _ _ _ _ _ _ _ _ _ _ _ _
   | exact ih4 _ _ _ _ _ _ _ _
   | exact ih5 _ _ _ _ _ _ _ _ _ _ _ _ _ _
   | exact ih6 _ _ _ _ _ _ _ _ _
   | exact spec_GoodSteps.mono _ _
   | exact spec_l14Ended.mono _ _ _ _ _ _ _
   | exact spec_l1Has.mono _ _ _
   | exact LeO.none _
   | refine LeO.ite ?_ ?_
   | refine LeO.bind ?_ (fun _=>?_)
  ·intro y0 y1 y2 y3 y4 y5 y6 y7;unfold spec_GoodLocks.l0
   repeat' first
   | (with_reducible exact ih0 _ _ _ _ _ _)
   | (with_reducible exact ih1 _ _ _ _ _ _ _ _)
   | (with_reducible exact ih2 _ _ _ _ _ _ _ _ _ _ _ _ _)
   | (with_reducible exact ih3 _ _ _ _ _ _ _ _ _ _ _ _ _ _)
   | (with_reducible exact ih4 _ _ _ _ _ _ _ _)
   | (with_reducible exact ih5 _ _ _ _ _ _ _ _ _ _ _ _ _ _)
   | (with_reducible exact ih6 _ _ _ _ _ _ _ _ _)
   | (with_reducible exact spec_GoodSteps.mono _ _)
   | (with_reducible exact spec_l14Ended.mono _ _ _ _ _ _ _)
   | (with_reducible exact spec_l1Has.mono _ _ _)
   | (with_reducible exact LeO.refl _)
   | (with_reducible exact LeO.none _)
   | (with_reducible refine LeO.ite ?_ ?_)
   | (with_reducible refine LeO.bind ?_ (fun _=>?_))
   | exact ih0 _ _ _ _ _ _
   | exact ih1 _ _ _ _ _ _ _ _
   | exact ih2 _ _ _ _ _ _ _ _ _ _ _ _ _
   | exact ih3 _ _ _ _ _ _ _ _ _ _ _ _ _ _
   | exact ih4 _ _ _ _ _ _ _ _
   | exact ih5 _ _ _ _ _ _ _ _ _ _ _ _ _ _
   | exact ih6 _ _ _ _ _ _ _ _ _
   | exact spec_GoodSteps.mono _ _
   | exact spec_l14Ended.mono _ _ _ _ _ _ _
   | exact spec_l1Has.mono _ _ _
   | exact LeO.none _
   | refine LeO.ite ?_ ?_
   | refine LeO.bind ?_ (fun _=>?_)
  ·intro y0 y1 y2 y3 y4 y5 y6 y7 y8 y9 y10 y11 y12;unfold spec_GoodLocks.j2
   repeat' first
   | (with_reducible exact ih0 _ _ _ _ _ _)
   | (with_reducible exact ih1 _ _ _ _ _ _ _ _)
   | (with_reducible exact ih2 _ _ _ _ _ _ _ _ _ _ _ _ _)
   | (with_reducible exact ih3 _ _ _ _ _ _ _ _ _ _ _ _ _ _)
   | (with_reducible exact ih4 _ _ _ _ _ _ _ _)
   | (with_reducible exact ih5 _ _ _ _ _ _ _ _ _ _ _ _ _ _)
   | (with_reducible exact ih6 _ _ _ _ _ _ _ _ _)
   | (with_reducible exact spec_GoodSteps.mono _ _)
   | (with_reducible exact spec_l14Ended.mono _ _ _ _ _ _ _)
   | (with_reducible exact spec_l1Has.mono _ _ _)
   | (with_reducible exact LeO.refl _)
   | (with_reducible exact LeO.none _)
   | (with_reducible refine LeO.ite ?_ ?_)
   | (with_reducible refine LeO.bind ?_ (fun _=>?_))
   | exact ih0 _ _ _ _ _ _
   | exact ih1 _ _ _ _ _ _ _ _
   | exact ih2 _ _ _ _ _ _ _ _ _ _ _ _ _
   | exact ih3 _ _ _ _ _ _ _ _ _ _ _ _ _ _
   | exact ih4 _ _ _ _ _ _ _ _
   | exact ih5 _ _ _ _ _ _ _ _ _ _ _ _ _ _
   | exact ih6 _ _ _ _ _ _ _ _ _
   | exact spec_GoodSteps.mono _ _
   | exact spec_l14Ended.mono _ _ _ _ _ _ _
   | exact spec_l1Has.mono _ _ _
   | exact LeO.none _
   | refine LeO.ite ?_ ?_
   | refine LeO.bind ?_ (fun _=>?_)
  ·intro y0 y1 y2 y3 y4 y5 y6 y7 y8 y9 y10 y11 y12 y13;unfold spec_GoodLocks.l1
   repeat' first
   | (with_reducible exact ih0 _ _ _ _ _ _)
   | (with_reducible exact ih1 _ _ _ _ _ _ _ _)
   | (with_reducible exact ih2 _ _ _ _ _ _ _ _ _ _ _ _ _)
   | (with_reducible exact ih3 _ _ _ _ _ _ _ _ _ _ _ _ _ _)
   | (with_reducible exact ih4 _ _ _ _ _ _ _ _)
   | (with_reducible exact ih5 _ _ _ _ _ _ _ _ _ _ _ _ _ _)
   | (with_reducible exact ih6 _ _ _ _ _ _ _ _ _)
   | (with_reducible exact spec_GoodSteps.mono _ _)
   | (with_reducible exact spec_l14Ended.mono _ _ _ _ _ _ _)
   | (with_reducible exact spec_l1Has.mono _ _ _)
   | (with_reducible exact LeO.refl _)
   | (with_reducible exact LeO.none _)
   | (with_reducible refine LeO.ite ?_ ?_)
   | (with_reducible refine LeO.bind ?_ (fun _=>?_))
   | exact ih0 _ _ _ _ _ _
   | exact ih1 _ _ _ _ _ _ _ _
   | exact ih2 _ _ _ _ _ _ _ _ _ _ _ _ _
   | exact ih3 _ _ _ _ _ _ _ _ _ _ _ _ _ _
   | exact ih4 _ _ _ _ _ _ _ _
   | exact ih5 _ _ _ _ _ _ _ _ _ _ _ _ _ _
   | exact ih6 _ _ _ _ _ _ _ _ _
   | exact spec_GoodSteps.mono _ _
   | exact spec_l14Ended.mono _ _ _ _ _ _ _
   | exact spec_l1Has.mono _ _ _
   | exact LeO.none _
   | refine LeO.ite ?_ ?_
   | refine LeO.bind ?_ (fun _=>?_)
  ·intro y0 y1 y2 y3 y4 y5 y6 y7;unfold spec_GoodLocks.l2
   repeat' first
   | (with_reducible exact ih0 _ _ _ _ _ _)
   | (with_reducible exact ih1 _ _ _ _ _ _ _ _)
   | (with_reducible exact ih2 _ _ _ _ _ _ _ _ _ _ _ _ _)
   | (with_reducible exact ih3 _ _ _ _ _ _ _ _ _ _ _ _ _ _)
   | (with_reducible exact ih4 _ _ _ _ _ _ _ _)
   | (with_reducible exact ih5 _ _ _ _ _ _ _ _ _ _ _ _ _ _)
   | (with_reducible exact ih6 _ _ _ _ _ _ _ _ _)
   | (with_reducible exact spec_GoodSteps.mono _ _)
   | (with_reducible exact spec_l14Ended.mono _ _ _ _ _ _ _)
   | (with_reducible exact spec_l1Has.mono _ _ _)
   | (with_reducible exact LeO.refl _)
   | (with_reducible exact LeO.none _)
   | (with_reducible refine LeO.ite ?_ ?_)
   | (with_reducible refine LeO.bind ?_ (fun _=>?_))
   | exact ih0 _ _ _ _ _ _
   | exact ih1 _ _ _ _ _ _ _ _
   | exact ih2 _ _ _ _ _ _ _ _ _ _ _ _ _
   | exact ih3 _ _ _ _ _ _ _ _ _ _ _ _ _ _
   | exact ih4 _ _ _ _ _ _ _ _
   | exact ih5 _ _ _ _ _ _ _ _ _ _ _ _ _ _
   | exact ih6 _ _ _ _ _ _ _ _ _
   | exact spec_GoodSteps.mono _ _
   | exact spec_l14Ended.mono _ _ _ _ _ _ _
   | exact spec_l1Has.mono _ _ _
   | exact LeO.none _
   | refine LeO.ite ?_ ?_
   | refine LeO.bind ?_ (fun _=>?_)
  ·intro y0 y1 y2 y3 y4 y5 y6 y7 y8 y9 y10 y11 y12 y13;unfold spec_GoodLocks.l3
   repeat' first
   | (with_reducible exact ih0 _ _ _ _ _ _)
   | (with_reducible exact ih1 _ _ _ _ _ _ _ _)
   | (with_reducible exact ih2 _ _ _ _ _ _ _ _ _ _ _ _ _)
   | (with_reducible exact ih3 _ _ _ _ _ _ _ _ _ _ _ _ _ _)
   | (with_reducible exact ih4 _ _ _ _ _ _ _ _)
   | (with_reducible exact ih5 _ _ _ _ _ _ _ _ _ _ _ _ _ _)
   | (with_reducible exact ih6 _ _ _ _ _ _ _ _ _)
   | (with_reducible exact spec_GoodSteps.mono _ _)
   | (with_reducible exact spec_l14Ended.mono _ _ _ _ _ _ _)
   | (with_reducible exact spec_l1Has.mono _ _ _)
   | (with_reducible exact LeO.refl _)
   | (with_reducible exact LeO.none _)
   | (with_reducible refine LeO.ite ?_ ?_)
   | (with_reducible refine LeO.bind ?_ (fun _=>?_))
   | exact ih0 _ _ _ _ _ _
   | exact ih1 _ _ _ _ _ _ _ _
   | exact ih2 _ _ _ _ _ _ _ _ _ _ _ _ _
   | exact ih3 _ _ _ _ _ _ _ _ _ _ _ _ _ _
   | exact ih4 _ _ _ _ _ _ _ _
   | exact ih5 _ _ _ _ _ _ _ _ _ _ _ _ _ _
   | exact ih6 _ _ _ _ _ _ _ _ _
   | exact spec_GoodSteps.mono _ _
   | exact spec_l14Ended.mono _ _ _ _ _ _ _
   | exact spec_l1Has.mono _ _ _
   | exact LeO.none _
   | refine LeO.ite ?_ ?_
   | refine LeO.bind ?_ (fun _=>?_)
  ·intro y0 y1 y2 y3 y4 y5 y6 y7 y8;unfold spec_GoodLocks.l4
   repeat' first
   | (with_reducible exact ih0 _ _ _ _ _ _)
   | (with_reducible exact ih1 _ _ _ _ _ _ _ _)
   | (with_reducible exact ih2 _ _ _ _ _ _ _ _ _ _ _ _ _)
   | (with_reducible exact ih3 _ _ _ _ _ _ _ _ _ _ _ _ _ _)
   | (with_reducible exact ih4 _ _ _ _ _ _ _ _)
   | (with_reducible exact ih5 _ _ _ _ _ _ _ _ _ _ _ _ _ _)
   | (with_reducible exact ih6 _ _ _ _ _ _ _ _ _)
   | (with_reducible exact spec_GoodSteps.mono _ _)
   | (with_reducible exact spec_l14Ended.mono _ _ _ _ _ _ _)
   | (with_reducible exact spec_l1Has.mono _ _ _)
   | (with_reducible exact LeO.refl _)
   | (with_reducible exact LeO.none _)
   | (with_reducible refine LeO.ite ?_ ?_)
   | (with_reducible refine LeO.bind ?_ (fun _=>?_))
   | exact ih0 _ _ _ _ _ _
   | exact ih1 _ _ _ _ _ _ _ _
   | exact ih2 _ _ _ _ _ _ _ _ _ _ _ _ _
   | exact ih3 _ _ _ _ _ _ _ _ _ _ _ _ _ _
   | exact ih4 _ _ _ _ _ _ _ _
   | exact ih5 _ _ _ _ _ _ _ _ _ _ _ _ _ _
   | exact ih6 _ _ _ _ _ _ _ _ _
   | exact spec_GoodSteps.mono _ _
   | exact spec_l14Ended.mono _ _ _ _ _ _ _
   | exact spec_l1Has.mono _ _ _
   | exact LeO.none _
   | refine LeO.ite ?_ ?_
   | refine LeO.bind ?_ (fun _=>?_)
theorem spec_GoodLocks.mono : ∀ a0 a1 a2 a3 a4 k,LeO (spec_GoodLocks.f k a0 a1 a2 a3 a4) (spec_GoodLocks.f (k + 1) a0 a1 a2 a3 a4):=by
 intro a0 a1 a2 a3 a4 k;obtain ⟨ih0,ih1,ih2,ih3,ih4,ih5,ih6⟩:=spec_GoodLocks.mono_l k;unfold spec_GoodLocks.f
 repeat' first
   | (with_reducible exact ih0 _ _ _ _ _ _)
   | (with_reducible exact ih1 _ _ _ _ _ _ _ _)
   | (with_reducible exact ih2 _ _ _ _ _ _ _ _ _ _ _ _ _)
   | (with_reducible exact ih3 _ _ _ _ _ _ _ _ _ _ _ _ _ _)
   | (with_reducible exact ih4 _ _ _ _ _ _ _ _)
   | (with_reducible exact ih5 _ _ _ _ _ _ _ _ _ _ _ _ _ _)
   | (with_reducible exact ih6 _ _ _ _ _ _ _ _ _)
   | (with_reducible exact spec_GoodSteps.mono _ _)
   | (with_reducible exact spec_l14Ended.mono _ _ _ _ _ _ _)
   | (with_reducible exact spec_l1Has.mono _ _ _)
   | (with_reducible exact LeO.refl _)
   | (with_reducible exact LeO.none _)
   | (with_reducible refine LeO.ite ?_ ?_)
   | (with_reducible refine LeO.bind ?_ (fun _=>?_))
   | exact ih0 _ _ _ _ _ _
   | exact ih1 _ _ _ _ _ _ _ _
   | exact ih2 _ _ _ _ _ _ _ _ _ _ _ _ _
   | exact ih3 _ _ _ _ _ _ _ _ _ _ _ _ _ _
   | exact ih4 _ _ _ _ _ _ _ _
   | exact ih5 _ _ _ _ _ _ _ _ _ _ _ _ _ _
   | exact ih6 _ _ _ _ _ _ _ _ _
   | exact spec_GoodSteps.mono _ _
   | exact spec_l14Ended.mono _ _ _ _ _ _ _
   | exact spec_l1Has.mono _ _ _
   | exact LeO.none _
   | refine LeO.ite ?_ ?_
   | refine LeO.bind ?_ (fun _=>?_)
def spec_GoodLocks.T6 : Bool × List (List Nat × List Nat):=(true,[([],[]),([],[]),([1],[1]),([0,2],[0,2]),([3,3],[3]),([4],[4]),([5,4],[4,5]),([6,4,4],[4,6]),([7],[7]),([8,7],[7,8]),([7],[7]),([10,7],[7,10]),([9,11,7],[7,9,11]),([12,7],[7,12]),([13,7],[7,13]),([7],[7]),([15,7],[7,15]),([14,16,7],[7,14,16]),([17,7,7],[7,17]),([18],[18]),([19,18],[18,19]),([18],[18]),([21,18],[18,21]),([20,22,18],[18,20,22]),([23,18],[18,23]),([24,18],[18,24]),([18],[18]),([26,18],[18,26]),([25,27,18],[18,25,27]),([28,18,18],[18,28]),([29],[29]),([30,29],[29,30]),([29],[29]),([32,29],[29,32]),([31,33,29],[29,31,33]),([34,29],[29,34]),([35,29],[29,35]),([29],[29]),([37,29],[29,37]),([36,38,29],[29,36,38]),([29,39,18],[18,29,39]),([18,40,7],[7,18,40]),([7,41,4],[4,7,41]),([4,42],[4,42])])
def spec_GoodLocks.B6 : List Nat:=[0,0,2,7,15,31,63,127,255,511,255,1279,4095,8191,16383,255,33023,131071,262143,524287,1048575,524287,2621439,8388607,16777215,33554431,524287,67633151,268435455,536870911,1073741823,2147483647,1073741823,5368709119,17179869183,34359738367,68719476735,1073741823,138512695295,549755813887,1099511627775,2199023255551,4398046511103,8796093022207]
theorem spec_GoodLocks.tab6 : rtab .any (opsOf Try.f21 6)=spec_GoodLocks.T6:=by kernel_rfl
theorem spec_GoodLocks.bits6 : waitsOk spec_GoodLocks.T6.2 spec_GoodLocks.B6=true:=by kernel_rfl
def spec_GoodLocks.T27 : Bool × List (List Nat × List Nat):=(true,[([],[]),([],[]),([1],[1]),([0,2],[0,2]),([],[]),([4],[4]),([3,5,3],[3,5]),([6,6,0,1,2,3,4,5,6],[6])])
def spec_GoodLocks.B27 : List Nat:=[0,0,2,7,0,16,63,127]
theorem spec_GoodLocks.tab27 : rtab .any (opsOf Try.f21 27)=spec_GoodLocks.T27:=by kernel_rfl
theorem spec_GoodLocks.bits27 : waitsOk spec_GoodLocks.T27.2 spec_GoodLocks.B27=true:=by kernel_rfl
set_option maxHeartbeats 8000000 in
set_option maxRecDepth 100000 in
theorem spec_GoodLocks.calls (k:Nat) (A0_0:Option Addr) (c0_0:Nat) (l0_0:List (S47)) (A0_1:Option Addr) (c0_1:Nat) (l0_1:List (S47)) (A0_2:Option Addr) (c0_2:Nat) (l0_2:List (S47)) (A0_3:Option Addr) (c0_3:Nat) (l0_3:List Int) (A0_4:Option Addr) (c0_4:Nat) (l0_4:List Int) (r:Bool) (w:World) (hr0_0:Kd.C k47 w A0_0 l0_0.length l0_0) (hc0_0:l0_0.length≤c0_0) (hr0_1:Kd.C k47 w A0_1 l0_1.length l0_1) (hc0_1:l0_1.length≤c0_1) (hr0_2:Kd.C k47 w A0_2 l0_2.length l0_2) (hc0_2:l0_2.length≤c0_2) (hr0_3:Kd.C (Kd.int .i64) w A0_3 l0_3.length l0_3) (hc0_3:l0_3.length≤c0_3) (hr0_4:Kd.C (Kd.int .i64) w A0_4 l0_4.length l0_4) (hc0_4:l0_4.length≤c0_4) (h:spec_GoodLocks.f k l0_0 l0_1 l0_2 l0_3 l0_4=some r) :
  Calls Try.prog 21 #[.agg #[.slice A0_0 l0_0.length c0_0,.slice A0_1 l0_1.length c0_1,.slice A0_2 l0_2.length c0_2,.slice A0_3 l0_3.length c0_3,.slice A0_4 l0_4.length c0_4]] w fun e w'=>e=.returned (.bool r)∧Below w.heap.size w w':=by
 have hu31:=Try.underlying31;have hu47:=Try.underlying47;have HR0_0:=qK hr0_0;have HC0_0:=qK hc0_0;clear hr0_0 hc0_0;have HR0_1:=qK hr0_1;have HC0_1:=qK hc0_1;clear hr0_1 hc0_1;have HR0_2:=qK hr0_2;have HC0_2:=qK hc0_2;clear hr0_2 hc0_2;have HR0_3:=qK hr0_3;have HC0_3:=qK hc0_3;clear hr0_3 hc0_3;have HR0_4:=qK hr0_4;have HC0_4:=qK hc0_4;clear hr0_4 hc0_4;have HB:=qK (Below.refl w.heap.size w);have H:((spec_GoodSteps.f k l0_0).bind fun t117=>(if t117=true then ((spec_GoodSteps.f k l0_1).bind fun t118=>(if t118=true then ((spec_GoodSteps.f k l0_2).bind fun t119=>(spec_GoodLocks.j0 k (!t119) l0_0 l0_1 l0_2 l0_3 l0_4)) else (spec_GoodLocks.j0 k true l0_0 l0_1 l0_2 l0_3 l0_4))) else (spec_GoodLocks.j0 k true l0_0 l0_1 l0_2 l0_3 l0_4)))=some r:=h;clear h;have HC2:=qK H;clear H;go_enter Try.func21,Try.ntmps21
 go_upto_region 1 with (first|((with_reducible refine gate_dst (N:=1) rfl ?_);refine box_event ?hg (N:=1) ?hd (cs:=#[.slice A0_0 l0_0.length c0_0,.slice A0_1 l0_1.length c0_1,.slice A0_2 l0_2.length c0_2,.slice A0_3 l0_3.length c0_3,.slice A0_4 l0_4.length c0_4]) (t:=31) ?hr ?_;(case hd=>rfl);(case hg=>rfl);(case hr=>(go_simp;try rfl));intro gb116 hg w3 hbox hb;have n0_:=qK (qT (by repeat (with_reducible first|exact HB.out|apply qA|apply qD|apply qO)) hb);have n1_:=qK (hbox);have n2_:=qK ((by rw [hg];exact (qZ (by repeat (with_reducible first|exact HB.out|apply qA|apply qD|apply qO))):w.heap.size≤gb116));have n3_:=qK ((by rw [hg];exact (qZ (by repeat (with_reducible first|exact HB.out|apply qA|apply qD|apply qO))):w.heap.size≤gb116));clear HB;have HB:=n0_;have BK116:=n1_;have GW116:=n2_;have GE116:=n3_;clear n0_ n1_ n2_ n3_;clear hb hbox hg))
 (try simp only [Act.put,List.setIfInBounds_toArray,List.set_cons_zero,List.set_cons_succ]);go_cut [29] (fun v29 wc=>∃ (kq:Nat) (x29_1:Bool),v29=.bool x29_1∧Aside0 (spec_GoodLocks.j0 kq x29_1 l0_0 l0_1 l0_2 l0_3 l0_4=some r)∧Aside0 (kq≤k)∧Aside0 (wc.heap[gb116]?=some (.cells #[(.slice A0_0 l0_0.length c0_0),(.slice A0_1 l0_1.length c0_1),(.slice A0_2 l0_2.length c0_2),(.slice A0_3 l0_3.length c0_3),(.slice A0_4 l0_4.length c0_4)] 31 (0,0)))∧Aside0 (Below w.heap.size w wc))
 case first =>
  have H:=HC2.out;clear HC2;replace H:=Option.bind_eq_some_iff.mp H;obtain ⟨t117,A40,H⟩:=H;replace H:(if t117=true then ((spec_GoodSteps.f k l0_1).bind fun t118=>(if t118=true then ((spec_GoodSteps.f k l0_2).bind fun t119=>(spec_GoodLocks.j0 k (!t119) l0_0 l0_1 l0_2 l0_3 l0_4)) else (spec_GoodLocks.j0 k true l0_0 l0_1 l0_2 l0_3 l0_4))) else (spec_GoodLocks.j0 k true l0_0 l0_1 l0_2 l0_3 l0_4))=some r:=H;have A4:=qK A40;clear A40;by_cases c5:t117=true
  ·subst c5;have H1:((spec_GoodSteps.f k l0_1).bind fun t118=>(if t118=true then ((spec_GoodSteps.f k l0_2).bind fun t119=>(spec_GoodLocks.j0 k (!t119) l0_0 l0_1 l0_2 l0_3 l0_4)) else (spec_GoodLocks.j0 k true l0_0 l0_1 l0_2 l0_3 l0_4)))=some r:=by rw [if_pos rfl] at H;exact H
   clear H;have H:=H1;clear H1;replace H:=Option.bind_eq_some_iff.mp H;obtain ⟨t118,A60,H⟩:=H;replace H:(if t118=true then ((spec_GoodSteps.f k l0_2).bind fun t119=>(spec_GoodLocks.j0 k (!t119) l0_0 l0_1 l0_2 l0_3 l0_4)) else (spec_GoodLocks.j0 k true l0_0 l0_1 l0_2 l0_3 l0_4))=some r:=H;have A6:=qK A60;clear A60;by_cases c7:t118=true
   ·subst c7;have H1:((spec_GoodSteps.f k l0_2).bind fun t119=>(spec_GoodLocks.j0 k (!t119) l0_0 l0_1 l0_2 l0_3 l0_4))=some r:=by rw [if_pos rfl] at H;exact H
    clear H;have H:=H1;clear H1;replace H:=Option.bind_eq_some_iff.mp H;obtain ⟨t119,A80,H⟩:=H;replace H:(spec_GoodLocks.j0 k (!t119) l0_0 l0_1 l0_2 l0_3 l0_4)=some r:=H;have A8:=qK A80;clear A80;have H':=qK H;clear H;have hcz9_0:w3.cell? ⟨gb116,0,none⟩=some (.slice A0_0 l0_0.length c0_0):=(qC BK116.out 0).trans rfl;have hcz9_1:w3.cell? ⟨gb116,1,none⟩=some (.slice A0_1 l0_1.length c0_1):=(qC BK116.out 1).trans rfl;have hcz9_2:w3.cell? ⟨gb116,2,none⟩=some (.slice A0_2 l0_2.length c0_2):=(qC BK116.out 2).trans rfl;have hcz9_3:w3.cell? ⟨gb116,3,none⟩=some (.slice A0_3 l0_3.length c0_3):=(qC BK116.out 3).trans rfl;have hcz9_4:w3.cell? ⟨gb116,4,none⟩=some (.slice A0_4 l0_4.length c0_4):=(qC BK116.out 4).trans rfl;have hfz9_0:=qF BK116.out 0;have hfz9_1:=qF BK116.out 1;have hfz9_2:=qF BK116.out 2;have hfz9_3:=qF BK116.out 3;have hfz9_4:=qF BK116.out 4;go_wp2_with (first|((with_reducible refine gate_callee (f:=37) rfl ?_);refine goesL_ (some 16) rfl rfl Try.func37 (by kernel_rfl) rfl #[.slice A0_0 l0_0.length c0_0] rfl (by (try simp only [mT,mC,mN]);first|done|rfl|(simp only [lD,lT];rfl)) ?_;(with_reducible refine (spec_GoodSteps.calls k _ _ l0_0 true _ ?side1 ?side2 A4.out).mono ?_);(case side1=>repeat (first|exact (cB HR0_0.out (by repeat (with_reducible first|exact HB.out|apply qA|apply qD|apply qO|refine qS ?_ GE116.out)))|(with_reducible first|refine cL ?_ _|refine cN ?_ _|refine cW ?_)));(case side2=>exact HC0_0.out);rintro e w10 ⟨rfl,hb⟩;refine ⟨_,rfl,?_⟩;have n0_:=qK (qB (g:=gb116) (o:=_) (by (with_reducible repeat (first|refine qN ?_ _|refine qW ?_|refine qL ?_ _));exact BK116.out) hb);have n1_:=qK (qT (by repeat (with_reducible first|exact HB.out|apply qA|apply qD|apply qO|refine qS ?_ GE116.out)) hb);clear BK116;clear HB;have BK116:=n0_;have HB:=n1_;clear n0_ n1_;(try clear hb);(try clear hb2);(try clear hk);(try clear hi);have hcz11_0:w10.cell? ⟨gb116,0,none⟩=some (.slice A0_0 l0_0.length c0_0):=(qC BK116.out 0).trans rfl;have hcz11_1:w10.cell? ⟨gb116,1,none⟩=some (.slice A0_1 l0_1.length c0_1):=(qC BK116.out 1).trans rfl;have hcz11_2:w10.cell? ⟨gb116,2,none⟩=some (.slice A0_2 l0_2.length c0_2):=(qC BK116.out 2).trans rfl;have hcz11_3:w10.cell? ⟨gb116,3,none⟩=some (.slice A0_3 l0_3.length c0_3):=(qC BK116.out 3).trans rfl;have hcz11_4:w10.cell? ⟨gb116,4,none⟩=some (.slice A0_4 l0_4.length c0_4):=(qC BK116.out 4).trans rfl;have hfz11_0:=qF BK116.out 0;have hfz11_1:=qF BK116.out 1;have hfz11_2:=qF BK116.out 2;have hfz11_3:=qF BK116.out 3;have hfz11_4:=qF BK116.out 4)|(go_at_call 37;(with_reducible refine (spec_GoodSteps.calls k _ _ l0_1 true _ ?side1 ?side2 A6.out).mono ?_);(case side1=>repeat (first|exact (cB HR0_1.out HB.out)|(with_reducible first|refine cL ?_ _|refine cN ?_ _|refine cW ?_)));(case side2=>exact HC0_1.out);rintro e w12 ⟨rfl,hb⟩;have n0_:=qK (qB (g:=gb116) (o:=_) (by (with_reducible repeat (first|refine qN ?_ _|refine qW ?_|refine qL ?_ _));exact BK116.out) hb);have n1_:=qK (qT (by repeat (with_reducible first|exact HB.out|apply qA|apply qD|apply qO|refine qS ?_ GE116.out)) hb);clear BK116;clear HB;have BK116:=n0_;have HB:=n1_;clear n0_ n1_;(try clear hb);(try clear hb2);(try clear hk);(try clear hi);have hcz13_0:w12.cell? ⟨gb116,0,none⟩=some (.slice A0_0 l0_0.length c0_0):=(qC BK116.out 0).trans rfl;have hcz13_1:w12.cell? ⟨gb116,1,none⟩=some (.slice A0_1 l0_1.length c0_1):=(qC BK116.out 1).trans rfl;have hcz13_2:w12.cell? ⟨gb116,2,none⟩=some (.slice A0_2 l0_2.length c0_2):=(qC BK116.out 2).trans rfl;have hcz13_3:w12.cell? ⟨gb116,3,none⟩=some (.slice A0_3 l0_3.length c0_3):=(qC BK116.out 3).trans rfl;have hcz13_4:w12.cell? ⟨gb116,4,none⟩=some (.slice A0_4 l0_4.length c0_4):=(qC BK116.out 4).trans rfl;have hfz13_0:=qF BK116.out 0;have hfz13_1:=qF BK116.out 1;have hfz13_2:=qF BK116.out 2;have hfz13_3:=qF BK116.out 3;have hfz13_4:=qF BK116.out 4)|(go_at_call 37;(with_reducible refine (spec_GoodSteps.calls k _ _ l0_2 t119 _ ?side1 ?side2 A8.out).mono ?_);(case side1=>repeat (first|exact (cB HR0_2.out HB.out)|(with_reducible first|refine cL ?_ _|refine cN ?_ _|refine cW ?_)));(case side2=>exact HC0_2.out);rintro e w14 ⟨rfl,hb⟩;have n0_:=qK (qB (g:=gb116) (o:=_) (by (with_reducible repeat (first|refine qN ?_ _|refine qW ?_|refine qL ?_ _));exact BK116.out) hb);have n1_:=qK (qT (by repeat (with_reducible first|exact HB.out|apply qA|apply qD|apply qO|refine qS ?_ GE116.out)) hb);clear BK116;clear HB;have BK116:=n0_;have HB:=n1_;clear n0_ n1_;(try clear hb);(try clear hb2);(try clear hk);(try clear hi)))
    go_meet
    case rel=>exact ⟨_,(!t119),(by first|rfl|(simp;done)|(simp [*];done)),H',⟨by first|omega|exact Nat.le_refl _⟩,⟨by (with_reducible repeat (first|refine qN ?_ _|refine qW ?_|refine qL ?_ _));exact BK116.out⟩,⟨by repeat (first|(with_reducible first|exact HB.out|apply qA|apply qD|apply qO|refine qS ?_ GE116.out)|exact HB.out)⟩⟩
   ·replace c7:=Bool.eq_false_iff.mpr c7;subst c7;have H1:(spec_GoodLocks.j0 k true l0_0 l0_1 l0_2 l0_3 l0_4)=some r:=by rw [if_neg (show ¬ (false=true) by decide)] at H;exact H
    clear H;have H:=H1;clear H1;have H':=qK H;clear H;have hcz15_0:w3.cell? ⟨gb116,0,none⟩=some (.slice A0_0 l0_0.length c0_0):=(qC BK116.out 0).trans rfl;have hcz15_1:w3.cell? ⟨gb116,1,none⟩=some (.slice A0_1 l0_1.length c0_1):=(qC BK116.out 1).trans rfl;have hcz15_2:w3.cell? ⟨gb116,2,none⟩=some (.slice A0_2 l0_2.length c0_2):=(qC BK116.out 2).trans rfl;have hcz15_3:w3.cell? ⟨gb116,3,none⟩=some (.slice A0_3 l0_3.length c0_3):=(qC BK116.out 3).trans rfl;have hcz15_4:w3.cell? ⟨gb116,4,none⟩=some (.slice A0_4 l0_4.length c0_4):=(qC BK116.out 4).trans rfl;have hfz15_0:=qF BK116.out 0;have hfz15_1:=qF BK116.out 1;have hfz15_2:=qF BK116.out 2;have hfz15_3:=qF BK116.out 3;have hfz15_4:=qF BK116.out 4;go_wp2_with (first|((with_reducible refine gate_callee (f:=37) rfl ?_);refine goesL_ (some 16) rfl rfl Try.func37 (by kernel_rfl) rfl #[.slice A0_0 l0_0.length c0_0] rfl (by (try simp only [mT,mC,mN]);first|done|rfl|(simp only [lD,lT];rfl)) ?_;(with_reducible refine (spec_GoodSteps.calls k _ _ l0_0 true _ ?side1 ?side2 A4.out).mono ?_);(case side1=>repeat (first|exact (cB HR0_0.out (by repeat (with_reducible first|exact HB.out|apply qA|apply qD|apply qO|refine qS ?_ GE116.out)))|(with_reducible first|refine cL ?_ _|refine cN ?_ _|refine cW ?_)));(case side2=>exact HC0_0.out);rintro e w16 ⟨rfl,hb⟩;refine ⟨_,rfl,?_⟩;have n0_:=qK (qB (g:=gb116) (o:=_) (by (with_reducible repeat (first|refine qN ?_ _|refine qW ?_|refine qL ?_ _));exact BK116.out) hb);have n1_:=qK (qT (by repeat (with_reducible first|exact HB.out|apply qA|apply qD|apply qO|refine qS ?_ GE116.out)) hb);clear BK116;clear HB;have BK116:=n0_;have HB:=n1_;clear n0_ n1_;(try clear hb);have hcz17_0:w16.cell? ⟨gb116,0,none⟩=some (.slice A0_0 l0_0.length c0_0):=(qC BK116.out 0).trans rfl;have hcz17_1:w16.cell? ⟨gb116,1,none⟩=some (.slice A0_1 l0_1.length c0_1):=(qC BK116.out 1).trans rfl;have hcz17_2:w16.cell? ⟨gb116,2,none⟩=some (.slice A0_2 l0_2.length c0_2):=(qC BK116.out 2).trans rfl;have hcz17_3:w16.cell? ⟨gb116,3,none⟩=some (.slice A0_3 l0_3.length c0_3):=(qC BK116.out 3).trans rfl;have hcz17_4:w16.cell? ⟨gb116,4,none⟩=some (.slice A0_4 l0_4.length c0_4):=(qC BK116.out 4).trans rfl;have hfz17_0:=qF BK116.out 0;have hfz17_1:=qF BK116.out 1;have hfz17_2:=qF BK116.out 2;have hfz17_3:=qF BK116.out 3;have hfz17_4:=qF BK116.out 4)|(go_at_call 37;(with_reducible refine (spec_GoodSteps.calls k _ _ l0_1 false _ ?side1 ?side2 A6.out).mono ?_);(case side1=>repeat (first|exact (cB HR0_1.out HB.out)|(with_reducible first|refine cL ?_ _|refine cN ?_ _|refine cW ?_)));(case side2=>exact HC0_1.out);rintro e w18 ⟨rfl,hb⟩;have n0_:=qK (qB (g:=gb116) (o:=_) (by (with_reducible repeat (first|refine qN ?_ _|refine qW ?_|refine qL ?_ _));exact BK116.out) hb);have n1_:=qK (qT (by repeat (with_reducible first|exact HB.out|apply qA|apply qD|apply qO|refine qS ?_ GE116.out)) hb);clear BK116;clear HB;have BK116:=n0_;have HB:=n1_;clear n0_ n1_;(try clear hb)))
    go_meet
    case rel=>exact ⟨_,(true),(by first|rfl|(simp;done)|(simp [*];done)),H',⟨by first|omega|exact Nat.le_refl _⟩,⟨by (with_reducible repeat (first|refine qN ?_ _|refine qW ?_|refine qL ?_ _));exact BK116.out⟩,⟨by repeat (first|(with_reducible first|exact HB.out|apply qA|apply qD|apply qO|refine qS ?_ GE116.out)|exact HB.out)⟩⟩
  ·replace c5:=Bool.eq_false_iff.mpr c5;subst c5;have H1:(spec_GoodLocks.j0 k true l0_0 l0_1 l0_2 l0_3 l0_4)=some r:=by rw [if_neg (show ¬ (false=true) by decide)] at H;exact H
   clear H;have H:=H1;clear H1;have H':=qK H;clear H;have hcz19_0:w3.cell? ⟨gb116,0,none⟩=some (.slice A0_0 l0_0.length c0_0):=(qC BK116.out 0).trans rfl;have hcz19_1:w3.cell? ⟨gb116,1,none⟩=some (.slice A0_1 l0_1.length c0_1):=(qC BK116.out 1).trans rfl;have hcz19_2:w3.cell? ⟨gb116,2,none⟩=some (.slice A0_2 l0_2.length c0_2):=(qC BK116.out 2).trans rfl;have hcz19_3:w3.cell? ⟨gb116,3,none⟩=some (.slice A0_3 l0_3.length c0_3):=(qC BK116.out 3).trans rfl;have hcz19_4:w3.cell? ⟨gb116,4,none⟩=some (.slice A0_4 l0_4.length c0_4):=(qC BK116.out 4).trans rfl;have hfz19_0:=qF BK116.out 0;have hfz19_1:=qF BK116.out 1;have hfz19_2:=qF BK116.out 2;have hfz19_3:=qF BK116.out 3;have hfz19_4:=qF BK116.out 4;go_wp2_with (first|((with_reducible refine gate_callee (f:=37) rfl ?_);refine goesL_ (some 16) rfl rfl Try.func37 (by kernel_rfl) rfl #[.slice A0_0 l0_0.length c0_0] rfl (by (try simp only [mT,mC,mN]);first|done|rfl|(simp only [lD,lT];rfl)) ?_;(with_reducible refine (spec_GoodSteps.calls k _ _ l0_0 false _ ?side1 ?side2 A4.out).mono ?_);(case side1=>repeat (first|exact (cB HR0_0.out (by repeat (with_reducible first|exact HB.out|apply qA|apply qD|apply qO|refine qS ?_ GE116.out)))|(with_reducible first|refine cL ?_ _|refine cN ?_ _|refine cW ?_)));(case side2=>exact HC0_0.out);rintro e w20 ⟨rfl,hb⟩;refine ⟨_,rfl,?_⟩;have n0_:=qK (qB (g:=gb116) (o:=_) (by (with_reducible repeat (first|refine qN ?_ _|refine qW ?_|refine qL ?_ _));exact BK116.out) hb);have n1_:=qK (qT (by repeat (with_reducible first|exact HB.out|apply qA|apply qD|apply qO|refine qS ?_ GE116.out)) hb);clear BK116;clear HB;have BK116:=n0_;have HB:=n1_;clear n0_ n1_;(try clear hb)))
   go_meet
   case rel=>exact ⟨_,(true),(by first|rfl|(simp;done)|(simp [*];done)),H',⟨by first|omega|exact Nat.le_refl _⟩,⟨by (with_reducible repeat (first|refine qN ?_ _|refine qW ?_|refine qL ?_ _));exact BK116.out⟩,⟨by repeat (first|(with_reducible first|exact HB.out|apply qA|apply qD|apply qO|refine qS ?_ GE116.out)|exact HB.out)⟩⟩
 case rest =>
  clear HC2;try clear c2
  try clear p2
  try clear c3
  try clear c5
  try clear c7
  try clear hcz11_0
  try clear hcz11_1
  try clear hcz11_2
  try clear hcz11_3
  try clear hcz11_4
  try clear hcz13_0
  try clear hcz13_1
  try clear hcz13_2
  try clear hcz13_3
  try clear hcz13_4
  try clear hcz15_0
  try clear hcz15_1
  try clear hcz15_2
  try clear hcz15_3
  try clear hcz15_4
  try clear hcz17_0
  try clear hcz17_1
  try clear hcz17_2
  try clear hcz17_3
  try clear hcz17_4
  try clear hcz19_0
  try clear hcz19_1
  try clear hcz19_2
  try clear hcz19_3
  try clear hcz19_4
  try clear hcz9_0
  try clear hcz9_1
  try clear hcz9_2
  try clear hcz9_3
  try clear hcz9_4
  try clear hfz11_0
  try clear hfz11_1
  try clear hfz11_2
  try clear hfz11_3
  try clear hfz11_4
  try clear hfz13_0
  try clear hfz13_1
  try clear hfz13_2
  try clear hfz13_3
  try clear hfz13_4
  try clear hfz15_0
  try clear hfz15_1
  try clear hfz15_2
  try clear hfz15_3
  try clear hfz15_4
  try clear hfz17_0
  try clear hfz17_1
  try clear hfz17_2
  try clear hfz17_3
  try clear hfz17_4
  try clear hfz19_0
  try clear hfz19_1
  try clear hfz19_2
  try clear hfz19_3
  try clear hfz19_4
  try clear hfz9_0
  try clear hfz9_1
  try clear hfz9_2
  try clear hfz9_3
  try clear hfz9_4
  obtain ⟨kq,x29_1,rfl,HA,HJ1,BK116,HB⟩:=hcut;cases kq with
  | zero=>exact absurd HA.out (by simp [spec_GoodLocks.j0])
  | succ kj1 =>
   have H:=HA.out;clear HA;simp only [spec_GoodLocks.j0] at H;by_cases c21:x29_1=true
   ·subst c21;have H1:(some false)=some r:=by rw [if_pos rfl] at H;exact H
    clear H;have H:=H1;clear H1;obtain rfl:=Option.some.inj H;go_wp2
    go_ret
    exact ⟨by first|rfl|(simp [errW_none,errW_some] <;> rfl)|(simp [*,errW_none,errW_some] <;> rfl),by repeat (first|(with_reducible first|exact HB.out|apply qA|apply qD|apply qO|refine qS ?_ GE116.out)|exact HB.out)⟩
   ·replace c21:=Bool.eq_false_iff.mpr c21;subst c21;have H1:(spec_GoodLocks.l0 kj1 l0_0 (l0_0.length:Int) 0 l0_0 l0_1 l0_2 l0_3 l0_4)=some r:=by rw [if_neg (show ¬ (false=true) by decide)] at H;exact H
    clear H;have H:=H1;clear H1;have H':=qK H;clear H;have hcz22_0:wc.cell? ⟨gb116,0,none⟩=some (.slice A0_0 l0_0.length c0_0):=(qC BK116.out 0).trans rfl;have hcz22_1:wc.cell? ⟨gb116,1,none⟩=some (.slice A0_1 l0_1.length c0_1):=(qC BK116.out 1).trans rfl;have hcz22_2:wc.cell? ⟨gb116,2,none⟩=some (.slice A0_2 l0_2.length c0_2):=(qC BK116.out 2).trans rfl;have hcz22_3:wc.cell? ⟨gb116,3,none⟩=some (.slice A0_3 l0_3.length c0_3):=(qC BK116.out 3).trans rfl;have hcz22_4:wc.cell? ⟨gb116,4,none⟩=some (.slice A0_4 l0_4.length c0_4):=(qC BK116.out 4).trans rfl;have hfz22_0:=qF BK116.out 0;have hfz22_1:=qF BK116.out 1;have hfz22_2:=qF BK116.out 2;have hfz22_3:=qF BK116.out 3;have hfz22_4:=qF BK116.out 4;go_wp2
    go_loopg [33] kj1 (fun kq v33 w'=>∃ (x33_2:Int),v33=.int .i64 x33_2∧Aside0 (spec_GoodLocks.l0 kq l0_0 (l0_0.length:Int) x33_2 l0_0 l0_1 l0_2 l0_3 l0_4=some r)∧Aside0 (kq≤kj1)∧Aside0 (w'.heap[gb116]?=some (.cells #[(.slice A0_0 l0_0.length c0_0),(.slice A0_1 l0_1.length c0_1),(.slice A0_2 l0_2.length c0_2),(.slice A0_3 l0_3.length c0_3),(.slice A0_4 l0_4.length c0_4)] 31 (0,0)))∧Aside0 (Below w.heap.size w w'))
    case atStart=>exact ⟨(0),(by first|rfl|(simp;done)|(simp [*];done)),H',⟨Nat.le_refl _⟩,⟨by (with_reducible repeat (first|refine qN ?_ _|refine qW ?_|refine qL ?_ _));exact BK116.out⟩,⟨by repeat (first|(with_reducible first|exact HB.out|apply qA|apply qD|apply qO|refine qS ?_ GE116.out)|exact HB.out)⟩⟩
    case round =>
     clear H';try clear c2
     try clear p2
     try clear c3
     try clear c5
     try clear c7
     try clear c21
     try clear hcz11_0
     try clear hcz11_1
     try clear hcz11_2
     try clear hcz11_3
     try clear hcz11_4
     try clear hcz13_0
     try clear hcz13_1
     try clear hcz13_2
     try clear hcz13_3
     try clear hcz13_4
     try clear hcz15_0
     try clear hcz15_1
     try clear hcz15_2
     try clear hcz15_3
     try clear hcz15_4
     try clear hcz17_0
     try clear hcz17_1
     try clear hcz17_2
     try clear hcz17_3
     try clear hcz17_4
     try clear hcz19_0
     try clear hcz19_1
     try clear hcz19_2
     try clear hcz19_3
     try clear hcz19_4
     try clear hcz22_0
     try clear hcz22_1
     try clear hcz22_2
     try clear hcz22_3
     try clear hcz22_4
     try clear hcz9_0
     try clear hcz9_1
     try clear hcz9_2
     try clear hcz9_3
     try clear hcz9_4
     try clear hfz11_0
     try clear hfz11_1
     try clear hfz11_2
     try clear hfz11_3
     try clear hfz11_4
     try clear hfz13_0
     try clear hfz13_1
     try clear hfz13_2
     try clear hfz13_3
     try clear hfz13_4
     try clear hfz15_0
     try clear hfz15_1
     try clear hfz15_2
     try clear hfz15_3
     try clear hfz15_4
     try clear hfz17_0
     try clear hfz17_1
     try clear hfz17_2
     try clear hfz17_3
     try clear hfz17_4
     try clear hfz19_0
     try clear hfz19_1
     try clear hfz19_2
     try clear hfz19_3
     try clear hfz19_4
     try clear hfz22_0
     try clear hfz22_1
     try clear hfz22_2
     try clear hfz22_3
     try clear hfz22_4
     try clear hfz9_0
     try clear hfz9_1
     try clear hfz9_2
     try clear hfz9_3
     try clear hfz9_4
     try clear p2
     obtain ⟨x33_2,rfl,HA,HK2,BK116,HB⟩:=hrel;cases gk with
     | zero=>exact absurd HA.out (by simp [spec_GoodLocks.l0])
     | succ k2 =>
      have H:=HA.out;clear HA;simp only [spec_GoodLocks.l0] at H;by_cases c23:x33_2 < (l0_0.length:Int)
      ·rw [if_pos c23] at H;have c23b0:decide (x33_2 < (l0_0.length:Int))=true:=decide_eq_true c23;clear c23;by_cases c24:0≤x33_2
       ·rw [if_pos c24] at H;have c24b0:decide (0≤x33_2)=true:=decide_eq_true c24;clear c24;by_cases c25:x33_2 < (l0_0.length:Int)
        ·rw [if_pos c25] at H;have c25b0:decide (x33_2 < (l0_0.length:Int))=true:=decide_eq_true c25;clear c25;have HC26:=qK H;clear H;have p120:0≤(x33_2:Int):=of_decide_eq_true (by first|(with_reducible assumption)|assumption);have q120:x33_2 < (l0_0.length:Int):=of_decide_eq_true (by first|(with_reducible assumption)|assumption);obtain ⟨ad120,e120,hx120_0,hx120_1,hx120_2⟩:=at_T47 HR0_0.out x33_2 p120 q120;cases e120
         replace hx120_0:=(HB.out.cell (World.block_lt_of_cell? w _ hx120_0)).trans hx120_0;replace hx120_1:=(HB.out.cell (World.block_lt_of_cell? w _ hx120_1)).trans hx120_1;replace hx120_2:=(HB.out.cell (World.block_lt_of_cell? w _ hx120_2)).trans hx120_2;replace p120:=eq_true p120;replace q120:=eq_true q120;go_upto_region 6 with (first|((with_reducible refine gate_dst (N:=4) rfl ?_);refine box_event ?hg (N:=4) ?hd (cs:=#[.int .i64 0,.int .i64 0,.int .i64 0]) (t:=47) ?hr ?_;(case hd=>rfl);(case hg=>rfl);(case hr=>(go_simp;try rfl));intro gb121 hg w27 hbox hb;have n0_:=qK (qB (g:=gb116) (o:=_) (by (with_reducible repeat (first|refine qN ?_ _|refine qW ?_|refine qL ?_ _));exact BK116.out) hb);have n1_:=qK (qT (by repeat (with_reducible first|exact HB.out|apply qA|apply qD|apply qO|refine qS ?_ GE116.out)) hb);have n2_:=qK (hbox);have n3_:=qK ((by rw [hg];exact (qZ (by repeat (with_reducible first|exact HB.out|apply qA|apply qD|apply qO|refine qS ?_ GE116.out))):w.heap.size≤gb121));have n4_:=qK ((by rw [hg];exact (qZ (by repeat (with_reducible first|exact HB.out|apply qA|apply qD|apply qO|refine qS ?_ GE116.out))):w.heap.size≤gb121));have n5_:=qK ((by rw [hg];exact Nat.ne_of_lt (blk_lt (g:=gb116) (o:=_) (by (with_reducible repeat (first|refine qN ?_ _|refine qW ?_|refine qL ?_ _));exact BK116.out)):gb116 ≠ gb121));have n6_:=qK ((by rw [hg];exact Nat.ne_of_gt (blk_lt (g:=gb116) (o:=_) (by (with_reducible repeat (first|refine qN ?_ _|refine qW ?_|refine qL ?_ _));exact BK116.out)):gb121 ≠ gb116));clear BK116;clear HB;have BK116:=n0_;have HB:=n1_;have BK121:=n2_;have GW121:=n3_;have GE121:=n4_;have NB116_121:=n5_;have NB121_116:=n6_;clear n0_ n1_ n2_ n3_ n4_ n5_ n6_;clear hb hbox hg;have hnb28:=NB121_116.out;have hnc28:=NB116_121.out;have hcz29_0:w27.cell? ⟨gb121,0,none⟩=some (.int .i64 0):=(qC BK121.out 0).trans rfl;have hcz29_1:w27.cell? ⟨gb121,1,none⟩=some (.int .i64 0):=(qC BK121.out 1).trans rfl;have hcz29_2:w27.cell? ⟨gb121,2,none⟩=some (.int .i64 0):=(qC BK121.out 2).trans rfl;have hfz29_0:=qF BK121.out 0;have hfz29_1:=qF BK121.out 1;have hfz29_2:=qF BK121.out 2))
         (try simp only [Act.put,List.setIfInBounds_toArray,List.set_cons_zero,List.set_cons_succ]);go_cut [81] (fun v81 wc=>∃ (kq:Nat) (x81_25:Bool),v81=.bool x81_25∧Aside0 (spec_GoodLocks.j2 kq x33_2 l0_0 (l0_0.length:Int) x33_2 x81_25 l0_0 l0_1 l0_2 l0_3 l0_4 ((rd_T47 l0_0 x33_2).f0) ((rd_T47 l0_0 x33_2).f1) ((rd_T47 l0_0 x33_2).f2)=some r)∧Aside0 (kq≤k2)∧Aside0 (wc.heap[gb116]?=some (.cells #[(.slice (some ad120) l0_0.length c0_0),(.slice A0_1 l0_1.length c0_1),(.slice A0_2 l0_2.length c0_2),(.slice A0_3 l0_3.length c0_3),(.slice A0_4 l0_4.length c0_4)] 31 (0,0)))∧Aside0 (wc.heap[gb121]?=some (.cells #[.int .i64 ((rd_T47 l0_0 x33_2).f0),.int .i64 ((rd_T47 l0_0 x33_2).f1),.int .i64 ((rd_T47 l0_0 x33_2).f2)] 47 (0,0)))∧Aside0 (Below w.heap.size w wc))
         case first =>
          have H:=HC26.out;clear HC26;replace H:=Option.bind_eq_some_iff.mp H;obtain ⟨t122,A300,H⟩:=H;replace H:(if t122=true then (spec_GoodLocks.j2 k2 x33_2 l0_0 (l0_0.length:Int) x33_2 true l0_0 l0_1 l0_2 l0_3 l0_4 ((rd_T47 l0_0 x33_2).f0) ((rd_T47 l0_0 x33_2).f1) ((rd_T47 l0_0 x33_2).f2)) else (if x33_2 > 0 then (if 0≤(wrap64 (x33_2 - 1)) then (if (wrap64 (x33_2 - 1)) < (l0_0.length:Int) then (if ((rd_T47 l0_0 (wrap64 (x33_2 - 1))).f0) > ((rd_T47 l0_0 x33_2).f0) then (spec_GoodLocks.j2 k2 x33_2 l0_0 (l0_0.length:Int) x33_2 true l0_0 l0_1 l0_2 l0_3 l0_4 ((rd_T47 l0_0 x33_2).f0) ((rd_T47 l0_0 x33_2).f1) ((rd_T47 l0_0 x33_2).f2)) else (if ((rd_T47 l0_0 (wrap64 (x33_2 - 1))).f0)=((rd_T47 l0_0 x33_2).f0) then (spec_GoodLocks.j2 k2 x33_2 l0_0 (l0_0.length:Int) x33_2 (decide (((rd_T47 l0_0 (wrap64 (x33_2 - 1))).f2) ≥ ((rd_T47 l0_0 x33_2).f2))) l0_0 l0_1 l0_2 l0_3 l0_4 ((rd_T47 l0_0 x33_2).f0) ((rd_T47 l0_0 x33_2).f1) ((rd_T47 l0_0 x33_2).f2)) else (spec_GoodLocks.j2 k2 x33_2 l0_0 (l0_0.length:Int) x33_2 false l0_0 l0_1 l0_2 l0_3 l0_4 ((rd_T47 l0_0 x33_2).f0) ((rd_T47 l0_0 x33_2).f1) ((rd_T47 l0_0 x33_2).f2)))) else (none)) else (none)) else (spec_GoodLocks.j2 k2 x33_2 l0_0 (l0_0.length:Int) x33_2 false l0_0 l0_1 l0_2 l0_3 l0_4 ((rd_T47 l0_0 x33_2).f0) ((rd_T47 l0_0 x33_2).f1) ((rd_T47 l0_0 x33_2).f2))))=some r:=H;have A30:=qK A300;clear A300;by_cases c31:t122=true
          ·subst c31;have H1:(spec_GoodLocks.j2 k2 x33_2 l0_0 (l0_0.length:Int) x33_2 true l0_0 l0_1 l0_2 l0_3 l0_4 ((rd_T47 l0_0 x33_2).f0) ((rd_T47 l0_0 x33_2).f1) ((rd_T47 l0_0 x33_2).f2))=some r:=by rw [if_pos rfl] at H;exact H
           clear H;have H:=H1;clear H1;have H':=qK H;clear H;try go_wp2
           have n0_:Aside0 ((((w27.setCell ⟨gb121,0,none⟩ (.int .i64 ((rd_T47 l0_0 x33_2).f0))).setCell ⟨gb121,1,none⟩ (.int .i64 ((rd_T47 l0_0 x33_2).f1))).setCell ⟨gb121,2,none⟩ (.int .i64 ((rd_T47 l0_0 x33_2).f2))).heap[gb116]?=some (.cells #[.slice (some ad120) l0_0.length c0_0,.slice A0_1 l0_1.length c0_1,.slice A0_2 l0_2.length c0_2,.slice A0_3 l0_3.length c0_3,.slice A0_4 l0_4.length c0_4] 31 (0,0))):=⟨by (with_reducible repeat (first|refine qN ?_ _|refine qW ?_|refine qL ?_ _));refine qR ?_ NB116_121.out _;(with_reducible repeat (first|refine qN ?_ _|refine qW ?_|refine qL ?_ _));refine qR ?_ NB116_121.out _;(with_reducible repeat (first|refine qN ?_ _|refine qW ?_|refine qL ?_ _));refine qR ?_ NB116_121.out _;(with_reducible repeat (first|refine qN ?_ _|refine qW ?_|refine qL ?_ _));exact BK116.out⟩;have n1_:Aside0 ((((w27.setCell ⟨gb121,0,none⟩ (.int .i64 ((rd_T47 l0_0 x33_2).f0))).setCell ⟨gb121,1,none⟩ (.int .i64 ((rd_T47 l0_0 x33_2).f1))).setCell ⟨gb121,2,none⟩ (.int .i64 ((rd_T47 l0_0 x33_2).f2))).heap[gb121]?=some (.cells #[.int .i64 ((rd_T47 l0_0 x33_2).f0),.int .i64 ((rd_T47 l0_0 x33_2).f1),.int .i64 ((rd_T47 l0_0 x33_2).f2)] 47 (0,0))):=⟨by (with_reducible repeat (first|refine qN ?_ _|refine qW ?_|refine qL ?_ _));refine qP (cs:=#[.int .i64 ((rd_T47 l0_0 x33_2).f0),.int .i64 ((rd_T47 l0_0 x33_2).f1),.int .i64 0]) ?_ 2 _ rfl;(with_reducible repeat (first|refine qN ?_ _|refine qW ?_|refine qL ?_ _));refine qP (cs:=#[.int .i64 ((rd_T47 l0_0 x33_2).f0),.int .i64 0,.int .i64 0]) ?_ 1 _ rfl;(with_reducible repeat (first|refine qN ?_ _|refine qW ?_|refine qL ?_ _));refine qP (cs:=#[.int .i64 0,.int .i64 0,.int .i64 0]) ?_ 0 _ rfl;(with_reducible repeat (first|refine qN ?_ _|refine qW ?_|refine qL ?_ _));exact BK121.out⟩;have n2_:Aside0 (Below w.heap.size w (((w27.setCell ⟨gb121,0,none⟩ (.int .i64 ((rd_T47 l0_0 x33_2).f0))).setCell ⟨gb121,1,none⟩ (.int .i64 ((rd_T47 l0_0 x33_2).f1))).setCell ⟨gb121,2,none⟩ (.int .i64 ((rd_T47 l0_0 x33_2).f2)))):=⟨by repeat (first|(with_reducible first|exact HB.out|apply qA|apply qD|apply qO|refine qS ?_ GE116.out|refine qS ?_ GE121.out)|exact HB.out)⟩;(try clear BK116);(try clear BK121);(try clear HB);generalize (((w27.setCell ⟨gb121,0,none⟩ (.int .i64 ((rd_T47 l0_0 x33_2).f0))).setCell ⟨gb121,1,none⟩ (.int .i64 ((rd_T47 l0_0 x33_2).f1))).setCell ⟨gb121,2,none⟩ (.int .i64 ((rd_T47 l0_0 x33_2).f2)))=w32 at n0_ n1_ n2_ ⊢
           have BK116:=n0_;have BK121:=n1_;have HB:=n2_;clear n0_ n1_ n2_;(try (rw [drewN_self w32];generalize hq_:World.drewN w32 _=w32;have n0_:Aside0 (w32.heap[gb116]?=some (.cells #[.slice (some ad120) l0_0.length c0_0,.slice A0_1 l0_1.length c0_1,.slice A0_2 l0_2.length c0_2,.slice A0_3 l0_3.length c0_3,.slice A0_4 l0_4.length c0_4] 31 (0,0))):=⟨by rw [← hq_];exact (by (with_reducible repeat (first|refine qN ?_ _|refine qW ?_|refine qL ?_ _));exact BK116.out)⟩;have n1_:Aside0 (w32.heap[gb121]?=some (.cells #[.int .i64 ((rd_T47 l0_0 x33_2).f0),.int .i64 ((rd_T47 l0_0 x33_2).f1),.int .i64 ((rd_T47 l0_0 x33_2).f2)] 47 (0,0))):=⟨by rw [← hq_];exact (by (with_reducible repeat (first|refine qN ?_ _|refine qW ?_|refine qL ?_ _));exact BK121.out)⟩;have n2_:Aside0 (Below w.heap.size w w32):=⟨by rw [← hq_];exact (by repeat (with_reducible first|exact HB.out|apply qA|apply qD|apply qO|refine qS ?_ GE116.out|refine qS ?_ GE121.out))⟩;clear BK116 BK121 HB hq_;have BK116:=n0_;have BK121:=n1_;have HB:=n2_;clear n0_ n1_ n2_));have n0_:=qK (qW BK116.out);have n1_:=qK (qW BK121.out);have n2_:=qK (qO HB.out);clear BK116;clear BK121;clear HB;have BK116:=n0_;have BK121:=n1_;have HB:=n2_;clear n0_ n1_ n2_;refine start_ (n:=44) (S:=fun w'=>w'.cell? ⟨gb116,0,none⟩=some (.slice (some ad120) l0_0.length c0_0)∧w'.cell? ⟨gb116,1,none⟩=some (.slice A0_1 l0_1.length c0_1)∧w'.cell? ⟨gb116,2,none⟩=some (.slice A0_2 l0_2.length c0_2)∧w'.cell? ⟨gb116,3,none⟩=some (.slice A0_3 l0_3.length c0_3)∧w'.cell? ⟨gb116,4,none⟩=some (.slice A0_4 l0_4.length c0_4)∧w'.cell? ⟨gb121,0,none⟩=some (.int .i64 ((rd_T47 l0_0 x33_2).f0))∧w'.cell? ⟨gb121,1,none⟩=some (.int .i64 ((rd_T47 l0_0 x33_2).f1))∧w'.cell? ⟨gb121,2,none⟩=some (.int .i64 ((rd_T47 l0_0 x33_2).f2))) (ds:=[]) #[Z,Z,Z,Z,Z,Z,Z,Z,Z,Z,Z,Z,Z,Z,Z,Z,Z,Z,Z,Z,Z,Z,Z,Z,Z,Z,Z,Z,Z,Z,Z,Z,Z,Z,Z,Z,Z,Z,Z,Z,Z,Z,Z,Z] (by kernel_rfl) rfl rfl ⟨(qC BK116.out 0).trans rfl,(qC BK116.out 1).trans rfl,(qC BK116.out 2).trans rfl,(qC BK116.out 3).trans rfl,(qC BK116.out 4).trans rfl,(qC BK121.out 0).trans rfl,(qC BK121.out 1).trans rfl,(qC BK121.out 2).trans rfl⟩ (fun hHeld=>?_);refine with_tabW spec_GoodLocks.tab6 spec_GoodLocks.bits6 (fun HT_ HW_=>?_);generalize w32.drew=w33 at BK116 BK121 HB hHeld ⊢
           refine pure_ (i:=1) (N:=some 39) (v:=?_) (a':=?_) #[Z,Y,Z,Z,Z,Z,Z,Z,Z,Z,Z,Z,Z,Z,Z,Z,Z,Z,Z,Z,Z,Z,Z,Z,Z,Z,Z,Z,Z,Z,Z,Z,Z,Z,Z,Z,Z,Z,Z,Z,Z,Z,Z,Z] rfl rfl (any_of HT_.out (by kernel_rfl)) (fun _ _ _ h=>h) (Or.inl ⟨by rfl,?_⟩) ?_ ?_;rotate_left
           ·intro w';go_simp;with_reducible rfl
           rotate_left
           ·simp only [Act.put,sIb,sZ,sS,i64_w,i32_w];rfl
           refine take_ (i:=0) (N:=some 38) (v:=?_) (a':=?_) #[Y,Y,Z,Z,Z,Z,Z,Z,Z,Z,Z,Z,Z,Z,Z,Z,Z,Z,Z,Z,Z,Z,Z,Z,Z,Z,Z,Z,Z,Z,Z,Z,Z,Z,Z,Z,Z,Z,Z,Z,Z,Z,Z,Z] rfl rfl (take_ofW HT_.out HW_.out (by kernel_rfl)) (fun _ _ _ h=>h) (Or.inl ⟨by rfl,?_⟩) hHeld ?_ ?_;rotate_left
           ·rintro w' ⟨s0,s1,s2,s3,s4,s5,s6,s7⟩;go_simp;with_reducible rfl
           rotate_left
           ·simp only [Act.put,sIb,sZ,sS,i64_w,i32_w];rfl
           refine take_ (i:=2) (N:=some 40) (v:=?_) (a':=?_) #[Y,Y,Y,Z,Z,Z,Z,Z,Z,Z,Z,Z,Z,Z,Z,Z,Z,Z,Z,Z,Z,Z,Z,Z,Z,Z,Z,Z,Z,Z,Z,Z,Z,Z,Z,Z,Z,Z,Z,Z,Z,Z,Z,Z] rfl rfl (take_ofW HT_.out HW_.out (by kernel_rfl)) (fun _ _ _ h=>h) (Or.inl ⟨by rfl,?_⟩) hHeld ?_ ?_;rotate_left
           ·rintro w' ⟨s0,s1,s2,s3,s4,s5,s6,s7⟩;go_simp;with_reducible rfl
           rotate_left
           ·simp only [Act.put,sIb,sZ,sS,i64_w,i32_w];rfl
           refine one_ (i:=3) (N:=some 41) #[Y,Y,Y,Y,Z,Z,Z,Z,Z,Z,Z,Z,Z,Z,Z,Z,Z,Z,Z,Z,Z,Z,Z,Z,Z,Z,Z,Z,Z,Z,Z,Z,Z,Z,Z,Z,Z,Z,Z,Z,Z,Z,Z,Z] rfl rfl (one_of HT_.out (by kernel_rfl)) (by decide) (fun K hK=>?_);refine goes_ Try.func38 (by kernel_rfl) rfl #[.agg #[.slice (some ad120) l0_0.length c0_0,.slice A0_1 l0_1.length c0_1,.slice A0_2 l0_2.length c0_2,.slice A0_3 l0_3.length c0_3,.slice A0_4 l0_4.length c0_4],.int .i64 ((rd_T47 l0_0 x33_2).f0)] (by rfl) rfl rfl (by (try simp only [mT,mC,mN]);first|done|rfl|(simp only [lD,lT];rfl)) ?_;with_reducible refine (spec_l14Ended.calls k2 _ _ l0_0 _ _ l0_1 _ _ l0_2 _ _ l0_3 _ _ l0_4 ((rd_T47 l0_0 x33_2).f0) true _ ?side1 ?side2 ?side3 ?side4 ?side5 ?side6 ?side7 ?side8 ?side9 ?side10 A30.out).mono ?_
           (case side1=>repeat (first|exact (cB HR0_0.out HB.out)|(with_reducible first|refine cL ?_ _|refine cN ?_ _|refine cW ?_)));(case side2=>exact HC0_0.out);(case side3=>repeat (first|exact (cB HR0_1.out HB.out)|(with_reducible first|refine cL ?_ _|refine cN ?_ _|refine cW ?_)));(case side4=>exact HC0_1.out);(case side5=>repeat (first|exact (cB HR0_2.out HB.out)|(with_reducible first|refine cL ?_ _|refine cN ?_ _|refine cW ?_)));(case side6=>exact HC0_2.out);(case side7=>repeat (first|exact (cB HR0_3.out HB.out)|(with_reducible first|refine cL ?_ _|refine cN ?_ _|refine cW ?_)));(case side8=>exact HC0_3.out);(case side9=>repeat (first|exact (cB HR0_4.out HB.out)|(with_reducible first|refine cL ?_ _|refine cN ?_ _|refine cW ?_)));(case side10=>exact HC0_4.out);rintro e w34 ⟨rfl,hb⟩;refine ⟨_,rfl,?_⟩;have n0_:=qK (qB (g:=gb116) (o:=_) (by (with_reducible repeat (first|refine qN ?_ _|refine qW ?_|refine qL ?_ _));exact BK116.out) hb);have n1_:=qK (qB (g:=gb121) (o:=_) (by (with_reducible repeat (first|refine qN ?_ _|refine qW ?_|refine qL ?_ _));exact BK121.out) hb);have n2_:=qK (qT (by repeat (with_reducible first|exact HB.out|apply qA|apply qD|apply qO|refine qS ?_ GE116.out|refine qS ?_ GE121.out)) hb);clear BK116;clear BK121;clear HB;have BK116:=n0_;have BK121:=n1_;have HB:=n2_;clear n0_ n1_ n2_;(try clear hb);refine hK.out _ _ ⟨(qC BK116.out 0).trans rfl,(qC BK116.out 1).trans rfl,(qC BK116.out 2).trans rfl,(qC BK116.out 3).trans rfl,(qC BK116.out 4).trans rfl,(qC BK121.out 0).trans rfl,(qC BK121.out 1).trans rfl,(qC BK121.out 2).trans rfl⟩ (fun hHeld=>?_);clear hK K;refine norm_ (a':=?_) ?_ ?_;rotate_left
           ·show Act.put _ (some 41) _=_
            simp only [Act.put,sIb,sZ,sS,i64_w,i32_w];rfl
           refine pure_ (i:=4) (N:=some 42) (v:=?_) (a':=?_) #[Y,Y,Y,Y,Y,Z,Z,Z,Z,Z,Z,Z,Z,Z,Z,Z,Z,Z,Z,Z,Z,Z,Z,Z,Z,Z,Z,Z,Z,Z,Z,Z,Z,Z,Z,Z,Z,Z,Z,Z,Z,Z,Z,Z] rfl rfl (any_of HT_.out (by kernel_rfl)) (fun _ _ _ h=>h) (Or.inl ⟨by rfl,?_⟩) ?_ ?_;rotate_left
           ·intro w';go_simp;with_reducible rfl
           rotate_left
           ·simp only [Act.put,sIb,sZ,sS,i64_w,i32_w];rfl
           refine pure_ (i:=5) (N:=some 43) (v:=undef) (a':=?_) #[Y,Y,Y,Y,Y,Y,Z,Z,Z,Z,Z,Z,Z,Z,Z,Z,Z,Z,Z,Z,Z,Z,Z,Z,Z,Z,Z,Z,Z,Z,Z,Z,Z,Z,Z,Z,Z,Z,Z,Z,Z,Z,Z,Z] rfl rfl (any_of HT_.out (by kernel_rfl)) (fun _ _ _ h=>h) (Or.inr ⟨by rfl,rfl⟩) ?_ ?_;rotate_left
           ·simp only [Act.put,sIb,sZ,sS,i64_w,i32_w];rfl
           refine pure_ (i:=6) (N:=some 44) (v:=undef) (a':=?_) #[Y,Y,Y,Y,Y,Y,Y,Z,Z,Z,Z,Z,Z,Z,Z,Z,Z,Z,Z,Z,Z,Z,Z,Z,Z,Z,Z,Z,Z,Z,Z,Z,Z,Z,Z,Z,Z,Z,Z,Z,Z,Z,Z,Z] rfl rfl (any_of HT_.out (by kernel_rfl)) (fun _ _ _ h=>h) (Or.inr ⟨by rfl,rfl⟩) ?_ ?_;rotate_left
           ·simp only [Act.put,sIb,sZ,sS,i64_w,i32_w];rfl
           refine pure_ (i:=7) (N:=some 45) (v:=undef) (a':=?_) #[Y,Y,Y,Y,Y,Y,Y,Y,Z,Z,Z,Z,Z,Z,Z,Z,Z,Z,Z,Z,Z,Z,Z,Z,Z,Z,Z,Z,Z,Z,Z,Z,Z,Z,Z,Z,Z,Z,Z,Z,Z,Z,Z,Z] rfl rfl (any_of HT_.out (by kernel_rfl)) (fun _ _ _ h=>h) (Or.inr ⟨by rfl,rfl⟩) ?_ ?_;rotate_left
           ·simp only [Act.put,sIb,sZ,sS,i64_w,i32_w];rfl
           refine pure_ (i:=8) (N:=some 46) (v:=undef) (a':=?_) #[Y,Y,Y,Y,Y,Y,Y,Y,Y,Z,Z,Z,Z,Z,Z,Z,Z,Z,Z,Z,Z,Z,Z,Z,Z,Z,Z,Z,Z,Z,Z,Z,Z,Z,Z,Z,Z,Z,Z,Z,Z,Z,Z,Z] rfl rfl (any_of HT_.out (by kernel_rfl)) (fun _ _ _ h=>h) (Or.inr ⟨by rfl,rfl⟩) ?_ ?_;rotate_left
           ·simp only [Act.put,sIb,sZ,sS,i64_w,i32_w];rfl
           refine pure_ (i:=9) (N:=some 47) (v:=undef) (a':=?_) #[Y,Y,Y,Y,Y,Y,Y,Y,Y,Y,Z,Z,Z,Z,Z,Z,Z,Z,Z,Z,Z,Z,Z,Z,Z,Z,Z,Z,Z,Z,Z,Z,Z,Z,Z,Z,Z,Z,Z,Z,Z,Z,Z,Z] rfl rfl (any_of HT_.out (by kernel_rfl)) (fun _ _ _ h=>h) (Or.inr ⟨by rfl,rfl⟩) ?_ ?_;rotate_left
           ·simp only [Act.put,sIb,sZ,sS,i64_w,i32_w];rfl
           refine pure_ (i:=10) (N:=some 48) (v:=undef) (a':=?_) #[Y,Y,Y,Y,Y,Y,Y,Y,Y,Y,Y,Z,Z,Z,Z,Z,Z,Z,Z,Z,Z,Z,Z,Z,Z,Z,Z,Z,Z,Z,Z,Z,Z,Z,Z,Z,Z,Z,Z,Z,Z,Z,Z,Z] rfl rfl (any_of HT_.out (by kernel_rfl)) (fun _ _ _ h=>h) (Or.inr ⟨by rfl,rfl⟩) ?_ ?_;rotate_left
           ·simp only [Act.put,sIb,sZ,sS,i64_w,i32_w];rfl
           refine pure_ (i:=11) (N:=some 49) (v:=undef) (a':=?_) #[Y,Y,Y,Y,Y,Y,Y,Y,Y,Y,Y,Y,Z,Z,Z,Z,Z,Z,Z,Z,Z,Z,Z,Z,Z,Z,Z,Z,Z,Z,Z,Z,Z,Z,Z,Z,Z,Z,Z,Z,Z,Z,Z,Z] rfl rfl (any_of HT_.out (by kernel_rfl)) (fun _ _ _ h=>h) (Or.inr ⟨by rfl,rfl⟩) ?_ ?_;rotate_left
           ·simp only [Act.put,sIb,sZ,sS,i64_w,i32_w];rfl
           refine pure_ (i:=12) (N:=some 50) (v:=undef) (a':=?_) #[Y,Y,Y,Y,Y,Y,Y,Y,Y,Y,Y,Y,Y,Z,Z,Z,Z,Z,Z,Z,Z,Z,Z,Z,Z,Z,Z,Z,Z,Z,Z,Z,Z,Z,Z,Z,Z,Z,Z,Z,Z,Z,Z,Z] rfl rfl (any_of HT_.out (by kernel_rfl)) (fun _ _ _ h=>h) (Or.inr ⟨by rfl,rfl⟩) ?_ ?_;rotate_left
           ·simp only [Act.put,sIb,sZ,sS,i64_w,i32_w];rfl
           refine pure_ (i:=13) (N:=some 51) (v:=undef) (a':=?_) #[Y,Y,Y,Y,Y,Y,Y,Y,Y,Y,Y,Y,Y,Y,Z,Z,Z,Z,Z,Z,Z,Z,Z,Z,Z,Z,Z,Z,Z,Z,Z,Z,Z,Z,Z,Z,Z,Z,Z,Z,Z,Z,Z,Z] rfl rfl (any_of HT_.out (by kernel_rfl)) (fun _ _ _ h=>h) (Or.inr ⟨by rfl,rfl⟩) ?_ ?_;rotate_left
           ·simp only [Act.put,sIb,sZ,sS,i64_w,i32_w];rfl
           refine pure_ (i:=14) (N:=some 52) (v:=undef) (a':=?_) #[Y,Y,Y,Y,Y,Y,Y,Y,Y,Y,Y,Y,Y,Y,Y,Z,Z,Z,Z,Z,Z,Z,Z,Z,Z,Z,Z,Z,Z,Z,Z,Z,Z,Z,Z,Z,Z,Z,Z,Z,Z,Z,Z,Z] rfl rfl (any_of HT_.out (by kernel_rfl)) (fun _ _ _ h=>h) (Or.inr ⟨by rfl,rfl⟩) ?_ ?_;rotate_left
           ·simp only [Act.put,sIb,sZ,sS,i64_w,i32_w];rfl
           refine pure_ (i:=15) (N:=some 53) (v:=undef) (a':=?_) #[Y,Y,Y,Y,Y,Y,Y,Y,Y,Y,Y,Y,Y,Y,Y,Y,Z,Z,Z,Z,Z,Z,Z,Z,Z,Z,Z,Z,Z,Z,Z,Z,Z,Z,Z,Z,Z,Z,Z,Z,Z,Z,Z,Z] rfl rfl (any_of HT_.out (by kernel_rfl)) (fun _ _ _ h=>h) (Or.inr ⟨by rfl,rfl⟩) ?_ ?_;rotate_left
           ·simp only [Act.put,sIb,sZ,sS,i64_w,i32_w];rfl
           refine pure_ (i:=16) (N:=some 54) (v:=undef) (a':=?_) #[Y,Y,Y,Y,Y,Y,Y,Y,Y,Y,Y,Y,Y,Y,Y,Y,Y,Z,Z,Z,Z,Z,Z,Z,Z,Z,Z,Z,Z,Z,Z,Z,Z,Z,Z,Z,Z,Z,Z,Z,Z,Z,Z,Z] rfl rfl (any_of HT_.out (by kernel_rfl)) (fun _ _ _ h=>h) (Or.inr ⟨by rfl,rfl⟩) ?_ ?_;rotate_left
           ·simp only [Act.put,sIb,sZ,sS,i64_w,i32_w];rfl
           refine pure_ (i:=17) (N:=some 55) (v:=undef) (a':=?_) #[Y,Y,Y,Y,Y,Y,Y,Y,Y,Y,Y,Y,Y,Y,Y,Y,Y,Y,Z,Z,Z,Z,Z,Z,Z,Z,Z,Z,Z,Z,Z,Z,Z,Z,Z,Z,Z,Z,Z,Z,Z,Z,Z,Z] rfl rfl (any_of HT_.out (by kernel_rfl)) (fun _ _ _ h=>h) (Or.inr ⟨by rfl,rfl⟩) ?_ ?_;rotate_left
           ·simp only [Act.put,sIb,sZ,sS,i64_w,i32_w];rfl
           refine pure_ (i:=18) (N:=some 56) (v:=undef) (a':=?_) #[Y,Y,Y,Y,Y,Y,Y,Y,Y,Y,Y,Y,Y,Y,Y,Y,Y,Y,Y,Z,Z,Z,Z,Z,Z,Z,Z,Z,Z,Z,Z,Z,Z,Z,Z,Z,Z,Z,Z,Z,Z,Z,Z,Z] rfl rfl (any_of HT_.out (by kernel_rfl)) (fun _ _ _ h=>h) (Or.inr ⟨by rfl,rfl⟩) ?_ ?_;rotate_left
           ·simp only [Act.put,sIb,sZ,sS,i64_w,i32_w];rfl
           refine pure_ (i:=19) (N:=some 57) (v:=undef) (a':=?_) #[Y,Y,Y,Y,Y,Y,Y,Y,Y,Y,Y,Y,Y,Y,Y,Y,Y,Y,Y,Y,Z,Z,Z,Z,Z,Z,Z,Z,Z,Z,Z,Z,Z,Z,Z,Z,Z,Z,Z,Z,Z,Z,Z,Z] rfl rfl (any_of HT_.out (by kernel_rfl)) (fun _ _ _ h=>h) (Or.inr ⟨by rfl,rfl⟩) ?_ ?_;rotate_left
           ·simp only [Act.put,sIb,sZ,sS,i64_w,i32_w];rfl
           refine pure_ (i:=20) (N:=some 58) (v:=undef) (a':=?_) #[Y,Y,Y,Y,Y,Y,Y,Y,Y,Y,Y,Y,Y,Y,Y,Y,Y,Y,Y,Y,Y,Z,Z,Z,Z,Z,Z,Z,Z,Z,Z,Z,Z,Z,Z,Z,Z,Z,Z,Z,Z,Z,Z,Z] rfl rfl (any_of HT_.out (by kernel_rfl)) (fun _ _ _ h=>h) (Or.inr ⟨by rfl,rfl⟩) ?_ ?_;rotate_left
           ·simp only [Act.put,sIb,sZ,sS,i64_w,i32_w];rfl
           refine pure_ (i:=21) (N:=some 59) (v:=undef) (a':=?_) #[Y,Y,Y,Y,Y,Y,Y,Y,Y,Y,Y,Y,Y,Y,Y,Y,Y,Y,Y,Y,Y,Y,Z,Z,Z,Z,Z,Z,Z,Z,Z,Z,Z,Z,Z,Z,Z,Z,Z,Z,Z,Z,Z,Z] rfl rfl (any_of HT_.out (by kernel_rfl)) (fun _ _ _ h=>h) (Or.inr ⟨by rfl,rfl⟩) ?_ ?_;rotate_left
           ·simp only [Act.put,sIb,sZ,sS,i64_w,i32_w];rfl
           refine pure_ (i:=22) (N:=some 60) (v:=undef) (a':=?_) #[Y,Y,Y,Y,Y,Y,Y,Y,Y,Y,Y,Y,Y,Y,Y,Y,Y,Y,Y,Y,Y,Y,Y,Z,Z,Z,Z,Z,Z,Z,Z,Z,Z,Z,Z,Z,Z,Z,Z,Z,Z,Z,Z,Z] rfl rfl (any_of HT_.out (by kernel_rfl)) (fun _ _ _ h=>h) (Or.inr ⟨by rfl,rfl⟩) ?_ ?_;rotate_left
           ·simp only [Act.put,sIb,sZ,sS,i64_w,i32_w];rfl
           refine pure_ (i:=23) (N:=some 61) (v:=undef) (a':=?_) #[Y,Y,Y,Y,Y,Y,Y,Y,Y,Y,Y,Y,Y,Y,Y,Y,Y,Y,Y,Y,Y,Y,Y,Y,Z,Z,Z,Z,Z,Z,Z,Z,Z,Z,Z,Z,Z,Z,Z,Z,Z,Z,Z,Z] rfl rfl (any_of HT_.out (by kernel_rfl)) (fun _ _ _ h=>h) (Or.inr ⟨by rfl,rfl⟩) ?_ ?_;rotate_left
           ·simp only [Act.put,sIb,sZ,sS,i64_w,i32_w];rfl
           refine pure_ (i:=24) (N:=some 62) (v:=undef) (a':=?_) #[Y,Y,Y,Y,Y,Y,Y,Y,Y,Y,Y,Y,Y,Y,Y,Y,Y,Y,Y,Y,Y,Y,Y,Y,Y,Z,Z,Z,Z,Z,Z,Z,Z,Z,Z,Z,Z,Z,Z,Z,Z,Z,Z,Z] rfl rfl (any_of HT_.out (by kernel_rfl)) (fun _ _ _ h=>h) (Or.inr ⟨by rfl,rfl⟩) ?_ ?_;rotate_left
           ·simp only [Act.put,sIb,sZ,sS,i64_w,i32_w];rfl
           refine pure_ (i:=25) (N:=some 63) (v:=undef) (a':=?_) #[Y,Y,Y,Y,Y,Y,Y,Y,Y,Y,Y,Y,Y,Y,Y,Y,Y,Y,Y,Y,Y,Y,Y,Y,Y,Y,Z,Z,Z,Z,Z,Z,Z,Z,Z,Z,Z,Z,Z,Z,Z,Z,Z,Z] rfl rfl (any_of HT_.out (by kernel_rfl)) (fun _ _ _ h=>h) (Or.inr ⟨by rfl,rfl⟩) ?_ ?_;rotate_left
           ·simp only [Act.put,sIb,sZ,sS,i64_w,i32_w];rfl
           refine pure_ (i:=26) (N:=some 64) (v:=undef) (a':=?_) #[Y,Y,Y,Y,Y,Y,Y,Y,Y,Y,Y,Y,Y,Y,Y,Y,Y,Y,Y,Y,Y,Y,Y,Y,Y,Y,Y,Z,Z,Z,Z,Z,Z,Z,Z,Z,Z,Z,Z,Z,Z,Z,Z,Z] rfl rfl (any_of HT_.out (by kernel_rfl)) (fun _ _ _ h=>h) (Or.inr ⟨by rfl,rfl⟩) ?_ ?_;rotate_left
           ·simp only [Act.put,sIb,sZ,sS,i64_w,i32_w];rfl
           refine pure_ (i:=27) (N:=some 65) (v:=undef) (a':=?_) #[Y,Y,Y,Y,Y,Y,Y,Y,Y,Y,Y,Y,Y,Y,Y,Y,Y,Y,Y,Y,Y,Y,Y,Y,Y,Y,Y,Y,Z,Z,Z,Z,Z,Z,Z,Z,Z,Z,Z,Z,Z,Z,Z,Z] rfl rfl (any_of HT_.out (by kernel_rfl)) (fun _ _ _ h=>h) (Or.inr ⟨by rfl,rfl⟩) ?_ ?_;rotate_left
           ·simp only [Act.put,sIb,sZ,sS,i64_w,i32_w];rfl
           refine pure_ (i:=28) (N:=some 66) (v:=undef) (a':=?_) #[Y,Y,Y,Y,Y,Y,Y,Y,Y,Y,Y,Y,Y,Y,Y,Y,Y,Y,Y,Y,Y,Y,Y,Y,Y,Y,Y,Y,Y,Z,Z,Z,Z,Z,Z,Z,Z,Z,Z,Z,Z,Z,Z,Z] rfl rfl (any_of HT_.out (by kernel_rfl)) (fun _ _ _ h=>h) (Or.inr ⟨by rfl,rfl⟩) ?_ ?_;rotate_left
           ·simp only [Act.put,sIb,sZ,sS,i64_w,i32_w];rfl
           refine pure_ (i:=29) (N:=some 67) (v:=undef) (a':=?_) #[Y,Y,Y,Y,Y,Y,Y,Y,Y,Y,Y,Y,Y,Y,Y,Y,Y,Y,Y,Y,Y,Y,Y,Y,Y,Y,Y,Y,Y,Y,Z,Z,Z,Z,Z,Z,Z,Z,Z,Z,Z,Z,Z,Z] rfl rfl (any_of HT_.out (by kernel_rfl)) (fun _ _ _ h=>h) (Or.inr ⟨by rfl,rfl⟩) ?_ ?_;rotate_left
           ·simp only [Act.put,sIb,sZ,sS,i64_w,i32_w];rfl
           refine pure_ (i:=30) (N:=some 68) (v:=undef) (a':=?_) #[Y,Y,Y,Y,Y,Y,Y,Y,Y,Y,Y,Y,Y,Y,Y,Y,Y,Y,Y,Y,Y,Y,Y,Y,Y,Y,Y,Y,Y,Y,Y,Z,Z,Z,Z,Z,Z,Z,Z,Z,Z,Z,Z,Z] rfl rfl (any_of HT_.out (by kernel_rfl)) (fun _ _ _ h=>h) (Or.inr ⟨by rfl,rfl⟩) ?_ ?_;rotate_left
           ·simp only [Act.put,sIb,sZ,sS,i64_w,i32_w];rfl
           refine pure_ (i:=31) (N:=some 69) (v:=undef) (a':=?_) #[Y,Y,Y,Y,Y,Y,Y,Y,Y,Y,Y,Y,Y,Y,Y,Y,Y,Y,Y,Y,Y,Y,Y,Y,Y,Y,Y,Y,Y,Y,Y,Y,Z,Z,Z,Z,Z,Z,Z,Z,Z,Z,Z,Z] rfl rfl (any_of HT_.out (by kernel_rfl)) (fun _ _ _ h=>h) (Or.inr ⟨by rfl,rfl⟩) ?_ ?_;rotate_left
           ·simp only [Act.put,sIb,sZ,sS,i64_w,i32_w];rfl
           refine pure_ (i:=32) (N:=some 70) (v:=undef) (a':=?_) #[Y,Y,Y,Y,Y,Y,Y,Y,Y,Y,Y,Y,Y,Y,Y,Y,Y,Y,Y,Y,Y,Y,Y,Y,Y,Y,Y,Y,Y,Y,Y,Y,Y,Z,Z,Z,Z,Z,Z,Z,Z,Z,Z,Z] rfl rfl (any_of HT_.out (by kernel_rfl)) (fun _ _ _ h=>h) (Or.inr ⟨by rfl,rfl⟩) ?_ ?_;rotate_left
           ·simp only [Act.put,sIb,sZ,sS,i64_w,i32_w];rfl
           refine pure_ (i:=33) (N:=some 71) (v:=undef) (a':=?_) #[Y,Y,Y,Y,Y,Y,Y,Y,Y,Y,Y,Y,Y,Y,Y,Y,Y,Y,Y,Y,Y,Y,Y,Y,Y,Y,Y,Y,Y,Y,Y,Y,Y,Y,Z,Z,Z,Z,Z,Z,Z,Z,Z,Z] rfl rfl (any_of HT_.out (by kernel_rfl)) (fun _ _ _ h=>h) (Or.inr ⟨by rfl,rfl⟩) ?_ ?_;rotate_left
           ·simp only [Act.put,sIb,sZ,sS,i64_w,i32_w];rfl
           refine pure_ (i:=34) (N:=some 72) (v:=undef) (a':=?_) #[Y,Y,Y,Y,Y,Y,Y,Y,Y,Y,Y,Y,Y,Y,Y,Y,Y,Y,Y,Y,Y,Y,Y,Y,Y,Y,Y,Y,Y,Y,Y,Y,Y,Y,Y,Z,Z,Z,Z,Z,Z,Z,Z,Z] rfl rfl (any_of HT_.out (by kernel_rfl)) (fun _ _ _ h=>h) (Or.inr ⟨by rfl,rfl⟩) ?_ ?_;rotate_left
           ·simp only [Act.put,sIb,sZ,sS,i64_w,i32_w];rfl
           refine pure_ (i:=35) (N:=some 73) (v:=undef) (a':=?_) #[Y,Y,Y,Y,Y,Y,Y,Y,Y,Y,Y,Y,Y,Y,Y,Y,Y,Y,Y,Y,Y,Y,Y,Y,Y,Y,Y,Y,Y,Y,Y,Y,Y,Y,Y,Y,Z,Z,Z,Z,Z,Z,Z,Z] rfl rfl (any_of HT_.out (by kernel_rfl)) (fun _ _ _ h=>h) (Or.inr ⟨by rfl,rfl⟩) ?_ ?_;rotate_left
           ·simp only [Act.put,sIb,sZ,sS,i64_w,i32_w];rfl
           refine pure_ (i:=36) (N:=some 74) (v:=undef) (a':=?_) #[Y,Y,Y,Y,Y,Y,Y,Y,Y,Y,Y,Y,Y,Y,Y,Y,Y,Y,Y,Y,Y,Y,Y,Y,Y,Y,Y,Y,Y,Y,Y,Y,Y,Y,Y,Y,Y,Z,Z,Z,Z,Z,Z,Z] rfl rfl (any_of HT_.out (by kernel_rfl)) (fun _ _ _ h=>h) (Or.inr ⟨by rfl,rfl⟩) ?_ ?_;rotate_left
           ·simp only [Act.put,sIb,sZ,sS,i64_w,i32_w];rfl
           refine pure_ (i:=37) (N:=some 75) (v:=undef) (a':=?_) #[Y,Y,Y,Y,Y,Y,Y,Y,Y,Y,Y,Y,Y,Y,Y,Y,Y,Y,Y,Y,Y,Y,Y,Y,Y,Y,Y,Y,Y,Y,Y,Y,Y,Y,Y,Y,Y,Y,Z,Z,Z,Z,Z,Z] rfl rfl (any_of HT_.out (by kernel_rfl)) (fun _ _ _ h=>h) (Or.inr ⟨by rfl,rfl⟩) ?_ ?_;rotate_left
           ·simp only [Act.put,sIb,sZ,sS,i64_w,i32_w];rfl
           refine pure_ (i:=38) (N:=some 76) (v:=undef) (a':=?_) #[Y,Y,Y,Y,Y,Y,Y,Y,Y,Y,Y,Y,Y,Y,Y,Y,Y,Y,Y,Y,Y,Y,Y,Y,Y,Y,Y,Y,Y,Y,Y,Y,Y,Y,Y,Y,Y,Y,Y,Z,Z,Z,Z,Z] rfl rfl (any_of HT_.out (by kernel_rfl)) (fun _ _ _ h=>h) (Or.inr ⟨by rfl,rfl⟩) ?_ ?_;rotate_left
           ·simp only [Act.put,sIb,sZ,sS,i64_w,i32_w];rfl
           refine pure_ (i:=39) (N:=some 77) (v:=undef) (a':=?_) #[Y,Y,Y,Y,Y,Y,Y,Y,Y,Y,Y,Y,Y,Y,Y,Y,Y,Y,Y,Y,Y,Y,Y,Y,Y,Y,Y,Y,Y,Y,Y,Y,Y,Y,Y,Y,Y,Y,Y,Y,Z,Z,Z,Z] rfl rfl (any_of HT_.out (by kernel_rfl)) (fun _ _ _ h=>h) (Or.inr ⟨by rfl,rfl⟩) ?_ ?_;rotate_left
           ·simp only [Act.put,sIb,sZ,sS,i64_w,i32_w];rfl
           refine pure_ (i:=40) (N:=some 78) (v:=undef) (a':=?_) #[Y,Y,Y,Y,Y,Y,Y,Y,Y,Y,Y,Y,Y,Y,Y,Y,Y,Y,Y,Y,Y,Y,Y,Y,Y,Y,Y,Y,Y,Y,Y,Y,Y,Y,Y,Y,Y,Y,Y,Y,Y,Z,Z,Z] rfl rfl (any_of HT_.out (by kernel_rfl)) (fun _ _ _ h=>h) (Or.inr ⟨by rfl,rfl⟩) ?_ ?_;rotate_left
           ·simp only [Act.put,sIb,sZ,sS,i64_w,i32_w];rfl
           refine pure_ (i:=41) (N:=some 79) (v:=undef) (a':=?_) #[Y,Y,Y,Y,Y,Y,Y,Y,Y,Y,Y,Y,Y,Y,Y,Y,Y,Y,Y,Y,Y,Y,Y,Y,Y,Y,Y,Y,Y,Y,Y,Y,Y,Y,Y,Y,Y,Y,Y,Y,Y,Y,Z,Z] rfl rfl (any_of HT_.out (by kernel_rfl)) (fun _ _ _ h=>h) (Or.inr ⟨by rfl,rfl⟩) ?_ ?_;rotate_left
           ·simp only [Act.put,sIb,sZ,sS,i64_w,i32_w];rfl
           refine pure_ (i:=42) (N:=some 80) (v:=undef) (a':=?_) #[Y,Y,Y,Y,Y,Y,Y,Y,Y,Y,Y,Y,Y,Y,Y,Y,Y,Y,Y,Y,Y,Y,Y,Y,Y,Y,Y,Y,Y,Y,Y,Y,Y,Y,Y,Y,Y,Y,Y,Y,Y,Y,Y,Z] rfl rfl (any_of HT_.out (by kernel_rfl)) (fun _ _ _ h=>h) (Or.inr ⟨by rfl,rfl⟩) ?_ ?_;rotate_left
           ·simp only [Act.put,sIb,sZ,sS,i64_w,i32_w];rfl
           refine pure_ (i:=43) (N:=some 81) (v:=?_) (a':=?_) #[Y,Y,Y,Y,Y,Y,Y,Y,Y,Y,Y,Y,Y,Y,Y,Y,Y,Y,Y,Y,Y,Y,Y,Y,Y,Y,Y,Y,Y,Y,Y,Y,Y,Y,Y,Y,Y,Y,Y,Y,Y,Y,Y,Y] rfl rfl (any_of HT_.out (by kernel_rfl)) (fun _ _ _ h=>h) (Or.inl ⟨by rfl,?_⟩) ?_ ?_;rotate_left
           ·intro w';go_simp;with_reducible rfl
           rotate_left
           ·simp only [Act.put,sIb,sZ,sS,i64_w,i32_w];rfl
           refine done_ (done_of HT_.out (by kernel_rfl)) ?_;try go_wp2
           go_meet
           case rel=>exact ⟨_,(true),(by first|rfl|(simp;done)|(simp [*];done)),H',⟨by have:=HJ1.out;have:=HK2.out;first|omega|exact Nat.le_refl _⟩,⟨by (with_reducible repeat (first|refine qN ?_ _|refine qW ?_|refine qL ?_ _));exact BK116.out⟩,⟨by (with_reducible repeat (first|refine qN ?_ _|refine qW ?_|refine qL ?_ _));exact BK121.out⟩,⟨by repeat (first|(with_reducible first|exact HB.out|apply qA|apply qD|apply qO|refine qS ?_ GE116.out|refine qS ?_ GE121.out)|exact HB.out)⟩⟩
          ·replace c31:=Bool.eq_false_iff.mpr c31;subst c31;have H1:(if x33_2 > 0 then (if 0≤(wrap64 (x33_2 - 1)) then (if (wrap64 (x33_2 - 1)) < (l0_0.length:Int) then (if ((rd_T47 l0_0 (wrap64 (x33_2 - 1))).f0) > ((rd_T47 l0_0 x33_2).f0) then (spec_GoodLocks.j2 k2 x33_2 l0_0 (l0_0.length:Int) x33_2 true l0_0 l0_1 l0_2 l0_3 l0_4 ((rd_T47 l0_0 x33_2).f0) ((rd_T47 l0_0 x33_2).f1) ((rd_T47 l0_0 x33_2).f2)) else (if ((rd_T47 l0_0 (wrap64 (x33_2 - 1))).f0)=((rd_T47 l0_0 x33_2).f0) then (spec_GoodLocks.j2 k2 x33_2 l0_0 (l0_0.length:Int) x33_2 (decide (((rd_T47 l0_0 (wrap64 (x33_2 - 1))).f2) ≥ ((rd_T47 l0_0 x33_2).f2))) l0_0 l0_1 l0_2 l0_3 l0_4 ((rd_T47 l0_0 x33_2).f0) ((rd_T47 l0_0 x33_2).f1) ((rd_T47 l0_0 x33_2).f2)) else (spec_GoodLocks.j2 k2 x33_2 l0_0 (l0_0.length:Int) x33_2 false l0_0 l0_1 l0_2 l0_3 l0_4 ((rd_T47 l0_0 x33_2).f0) ((rd_T47 l0_0 x33_2).f1) ((rd_T47 l0_0 x33_2).f2)))) else (none)) else (none)) else (spec_GoodLocks.j2 k2 x33_2 l0_0 (l0_0.length:Int) x33_2 false l0_0 l0_1 l0_2 l0_3 l0_4 ((rd_T47 l0_0 x33_2).f0) ((rd_T47 l0_0 x33_2).f1) ((rd_T47 l0_0 x33_2).f2)))=some r:=by rw [if_neg (show ¬ (false=true) by decide)] at H;exact H
           clear H;have H:=H1;clear H1;by_cases c35:x33_2 > 0
           ·rw [if_pos c35] at H;have c35b0:decide (0 < x33_2)=true:=decide_eq_true c35;clear c35;(first|rw [c35b0]|(simp only [i64_w,i32_w];rw [c35b0])|skip);obtain ⟨ji36,hji36⟩:∃ j_:Int,(wrap64 (x33_2 - 1))=j_:=⟨_,rfl⟩;replace H:(if 0≤(ji36) then (if (ji36) < (l0_0.length:Int) then (if ((rd_T47 l0_0 (ji36)).f0) > ((rd_T47 l0_0 x33_2).f0) then (spec_GoodLocks.j2 k2 x33_2 l0_0 (l0_0.length:Int) x33_2 true l0_0 l0_1 l0_2 l0_3 l0_4 ((rd_T47 l0_0 x33_2).f0) ((rd_T47 l0_0 x33_2).f1) ((rd_T47 l0_0 x33_2).f2)) else (if ((rd_T47 l0_0 (ji36)).f0)=((rd_T47 l0_0 x33_2).f0) then (spec_GoodLocks.j2 k2 x33_2 l0_0 (l0_0.length:Int) x33_2 (decide (((rd_T47 l0_0 (ji36)).f2) ≥ ((rd_T47 l0_0 x33_2).f2))) l0_0 l0_1 l0_2 l0_3 l0_4 ((rd_T47 l0_0 x33_2).f0) ((rd_T47 l0_0 x33_2).f1) ((rd_T47 l0_0 x33_2).f2)) else (spec_GoodLocks.j2 k2 x33_2 l0_0 (l0_0.length:Int) x33_2 false l0_0 l0_1 l0_2 l0_3 l0_4 ((rd_T47 l0_0 x33_2).f0) ((rd_T47 l0_0 x33_2).f1) ((rd_T47 l0_0 x33_2).f2)))) else (none)) else (none))=some r:=by first|(rw [hji36] at H;exact H)|(simp only [hji36] at H ⊢;exact H)
            (try rw [hji36] at A30);have hji36w:(IntKind.i64.wrap (x33_2 - 1))=ji36:=(i64_w _).trans hji36;by_cases c37:0≤(ji36)
            ·rw [if_pos c37] at H;have c37b0:decide (0≤(ji36))=true:=decide_eq_true c37;clear c37;by_cases c38:(ji36) < (l0_0.length:Int)
             ·rw [if_pos c38] at H;have c38b0:decide ((ji36) < (l0_0.length:Int))=true:=decide_eq_true c38;clear c38;by_cases c39:((rd_T47 l0_0 (ji36)).f0) > ((rd_T47 l0_0 x33_2).f0)
              ·rw [if_pos c39] at H;have c39b0:decide (((rd_T47 l0_0 x33_2).f0) < ((rd_T47 l0_0 (ji36)).f0))=true:=decide_eq_true c39;clear c39;have H':=qK H;clear H;try go_wp2
               have n0_:Aside0 ((((w27.setCell ⟨gb121,0,none⟩ (.int .i64 ((rd_T47 l0_0 x33_2).f0))).setCell ⟨gb121,1,none⟩ (.int .i64 ((rd_T47 l0_0 x33_2).f1))).setCell ⟨gb121,2,none⟩ (.int .i64 ((rd_T47 l0_0 x33_2).f2))).heap[gb116]?=some (.cells #[.slice (some ad120) l0_0.length c0_0,.slice A0_1 l0_1.length c0_1,.slice A0_2 l0_2.length c0_2,.slice A0_3 l0_3.length c0_3,.slice A0_4 l0_4.length c0_4] 31 (0,0))):=⟨by (with_reducible repeat (first|refine qN ?_ _|refine qW ?_|refine qL ?_ _));refine qR ?_ NB116_121.out _;(with_reducible repeat (first|refine qN ?_ _|refine qW ?_|refine qL ?_ _));refine qR ?_ NB116_121.out _;(with_reducible repeat (first|refine qN ?_ _|refine qW ?_|refine qL ?_ _));refine qR ?_ NB116_121.out _;(with_reducible repeat (first|refine qN ?_ _|refine qW ?_|refine qL ?_ _));exact BK116.out⟩;have n1_:Aside0 ((((w27.setCell ⟨gb121,0,none⟩ (.int .i64 ((rd_T47 l0_0 x33_2).f0))).setCell ⟨gb121,1,none⟩ (.int .i64 ((rd_T47 l0_0 x33_2).f1))).setCell ⟨gb121,2,none⟩ (.int .i64 ((rd_T47 l0_0 x33_2).f2))).heap[gb121]?=some (.cells #[.int .i64 ((rd_T47 l0_0 x33_2).f0),.int .i64 ((rd_T47 l0_0 x33_2).f1),.int .i64 ((rd_T47 l0_0 x33_2).f2)] 47 (0,0))):=⟨by (with_reducible repeat (first|refine qN ?_ _|refine qW ?_|refine qL ?_ _));refine qP (cs:=#[.int .i64 ((rd_T47 l0_0 x33_2).f0),.int .i64 ((rd_T47 l0_0 x33_2).f1),.int .i64 0]) ?_ 2 _ rfl;(with_reducible repeat (first|refine qN ?_ _|refine qW ?_|refine qL ?_ _));refine qP (cs:=#[.int .i64 ((rd_T47 l0_0 x33_2).f0),.int .i64 0,.int .i64 0]) ?_ 1 _ rfl;(with_reducible repeat (first|refine qN ?_ _|refine qW ?_|refine qL ?_ _));refine qP (cs:=#[.int .i64 0,.int .i64 0,.int .i64 0]) ?_ 0 _ rfl;(with_reducible repeat (first|refine qN ?_ _|refine qW ?_|refine qL ?_ _));exact BK121.out⟩;have n2_:Aside0 (Below w.heap.size w (((w27.setCell ⟨gb121,0,none⟩ (.int .i64 ((rd_T47 l0_0 x33_2).f0))).setCell ⟨gb121,1,none⟩ (.int .i64 ((rd_T47 l0_0 x33_2).f1))).setCell ⟨gb121,2,none⟩ (.int .i64 ((rd_T47 l0_0 x33_2).f2)))):=⟨by repeat (first|(with_reducible first|exact HB.out|apply qA|apply qD|apply qO|refine qS ?_ GE116.out|refine qS ?_ GE121.out)|exact HB.out)⟩;(try clear BK116);(try clear BK121);(try clear HB);generalize (((w27.setCell ⟨gb121,0,none⟩ (.int .i64 ((rd_T47 l0_0 x33_2).f0))).setCell ⟨gb121,1,none⟩ (.int .i64 ((rd_T47 l0_0 x33_2).f1))).setCell ⟨gb121,2,none⟩ (.int .i64 ((rd_T47 l0_0 x33_2).f2)))=w40 at n0_ n1_ n2_ ⊢
               have BK116:=n0_;have BK121:=n1_;have HB:=n2_;clear n0_ n1_ n2_;(try (rw [drewN_self w40];generalize hq_:World.drewN w40 _=w40;have n0_:Aside0 (w40.heap[gb116]?=some (.cells #[.slice (some ad120) l0_0.length c0_0,.slice A0_1 l0_1.length c0_1,.slice A0_2 l0_2.length c0_2,.slice A0_3 l0_3.length c0_3,.slice A0_4 l0_4.length c0_4] 31 (0,0))):=⟨by rw [← hq_];exact (by (with_reducible repeat (first|refine qN ?_ _|refine qW ?_|refine qL ?_ _));exact BK116.out)⟩;have n1_:Aside0 (w40.heap[gb121]?=some (.cells #[.int .i64 ((rd_T47 l0_0 x33_2).f0),.int .i64 ((rd_T47 l0_0 x33_2).f1),.int .i64 ((rd_T47 l0_0 x33_2).f2)] 47 (0,0))):=⟨by rw [← hq_];exact (by (with_reducible repeat (first|refine qN ?_ _|refine qW ?_|refine qL ?_ _));exact BK121.out)⟩;have n2_:Aside0 (Below w.heap.size w w40):=⟨by rw [← hq_];exact (by repeat (with_reducible first|exact HB.out|apply qA|apply qD|apply qO|refine qS ?_ GE116.out|refine qS ?_ GE121.out))⟩;clear BK116 BK121 HB hq_;have BK116:=n0_;have BK121:=n1_;have HB:=n2_;clear n0_ n1_ n2_));have n0_:=qK (qW BK116.out);have n1_:=qK (qW BK121.out);have n2_:=qK (qO HB.out);clear BK116;clear BK121;clear HB;have BK116:=n0_;have BK121:=n1_;have HB:=n2_;clear n0_ n1_ n2_;have p123:0≤((ji36):Int):=of_decide_eq_true (by first|(with_reducible assumption)|assumption);have q123:(ji36) < (l0_0.length:Int):=of_decide_eq_true (by first|(with_reducible assumption)|assumption);obtain ⟨ad123,e123,hx123_0,hx123_1,hx123_2⟩:=at_T47 HR0_0.out (ji36) p123 q123;have hw123_2:=hx123_2;have hw123_1:=hx123_1;have hw123_0:=hx123_0;obtain rfl:ad120=ad123:=(by injection e123);replace hx123_0:=(HB.out.cell (World.block_lt_of_cell? w _ hx123_0)).trans hx123_0;replace hx123_1:=(HB.out.cell (World.block_lt_of_cell? w _ hx123_1)).trans hx123_1;replace hx123_2:=(HB.out.cell (World.block_lt_of_cell? w _ hx123_2)).trans hx123_2;replace p123:=eq_true p123;replace q123:=eq_true q123;refine start_ (n:=44) (S:=fun w'=>w'.cell? ⟨gb116,0,none⟩=some (.slice (some ad120) l0_0.length c0_0)∧w'.cell? ⟨gb116,1,none⟩=some (.slice A0_1 l0_1.length c0_1)∧w'.cell? ⟨gb116,2,none⟩=some (.slice A0_2 l0_2.length c0_2)∧w'.cell? ⟨gb116,3,none⟩=some (.slice A0_3 l0_3.length c0_3)∧w'.cell? ⟨gb116,4,none⟩=some (.slice A0_4 l0_4.length c0_4)∧w'.cell? ⟨gb121,0,none⟩=some (.int .i64 ((rd_T47 l0_0 x33_2).f0))∧w'.cell? ⟨gb121,1,none⟩=some (.int .i64 ((rd_T47 l0_0 x33_2).f1))∧w'.cell? ⟨gb121,2,none⟩=some (.int .i64 ((rd_T47 l0_0 x33_2).f2))∧w'.cell? (ad120.add (((ji36)).toNat * 3))=some (.int .i64 ((rd_T47 l0_0 (ji36)).f0))∧w'.cell? ⟨(ad120.add (((ji36)).toNat * 3)).block,(ad120.add (((ji36)).toNat * 3)).off + 1,none⟩=some (.int .i64 ((rd_T47 l0_0 (ji36)).f1))∧w'.cell? ⟨(ad120.add (((ji36)).toNat * 3)).block,(ad120.add (((ji36)).toNat * 3)).off + 2,none⟩=some (.int .i64 ((rd_T47 l0_0 (ji36)).f2))) (ds:=[]) #[Z,Z,Z,Z,Z,Z,Z,Z,Z,Z,Z,Z,Z,Z,Z,Z,Z,Z,Z,Z,Z,Z,Z,Z,Z,Z,Z,Z,Z,Z,Z,Z,Z,Z,Z,Z,Z,Z,Z,Z,Z,Z,Z,Z] (by kernel_rfl) rfl rfl ⟨(qC BK116.out 0).trans rfl,(qC BK116.out 1).trans rfl,(qC BK116.out 2).trans rfl,(qC BK116.out 3).trans rfl,(qC BK116.out 4).trans rfl,(qC BK121.out 0).trans rfl,(qC BK121.out 1).trans rfl,(qC BK121.out 2).trans rfl,((HB.out.cell (World.block_lt_of_cell? w _ hw123_0)).trans hw123_0),((HB.out.cell (World.block_lt_of_cell? w _ hw123_1)).trans hw123_1),((HB.out.cell (World.block_lt_of_cell? w _ hw123_2)).trans hw123_2)⟩ (fun hHeld=>?_);refine with_tabW spec_GoodLocks.tab6 spec_GoodLocks.bits6 (fun HT_ HW_=>?_);generalize w40.drew=w41 at BK116 BK121 HB hx123_0 hx123_1 hx123_2 hHeld ⊢
               refine pure_ (i:=1) (N:=some 39) (v:=?_) (a':=?_) #[Z,Y,Z,Z,Z,Z,Z,Z,Z,Z,Z,Z,Z,Z,Z,Z,Z,Z,Z,Z,Z,Z,Z,Z,Z,Z,Z,Z,Z,Z,Z,Z,Z,Z,Z,Z,Z,Z,Z,Z,Z,Z,Z,Z] rfl rfl (any_of HT_.out (by kernel_rfl)) (fun _ _ _ h=>h) (Or.inl ⟨by rfl,?_⟩) ?_ ?_;rotate_left
               ·intro w';go_simp;with_reducible rfl
               rotate_left
               ·simp only [Act.put,sIb,sZ,sS,i64_w,i32_w];rfl
               refine take_ (i:=0) (N:=some 38) (v:=?_) (a':=?_) #[Y,Y,Z,Z,Z,Z,Z,Z,Z,Z,Z,Z,Z,Z,Z,Z,Z,Z,Z,Z,Z,Z,Z,Z,Z,Z,Z,Z,Z,Z,Z,Z,Z,Z,Z,Z,Z,Z,Z,Z,Z,Z,Z,Z] rfl rfl (take_ofW HT_.out HW_.out (by kernel_rfl)) (fun _ _ _ h=>h) (Or.inl ⟨by rfl,?_⟩) hHeld ?_ ?_;rotate_left
               ·rintro w' ⟨s0,s1,s2,s3,s4,s5,s6,s7,s8,s9,s10⟩;go_simp;with_reducible rfl
               rotate_left
               ·simp only [Act.put,sIb,sZ,sS,i64_w,i32_w];rfl
               refine take_ (i:=2) (N:=some 40) (v:=?_) (a':=?_) #[Y,Y,Y,Z,Z,Z,Z,Z,Z,Z,Z,Z,Z,Z,Z,Z,Z,Z,Z,Z,Z,Z,Z,Z,Z,Z,Z,Z,Z,Z,Z,Z,Z,Z,Z,Z,Z,Z,Z,Z,Z,Z,Z,Z] rfl rfl (take_ofW HT_.out HW_.out (by kernel_rfl)) (fun _ _ _ h=>h) (Or.inl ⟨by rfl,?_⟩) hHeld ?_ ?_;rotate_left
               ·rintro w' ⟨s0,s1,s2,s3,s4,s5,s6,s7,s8,s9,s10⟩;go_simp;with_reducible rfl
               rotate_left
               ·simp only [Act.put,sIb,sZ,sS,i64_w,i32_w];rfl
               refine one_ (i:=3) (N:=some 41) #[Y,Y,Y,Y,Z,Z,Z,Z,Z,Z,Z,Z,Z,Z,Z,Z,Z,Z,Z,Z,Z,Z,Z,Z,Z,Z,Z,Z,Z,Z,Z,Z,Z,Z,Z,Z,Z,Z,Z,Z,Z,Z,Z,Z] rfl rfl (one_of HT_.out (by kernel_rfl)) (by decide) (fun K hK=>?_);refine goes_ Try.func38 (by kernel_rfl) rfl #[.agg #[.slice (some ad120) l0_0.length c0_0,.slice A0_1 l0_1.length c0_1,.slice A0_2 l0_2.length c0_2,.slice A0_3 l0_3.length c0_3,.slice A0_4 l0_4.length c0_4],.int .i64 ((rd_T47 l0_0 x33_2).f0)] (by rfl) rfl rfl (by (try simp only [mT,mC,mN]);first|done|rfl|(simp only [lD,lT];rfl)) ?_;with_reducible refine (spec_l14Ended.calls k2 _ _ l0_0 _ _ l0_1 _ _ l0_2 _ _ l0_3 _ _ l0_4 ((rd_T47 l0_0 x33_2).f0) false _ ?side1 ?side2 ?side3 ?side4 ?side5 ?side6 ?side7 ?side8 ?side9 ?side10 A30.out).mono ?_
               (case side1=>repeat (first|exact (cB HR0_0.out HB.out)|(with_reducible first|refine cL ?_ _|refine cN ?_ _|refine cW ?_)));(case side2=>exact HC0_0.out);(case side3=>repeat (first|exact (cB HR0_1.out HB.out)|(with_reducible first|refine cL ?_ _|refine cN ?_ _|refine cW ?_)));(case side4=>exact HC0_1.out);(case side5=>repeat (first|exact (cB HR0_2.out HB.out)|(with_reducible first|refine cL ?_ _|refine cN ?_ _|refine cW ?_)));(case side6=>exact HC0_2.out);(case side7=>repeat (first|exact (cB HR0_3.out HB.out)|(with_reducible first|refine cL ?_ _|refine cN ?_ _|refine cW ?_)));(case side8=>exact HC0_3.out);(case side9=>repeat (first|exact (cB HR0_4.out HB.out)|(with_reducible first|refine cL ?_ _|refine cN ?_ _|refine cW ?_)));(case side10=>exact HC0_4.out);rintro e w42 ⟨rfl,hb⟩;refine ⟨_,rfl,?_⟩;have n0_:=qK (qB (g:=gb116) (o:=_) (by (with_reducible repeat (first|refine qN ?_ _|refine qW ?_|refine qL ?_ _));exact BK116.out) hb);have n1_:=qK (qB (g:=gb121) (o:=_) (by (with_reducible repeat (first|refine qN ?_ _|refine qW ?_|refine qL ?_ _));exact BK121.out) hb);have n2_:=qK (qT (by repeat (with_reducible first|exact HB.out|apply qA|apply qD|apply qO|refine qS ?_ GE116.out|refine qS ?_ GE121.out)) hb);clear BK116;clear BK121;clear HB;have BK116:=n0_;have BK121:=n1_;have HB:=n2_;clear n0_ n1_ n2_;(try clear hb);refine hK.out _ _ ⟨(qC BK116.out 0).trans rfl,(qC BK116.out 1).trans rfl,(qC BK116.out 2).trans rfl,(qC BK116.out 3).trans rfl,(qC BK116.out 4).trans rfl,(qC BK121.out 0).trans rfl,(qC BK121.out 1).trans rfl,(qC BK121.out 2).trans rfl,((HB.out.cell (World.block_lt_of_cell? w _ hw123_0)).trans hw123_0),((HB.out.cell (World.block_lt_of_cell? w _ hw123_1)).trans hw123_1),((HB.out.cell (World.block_lt_of_cell? w _ hw123_2)).trans hw123_2)⟩ (fun hHeld=>?_);clear hK K;refine norm_ (a':=?_) ?_ ?_;rotate_left
               ·show Act.put _ (some 41) _=_
                simp only [Act.put,sIb,sZ,sS,i64_w,i32_w];rfl
               refine pure_ (i:=4) (N:=some 42) (v:=?_) (a':=?_) #[Y,Y,Y,Y,Y,Z,Z,Z,Z,Z,Z,Z,Z,Z,Z,Z,Z,Z,Z,Z,Z,Z,Z,Z,Z,Z,Z,Z,Z,Z,Z,Z,Z,Z,Z,Z,Z,Z,Z,Z,Z,Z,Z,Z] rfl rfl (any_of HT_.out (by kernel_rfl)) (fun _ _ _ h=>h) (Or.inl ⟨by rfl,?_⟩) ?_ ?_;rotate_left
               ·intro w';go_simp;with_reducible rfl
               rotate_left
               ·simp only [Act.put,sIb,sZ,sS,i64_w,i32_w];rfl
               refine pure_ (i:=5) (N:=some 43) (v:=?_) (a':=?_) #[Y,Y,Y,Y,Y,Y,Z,Z,Z,Z,Z,Z,Z,Z,Z,Z,Z,Z,Z,Z,Z,Z,Z,Z,Z,Z,Z,Z,Z,Z,Z,Z,Z,Z,Z,Z,Z,Z,Z,Z,Z,Z,Z,Z] rfl rfl (any_of HT_.out (by kernel_rfl)) (fun _ _ _ h=>h) (Or.inl ⟨by rfl,?_⟩) ?_ ?_;rotate_left
               ·intro w';go_simp;with_reducible rfl
               rotate_left
               ·simp only [Act.put,sIb,sZ,sS,i64_w,i32_w];rfl
               refine pure_ (i:=6) (N:=some 44) (v:=?_) (a':=?_) #[Y,Y,Y,Y,Y,Y,Y,Z,Z,Z,Z,Z,Z,Z,Z,Z,Z,Z,Z,Z,Z,Z,Z,Z,Z,Z,Z,Z,Z,Z,Z,Z,Z,Z,Z,Z,Z,Z,Z,Z,Z,Z,Z,Z] rfl rfl (any_of HT_.out (by kernel_rfl)) (fun _ _ _ h=>h) (Or.inl ⟨by rfl,?_⟩) ?_ ?_;rotate_left
               ·intro w';go_simp;with_reducible rfl
               rotate_left
               ·simp only [Act.put,sIb,sZ,sS,i64_w,i32_w];rfl
               refine pure_ (i:=7) (N:=some 45) (v:=?_) (a':=?_) #[Y,Y,Y,Y,Y,Y,Y,Y,Z,Z,Z,Z,Z,Z,Z,Z,Z,Z,Z,Z,Z,Z,Z,Z,Z,Z,Z,Z,Z,Z,Z,Z,Z,Z,Z,Z,Z,Z,Z,Z,Z,Z,Z,Z] rfl rfl (any_of HT_.out (by kernel_rfl)) (fun _ _ _ h=>h) (Or.inl ⟨by rfl,?_⟩) ?_ ?_;rotate_left
               ·intro w';go_simp;with_reducible rfl
               rotate_left
               ·simp only [Act.put,sIb,sZ,sS,i64_w,i32_w];rfl
               refine pure_ (i:=8) (N:=some 46) (v:=?_) (a':=?_) #[Y,Y,Y,Y,Y,Y,Y,Y,Y,Z,Z,Z,Z,Z,Z,Z,Z,Z,Z,Z,Z,Z,Z,Z,Z,Z,Z,Z,Z,Z,Z,Z,Z,Z,Z,Z,Z,Z,Z,Z,Z,Z,Z,Z] rfl rfl (any_of HT_.out (by kernel_rfl)) (fun _ _ _ h=>h) (Or.inl ⟨by rfl,?_⟩) ?_ ?_;rotate_left
               ·intro w';go_simp;with_reducible rfl
               rotate_left
               ·simp only [Act.put,sIb,sZ,sS,i64_w,i32_w];rfl
               refine pure_ (i:=10) (N:=some 48) (v:=?_) (a':=?_) #[Y,Y,Y,Y,Y,Y,Y,Y,Y,Z,Y,Z,Z,Z,Z,Z,Z,Z,Z,Z,Z,Z,Z,Z,Z,Z,Z,Z,Z,Z,Z,Z,Z,Z,Z,Z,Z,Z,Z,Z,Z,Z,Z,Z] rfl rfl (any_of HT_.out (by kernel_rfl)) (fun _ _ _ h=>h) (Or.inl ⟨by rfl,?_⟩) ?_ ?_;rotate_left
               ·intro w';go_simp;with_reducible rfl
               rotate_left
               ·simp only [Act.put,sIb,sZ,sS,i64_w,i32_w];rfl
               refine pure_ (i:=11) (N:=some 49) (v:=?_) (a':=?_) #[Y,Y,Y,Y,Y,Y,Y,Y,Y,Z,Y,Y,Z,Z,Z,Z,Z,Z,Z,Z,Z,Z,Z,Z,Z,Z,Z,Z,Z,Z,Z,Z,Z,Z,Z,Z,Z,Z,Z,Z,Z,Z,Z,Z] rfl rfl (any_of HT_.out (by kernel_rfl)) (fun _ _ _ h=>h) (Or.inl ⟨by rfl,?_⟩) ?_ ?_;rotate_left
               ·intro w';go_simp;with_reducible rfl
               rotate_left
               ·simp only [Act.put,sIb,sZ,sS,i64_w,i32_w];rfl
               refine pure_ (i:=15) (N:=some 53) (v:=?_) (a':=?_) #[Y,Y,Y,Y,Y,Y,Y,Y,Y,Z,Y,Y,Z,Z,Z,Y,Z,Z,Z,Z,Z,Z,Z,Z,Z,Z,Z,Z,Z,Z,Z,Z,Z,Z,Z,Z,Z,Z,Z,Z,Z,Z,Z,Z] rfl rfl (any_of HT_.out (by kernel_rfl)) (fun _ _ _ h=>h) (Or.inl ⟨by rfl,?_⟩) ?_ ?_;rotate_left
               ·intro w';go_simp;with_reducible rfl
               rotate_left
               ·simp only [Act.put,sIb,sZ,sS,i64_w,i32_w];rfl
               refine take_ (i:=9) (N:=some 47) (v:=?_) (a':=?_) #[Y,Y,Y,Y,Y,Y,Y,Y,Y,Y,Y,Y,Z,Z,Z,Y,Z,Z,Z,Z,Z,Z,Z,Z,Z,Z,Z,Z,Z,Z,Z,Z,Z,Z,Z,Z,Z,Z,Z,Z,Z,Z,Z,Z] rfl rfl (take_ofW HT_.out HW_.out (by kernel_rfl)) (fun _ _ _ h=>h) (Or.inl ⟨by rfl,?_⟩) hHeld ?_ ?_;rotate_left
               ·rintro w' ⟨s0,s1,s2,s3,s4,s5,s6,s7,s8,s9,s10⟩;go_simp;with_reducible rfl
               rotate_left
               ·simp only [Act.put,sIb,sZ,sS,i64_w,i32_w];rfl
               refine pure_ (i:=12) (N:=some 50) (v:=?_) (a':=?_) #[Y,Y,Y,Y,Y,Y,Y,Y,Y,Y,Y,Y,Y,Z,Z,Y,Z,Z,Z,Z,Z,Z,Z,Z,Z,Z,Z,Z,Z,Z,Z,Z,Z,Z,Z,Z,Z,Z,Z,Z,Z,Z,Z,Z] rfl rfl (any_of HT_.out (by kernel_rfl)) (fun _ _ _ h=>h) (Or.inl ⟨by rfl,?_⟩) ?_ ?_;rotate_left
               ·intro w';go_simp;with_reducible rfl
               rotate_left
               ·simp only [Act.put,sIb,sZ,sS,i64_w,i32_w];rfl
               refine pure_ (i:=13) (N:=some 51) (v:=?_) (a':=?_) #[Y,Y,Y,Y,Y,Y,Y,Y,Y,Y,Y,Y,Y,Y,Z,Y,Z,Z,Z,Z,Z,Z,Z,Z,Z,Z,Z,Z,Z,Z,Z,Z,Z,Z,Z,Z,Z,Z,Z,Z,Z,Z,Z,Z] rfl rfl (any_of HT_.out (by kernel_rfl)) (fun _ _ _ h=>h) (Or.inl ⟨by rfl,?_⟩) ?_ ?_;rotate_left
               ·intro w';go_simp;with_reducible rfl
               rotate_left
               ·simp only [Act.put,sIb,sZ,sS,i64_w,i32_w];rfl
               refine take_ (i:=14) (N:=some 52) (v:=?_) (a':=?_) #[Y,Y,Y,Y,Y,Y,Y,Y,Y,Y,Y,Y,Y,Y,Y,Y,Z,Z,Z,Z,Z,Z,Z,Z,Z,Z,Z,Z,Z,Z,Z,Z,Z,Z,Z,Z,Z,Z,Z,Z,Z,Z,Z,Z] rfl rfl (take_ofW HT_.out HW_.out (by kernel_rfl)) (fun _ _ _ h=>h) (Or.inl ⟨by rfl,?_⟩) hHeld ?_ ?_;rotate_left
               ·rintro w' ⟨s0,s1,s2,s3,s4,s5,s6,s7,s8,s9,s10⟩;go_simp;with_reducible rfl
               rotate_left
               ·simp only [Act.put,sIb,sZ,sS,i64_w,i32_w];rfl
               refine take_ (i:=16) (N:=some 54) (v:=?_) (a':=?_) #[Y,Y,Y,Y,Y,Y,Y,Y,Y,Y,Y,Y,Y,Y,Y,Y,Y,Z,Z,Z,Z,Z,Z,Z,Z,Z,Z,Z,Z,Z,Z,Z,Z,Z,Z,Z,Z,Z,Z,Z,Z,Z,Z,Z] rfl rfl (take_ofW HT_.out HW_.out (by kernel_rfl)) (fun _ _ _ h=>h) (Or.inl ⟨by rfl,?_⟩) hHeld ?_ ?_;rotate_left
               ·rintro w' ⟨s0,s1,s2,s3,s4,s5,s6,s7,s8,s9,s10⟩;go_simp;with_reducible rfl
               rotate_left
               ·simp only [Act.put,sIb,sZ,sS,i64_w,i32_w];rfl
               refine pure_ (i:=17) (N:=some 55) (v:=?_) (a':=?_) #[Y,Y,Y,Y,Y,Y,Y,Y,Y,Y,Y,Y,Y,Y,Y,Y,Y,Y,Z,Z,Z,Z,Z,Z,Z,Z,Z,Z,Z,Z,Z,Z,Z,Z,Z,Z,Z,Z,Z,Z,Z,Z,Z,Z] rfl rfl (any_of HT_.out (by kernel_rfl)) (fun _ _ _ h=>h) (Or.inl ⟨by rfl,?_⟩) ?_ ?_;rotate_left
               ·intro w';go_simp;with_reducible rfl
               rotate_left
               ·simp only [Act.put,sIb,sZ,sS,i64_w,i32_w];rfl
               refine pure_ (i:=18) (N:=some 56) (v:=?_) (a':=?_) #[Y,Y,Y,Y,Y,Y,Y,Y,Y,Y,Y,Y,Y,Y,Y,Y,Y,Y,Y,Z,Z,Z,Z,Z,Z,Z,Z,Z,Z,Z,Z,Z,Z,Z,Z,Z,Z,Z,Z,Z,Z,Z,Z,Z] rfl rfl (any_of HT_.out (by kernel_rfl)) (fun _ _ _ h=>h) (Or.inl ⟨by rfl,?_⟩) ?_ ?_;rotate_left
               ·intro w';go_simp;with_reducible rfl
               rotate_left
               ·simp only [Act.put,sIb,sZ,sS,i64_w,i32_w];rfl
               refine pure_ (i:=19) (N:=some 57) (v:=undef) (a':=?_) #[Y,Y,Y,Y,Y,Y,Y,Y,Y,Y,Y,Y,Y,Y,Y,Y,Y,Y,Y,Y,Z,Z,Z,Z,Z,Z,Z,Z,Z,Z,Z,Z,Z,Z,Z,Z,Z,Z,Z,Z,Z,Z,Z,Z] rfl rfl (any_of HT_.out (by kernel_rfl)) (fun _ _ _ h=>h) (Or.inr ⟨by rfl,rfl⟩) ?_ ?_;rotate_left
               ·simp only [Act.put,sIb,sZ,sS,i64_w,i32_w];rfl
               refine pure_ (i:=20) (N:=some 58) (v:=undef) (a':=?_) #[Y,Y,Y,Y,Y,Y,Y,Y,Y,Y,Y,Y,Y,Y,Y,Y,Y,Y,Y,Y,Y,Z,Z,Z,Z,Z,Z,Z,Z,Z,Z,Z,Z,Z,Z,Z,Z,Z,Z,Z,Z,Z,Z,Z] rfl rfl (any_of HT_.out (by kernel_rfl)) (fun _ _ _ h=>h) (Or.inr ⟨by rfl,rfl⟩) ?_ ?_;rotate_left
               ·simp only [Act.put,sIb,sZ,sS,i64_w,i32_w];rfl
               refine pure_ (i:=21) (N:=some 59) (v:=undef) (a':=?_) #[Y,Y,Y,Y,Y,Y,Y,Y,Y,Y,Y,Y,Y,Y,Y,Y,Y,Y,Y,Y,Y,Y,Z,Z,Z,Z,Z,Z,Z,Z,Z,Z,Z,Z,Z,Z,Z,Z,Z,Z,Z,Z,Z,Z] rfl rfl (any_of HT_.out (by kernel_rfl)) (fun _ _ _ h=>h) (Or.inr ⟨by rfl,rfl⟩) ?_ ?_;rotate_left
               ·simp only [Act.put,sIb,sZ,sS,i64_w,i32_w];rfl
               refine pure_ (i:=22) (N:=some 60) (v:=undef) (a':=?_) #[Y,Y,Y,Y,Y,Y,Y,Y,Y,Y,Y,Y,Y,Y,Y,Y,Y,Y,Y,Y,Y,Y,Y,Z,Z,Z,Z,Z,Z,Z,Z,Z,Z,Z,Z,Z,Z,Z,Z,Z,Z,Z,Z,Z] rfl rfl (any_of HT_.out (by kernel_rfl)) (fun _ _ _ h=>h) (Or.inr ⟨by rfl,rfl⟩) ?_ ?_;rotate_left
               ·simp only [Act.put,sIb,sZ,sS,i64_w,i32_w];rfl
               refine pure_ (i:=23) (N:=some 61) (v:=undef) (a':=?_) #[Y,Y,Y,Y,Y,Y,Y,Y,Y,Y,Y,Y,Y,Y,Y,Y,Y,Y,Y,Y,Y,Y,Y,Y,Z,Z,Z,Z,Z,Z,Z,Z,Z,Z,Z,Z,Z,Z,Z,Z,Z,Z,Z,Z] rfl rfl (any_of HT_.out (by kernel_rfl)) (fun _ _ _ h=>h) (Or.inr ⟨by rfl,rfl⟩) ?_ ?_;rotate_left
               ·simp only [Act.put,sIb,sZ,sS,i64_w,i32_w];rfl
               refine pure_ (i:=24) (N:=some 62) (v:=undef) (a':=?_) #[Y,Y,Y,Y,Y,Y,Y,Y,Y,Y,Y,Y,Y,Y,Y,Y,Y,Y,Y,Y,Y,Y,Y,Y,Y,Z,Z,Z,Z,Z,Z,Z,Z,Z,Z,Z,Z,Z,Z,Z,Z,Z,Z,Z] rfl rfl (any_of HT_.out (by kernel_rfl)) (fun _ _ _ h=>h) (Or.inr ⟨by rfl,rfl⟩) ?_ ?_;rotate_left
               ·simp only [Act.put,sIb,sZ,sS,i64_w,i32_w];rfl
               refine pure_ (i:=25) (N:=some 63) (v:=undef) (a':=?_) #[Y,Y,Y,Y,Y,Y,Y,Y,Y,Y,Y,Y,Y,Y,Y,Y,Y,Y,Y,Y,Y,Y,Y,Y,Y,Y,Z,Z,Z,Z,Z,Z,Z,Z,Z,Z,Z,Z,Z,Z,Z,Z,Z,Z] rfl rfl (any_of HT_.out (by kernel_rfl)) (fun _ _ _ h=>h) (Or.inr ⟨by rfl,rfl⟩) ?_ ?_;rotate_left
               ·simp only [Act.put,sIb,sZ,sS,i64_w,i32_w];rfl
               refine pure_ (i:=26) (N:=some 64) (v:=undef) (a':=?_) #[Y,Y,Y,Y,Y,Y,Y,Y,Y,Y,Y,Y,Y,Y,Y,Y,Y,Y,Y,Y,Y,Y,Y,Y,Y,Y,Y,Z,Z,Z,Z,Z,Z,Z,Z,Z,Z,Z,Z,Z,Z,Z,Z,Z] rfl rfl (any_of HT_.out (by kernel_rfl)) (fun _ _ _ h=>h) (Or.inr ⟨by rfl,rfl⟩) ?_ ?_;rotate_left
               ·simp only [Act.put,sIb,sZ,sS,i64_w,i32_w];rfl
               refine pure_ (i:=27) (N:=some 65) (v:=undef) (a':=?_) #[Y,Y,Y,Y,Y,Y,Y,Y,Y,Y,Y,Y,Y,Y,Y,Y,Y,Y,Y,Y,Y,Y,Y,Y,Y,Y,Y,Y,Z,Z,Z,Z,Z,Z,Z,Z,Z,Z,Z,Z,Z,Z,Z,Z] rfl rfl (any_of HT_.out (by kernel_rfl)) (fun _ _ _ h=>h) (Or.inr ⟨by rfl,rfl⟩) ?_ ?_;rotate_left
               ·simp only [Act.put,sIb,sZ,sS,i64_w,i32_w];rfl
               refine pure_ (i:=28) (N:=some 66) (v:=undef) (a':=?_) #[Y,Y,Y,Y,Y,Y,Y,Y,Y,Y,Y,Y,Y,Y,Y,Y,Y,Y,Y,Y,Y,Y,Y,Y,Y,Y,Y,Y,Y,Z,Z,Z,Z,Z,Z,Z,Z,Z,Z,Z,Z,Z,Z,Z] rfl rfl (any_of HT_.out (by kernel_rfl)) (fun _ _ _ h=>h) (Or.inr ⟨by rfl,rfl⟩) ?_ ?_;rotate_left
               ·simp only [Act.put,sIb,sZ,sS,i64_w,i32_w];rfl
               refine pure_ (i:=29) (N:=some 67) (v:=undef) (a':=?_) #[Y,Y,Y,Y,Y,Y,Y,Y,Y,Y,Y,Y,Y,Y,Y,Y,Y,Y,Y,Y,Y,Y,Y,Y,Y,Y,Y,Y,Y,Y,Z,Z,Z,Z,Z,Z,Z,Z,Z,Z,Z,Z,Z,Z] rfl rfl (any_of HT_.out (by kernel_rfl)) (fun _ _ _ h=>h) (Or.inr ⟨by rfl,rfl⟩) ?_ ?_;rotate_left
               ·simp only [Act.put,sIb,sZ,sS,i64_w,i32_w];rfl
               refine pure_ (i:=30) (N:=some 68) (v:=undef) (a':=?_) #[Y,Y,Y,Y,Y,Y,Y,Y,Y,Y,Y,Y,Y,Y,Y,Y,Y,Y,Y,Y,Y,Y,Y,Y,Y,Y,Y,Y,Y,Y,Y,Z,Z,Z,Z,Z,Z,Z,Z,Z,Z,Z,Z,Z] rfl rfl (any_of HT_.out (by kernel_rfl)) (fun _ _ _ h=>h) (Or.inr ⟨by rfl,rfl⟩) ?_ ?_;rotate_left
               ·simp only [Act.put,sIb,sZ,sS,i64_w,i32_w];rfl
               refine pure_ (i:=31) (N:=some 69) (v:=undef) (a':=?_) #[Y,Y,Y,Y,Y,Y,Y,Y,Y,Y,Y,Y,Y,Y,Y,Y,Y,Y,Y,Y,Y,Y,Y,Y,Y,Y,Y,Y,Y,Y,Y,Y,Z,Z,Z,Z,Z,Z,Z,Z,Z,Z,Z,Z] rfl rfl (any_of HT_.out (by kernel_rfl)) (fun _ _ _ h=>h) (Or.inr ⟨by rfl,rfl⟩) ?_ ?_;rotate_left
               ·simp only [Act.put,sIb,sZ,sS,i64_w,i32_w];rfl
               refine pure_ (i:=32) (N:=some 70) (v:=undef) (a':=?_) #[Y,Y,Y,Y,Y,Y,Y,Y,Y,Y,Y,Y,Y,Y,Y,Y,Y,Y,Y,Y,Y,Y,Y,Y,Y,Y,Y,Y,Y,Y,Y,Y,Y,Z,Z,Z,Z,Z,Z,Z,Z,Z,Z,Z] rfl rfl (any_of HT_.out (by kernel_rfl)) (fun _ _ _ h=>h) (Or.inr ⟨by rfl,rfl⟩) ?_ ?_;rotate_left
               ·simp only [Act.put,sIb,sZ,sS,i64_w,i32_w];rfl
               refine pure_ (i:=33) (N:=some 71) (v:=undef) (a':=?_) #[Y,Y,Y,Y,Y,Y,Y,Y,Y,Y,Y,Y,Y,Y,Y,Y,Y,Y,Y,Y,Y,Y,Y,Y,Y,Y,Y,Y,Y,Y,Y,Y,Y,Y,Z,Z,Z,Z,Z,Z,Z,Z,Z,Z] rfl rfl (any_of HT_.out (by kernel_rfl)) (fun _ _ _ h=>h) (Or.inr ⟨by rfl,rfl⟩) ?_ ?_;rotate_left
               ·simp only [Act.put,sIb,sZ,sS,i64_w,i32_w];rfl
               refine pure_ (i:=34) (N:=some 72) (v:=undef) (a':=?_) #[Y,Y,Y,Y,Y,Y,Y,Y,Y,Y,Y,Y,Y,Y,Y,Y,Y,Y,Y,Y,Y,Y,Y,Y,Y,Y,Y,Y,Y,Y,Y,Y,Y,Y,Y,Z,Z,Z,Z,Z,Z,Z,Z,Z] rfl rfl (any_of HT_.out (by kernel_rfl)) (fun _ _ _ h=>h) (Or.inr ⟨by rfl,rfl⟩) ?_ ?_;rotate_left
               ·simp only [Act.put,sIb,sZ,sS,i64_w,i32_w];rfl
               refine pure_ (i:=35) (N:=some 73) (v:=undef) (a':=?_) #[Y,Y,Y,Y,Y,Y,Y,Y,Y,Y,Y,Y,Y,Y,Y,Y,Y,Y,Y,Y,Y,Y,Y,Y,Y,Y,Y,Y,Y,Y,Y,Y,Y,Y,Y,Y,Z,Z,Z,Z,Z,Z,Z,Z] rfl rfl (any_of HT_.out (by kernel_rfl)) (fun _ _ _ h=>h) (Or.inr ⟨by rfl,rfl⟩) ?_ ?_;rotate_left
               ·simp only [Act.put,sIb,sZ,sS,i64_w,i32_w];rfl
               refine pure_ (i:=36) (N:=some 74) (v:=undef) (a':=?_) #[Y,Y,Y,Y,Y,Y,Y,Y,Y,Y,Y,Y,Y,Y,Y,Y,Y,Y,Y,Y,Y,Y,Y,Y,Y,Y,Y,Y,Y,Y,Y,Y,Y,Y,Y,Y,Y,Z,Z,Z,Z,Z,Z,Z] rfl rfl (any_of HT_.out (by kernel_rfl)) (fun _ _ _ h=>h) (Or.inr ⟨by rfl,rfl⟩) ?_ ?_;rotate_left
               ·simp only [Act.put,sIb,sZ,sS,i64_w,i32_w];rfl
               refine pure_ (i:=37) (N:=some 75) (v:=undef) (a':=?_) #[Y,Y,Y,Y,Y,Y,Y,Y,Y,Y,Y,Y,Y,Y,Y,Y,Y,Y,Y,Y,Y,Y,Y,Y,Y,Y,Y,Y,Y,Y,Y,Y,Y,Y,Y,Y,Y,Y,Z,Z,Z,Z,Z,Z] rfl rfl (any_of HT_.out (by kernel_rfl)) (fun _ _ _ h=>h) (Or.inr ⟨by rfl,rfl⟩) ?_ ?_;rotate_left
               ·simp only [Act.put,sIb,sZ,sS,i64_w,i32_w];rfl
               refine pure_ (i:=38) (N:=some 76) (v:=undef) (a':=?_) #[Y,Y,Y,Y,Y,Y,Y,Y,Y,Y,Y,Y,Y,Y,Y,Y,Y,Y,Y,Y,Y,Y,Y,Y,Y,Y,Y,Y,Y,Y,Y,Y,Y,Y,Y,Y,Y,Y,Y,Z,Z,Z,Z,Z] rfl rfl (any_of HT_.out (by kernel_rfl)) (fun _ _ _ h=>h) (Or.inr ⟨by rfl,rfl⟩) ?_ ?_;rotate_left
               ·simp only [Act.put,sIb,sZ,sS,i64_w,i32_w];rfl
               refine pure_ (i:=39) (N:=some 77) (v:=undef) (a':=?_) #[Y,Y,Y,Y,Y,Y,Y,Y,Y,Y,Y,Y,Y,Y,Y,Y,Y,Y,Y,Y,Y,Y,Y,Y,Y,Y,Y,Y,Y,Y,Y,Y,Y,Y,Y,Y,Y,Y,Y,Y,Z,Z,Z,Z] rfl rfl (any_of HT_.out (by kernel_rfl)) (fun _ _ _ h=>h) (Or.inr ⟨by rfl,rfl⟩) ?_ ?_;rotate_left
               ·simp only [Act.put,sIb,sZ,sS,i64_w,i32_w];rfl
               refine pure_ (i:=40) (N:=some 78) (v:=undef) (a':=?_) #[Y,Y,Y,Y,Y,Y,Y,Y,Y,Y,Y,Y,Y,Y,Y,Y,Y,Y,Y,Y,Y,Y,Y,Y,Y,Y,Y,Y,Y,Y,Y,Y,Y,Y,Y,Y,Y,Y,Y,Y,Y,Z,Z,Z] rfl rfl (any_of HT_.out (by kernel_rfl)) (fun _ _ _ h=>h) (Or.inr ⟨by rfl,rfl⟩) ?_ ?_;rotate_left
               ·simp only [Act.put,sIb,sZ,sS,i64_w,i32_w];rfl
               refine pure_ (i:=41) (N:=some 79) (v:=?_) (a':=?_) #[Y,Y,Y,Y,Y,Y,Y,Y,Y,Y,Y,Y,Y,Y,Y,Y,Y,Y,Y,Y,Y,Y,Y,Y,Y,Y,Y,Y,Y,Y,Y,Y,Y,Y,Y,Y,Y,Y,Y,Y,Y,Y,Z,Z] rfl rfl (any_of HT_.out (by kernel_rfl)) (fun _ _ _ h=>h) (Or.inl ⟨by rfl,?_⟩) ?_ ?_;rotate_left
               ·intro w';go_simp;with_reducible rfl
               rotate_left
               ·simp only [Act.put,sIb,sZ,sS,i64_w,i32_w];rfl
               refine pure_ (i:=42) (N:=some 80) (v:=?_) (a':=?_) #[Y,Y,Y,Y,Y,Y,Y,Y,Y,Y,Y,Y,Y,Y,Y,Y,Y,Y,Y,Y,Y,Y,Y,Y,Y,Y,Y,Y,Y,Y,Y,Y,Y,Y,Y,Y,Y,Y,Y,Y,Y,Y,Y,Z] rfl rfl (any_of HT_.out (by kernel_rfl)) (fun _ _ _ h=>h) (Or.inl ⟨by rfl,?_⟩) ?_ ?_;rotate_left
               ·intro w';go_simp;with_reducible rfl
               rotate_left
               ·simp only [Act.put,sIb,sZ,sS,i64_w,i32_w];rfl
               refine pure_ (i:=43) (N:=some 81) (v:=?_) (a':=?_) #[Y,Y,Y,Y,Y,Y,Y,Y,Y,Y,Y,Y,Y,Y,Y,Y,Y,Y,Y,Y,Y,Y,Y,Y,Y,Y,Y,Y,Y,Y,Y,Y,Y,Y,Y,Y,Y,Y,Y,Y,Y,Y,Y,Y] rfl rfl (any_of HT_.out (by kernel_rfl)) (fun _ _ _ h=>h) (Or.inl ⟨by rfl,?_⟩) ?_ ?_;rotate_left
               ·intro w';go_simp;with_reducible rfl
               rotate_left
               ·simp only [Act.put,sIb,sZ,sS,i64_w,i32_w];rfl
               refine done_ (done_of HT_.out (by kernel_rfl)) ?_;try go_wp2
               go_meet
               case rel=>exact ⟨_,(true),(by first|rfl|(simp;done)|(simp [*];done)),H',⟨by have:=HJ1.out;have:=HK2.out;first|omega|exact Nat.le_refl _⟩,⟨by (with_reducible repeat (first|refine qN ?_ _|refine qW ?_|refine qL ?_ _));exact BK116.out⟩,⟨by (with_reducible repeat (first|refine qN ?_ _|refine qW ?_|refine qL ?_ _));exact BK121.out⟩,⟨by repeat (first|(with_reducible first|exact HB.out|apply qA|apply qD|apply qO|refine qS ?_ GE116.out|refine qS ?_ GE121.out)|exact HB.out)⟩⟩
              ·rw [if_neg c39] at H;have c39b0:decide (((rd_T47 l0_0 x33_2).f0) < ((rd_T47 l0_0 (ji36)).f0))=false:=decide_eq_false c39;clear c39;by_cases c43:((rd_T47 l0_0 (ji36)).f0)=((rd_T47 l0_0 x33_2).f0)
               ·rw [if_pos c43] at H;have c43b0:(((rd_T47 l0_0 (ji36)).f0) == ((rd_T47 l0_0 x33_2).f0))=true:=beq_iff_eq.mpr c43;have c43b1:(((rd_T47 l0_0 (ji36)).f0) != ((rd_T47 l0_0 x33_2).f0))=false:=bne_eq_false_iff_eq.mpr c43;clear c43;have H':=qK H;clear H;try go_wp2
                have n0_:Aside0 ((((w27.setCell ⟨gb121,0,none⟩ (.int .i64 ((rd_T47 l0_0 x33_2).f0))).setCell ⟨gb121,1,none⟩ (.int .i64 ((rd_T47 l0_0 x33_2).f1))).setCell ⟨gb121,2,none⟩ (.int .i64 ((rd_T47 l0_0 x33_2).f2))).heap[gb116]?=some (.cells #[.slice (some ad120) l0_0.length c0_0,.slice A0_1 l0_1.length c0_1,.slice A0_2 l0_2.length c0_2,.slice A0_3 l0_3.length c0_3,.slice A0_4 l0_4.length c0_4] 31 (0,0))):=⟨by (with_reducible repeat (first|refine qN ?_ _|refine qW ?_|refine qL ?_ _));refine qR ?_ NB116_121.out _;(with_reducible repeat (first|refine qN ?_ _|refine qW ?_|refine qL ?_ _));refine qR ?_ NB116_121.out _;(with_reducible repeat (first|refine qN ?_ _|refine qW ?_|refine qL ?_ _));refine qR ?_ NB116_121.out _;(with_reducible repeat (first|refine qN ?_ _|refine qW ?_|refine qL ?_ _));exact BK116.out⟩;have n1_:Aside0 ((((w27.setCell ⟨gb121,0,none⟩ (.int .i64 ((rd_T47 l0_0 x33_2).f0))).setCell ⟨gb121,1,none⟩ (.int .i64 ((rd_T47 l0_0 x33_2).f1))).setCell ⟨gb121,2,none⟩ (.int .i64 ((rd_T47 l0_0 x33_2).f2))).heap[gb121]?=some (.cells #[.int .i64 ((rd_T47 l0_0 x33_2).f0),.int .i64 ((rd_T47 l0_0 x33_2).f1),.int .i64 ((rd_T47 l0_0 x33_2).f2)] 47 (0,0))):=⟨by (with_reducible repeat (first|refine qN ?_ _|refine qW ?_|refine qL ?_ _));refine qP (cs:=#[.int .i64 ((rd_T47 l0_0 x33_2).f0),.int .i64 ((rd_T47 l0_0 x33_2).f1),.int .i64 0]) ?_ 2 _ rfl;(with_reducible repeat (first|refine qN ?_ _|refine qW ?_|refine qL ?_ _));refine qP (cs:=#[.int .i64 ((rd_T47 l0_0 x33_2).f0),.int .i64 0,.int .i64 0]) ?_ 1 _ rfl;(with_reducible repeat (first|refine qN ?_ _|refine qW ?_|refine qL ?_ _));refine qP (cs:=#[.int .i64 0,.int .i64 0,.int .i64 0]) ?_ 0 _ rfl;(with_reducible repeat (first|refine qN ?_ _|refine qW ?_|refine qL ?_ _));exact BK121.out⟩;have n2_:Aside0 (Below w.heap.size w (((w27.setCell ⟨gb121,0,none⟩ (.int .i64 ((rd_T47 l0_0 x33_2).f0))).setCell ⟨gb121,1,none⟩ (.int .i64 ((rd_T47 l0_0 x33_2).f1))).setCell ⟨gb121,2,none⟩ (.int .i64 ((rd_T47 l0_0 x33_2).f2)))):=⟨by repeat (first|(with_reducible first|exact HB.out|apply qA|apply qD|apply qO|refine qS ?_ GE116.out|refine qS ?_ GE121.out)|exact HB.out)⟩;(try clear BK116);(try clear BK121);(try clear HB);generalize (((w27.setCell ⟨gb121,0,none⟩ (.int .i64 ((rd_T47 l0_0 x33_2).f0))).setCell ⟨gb121,1,none⟩ (.int .i64 ((rd_T47 l0_0 x33_2).f1))).setCell ⟨gb121,2,none⟩ (.int .i64 ((rd_T47 l0_0 x33_2).f2)))=w44 at n0_ n1_ n2_ ⊢
                have BK116:=n0_;have BK121:=n1_;have HB:=n2_;clear n0_ n1_ n2_;(try (rw [drewN_self w44];generalize hq_:World.drewN w44 _=w44;have n0_:Aside0 (w44.heap[gb116]?=some (.cells #[.slice (some ad120) l0_0.length c0_0,.slice A0_1 l0_1.length c0_1,.slice A0_2 l0_2.length c0_2,.slice A0_3 l0_3.length c0_3,.slice A0_4 l0_4.length c0_4] 31 (0,0))):=⟨by rw [← hq_];exact (by (with_reducible repeat (first|refine qN ?_ _|refine qW ?_|refine qL ?_ _));exact BK116.out)⟩;have n1_:Aside0 (w44.heap[gb121]?=some (.cells #[.int .i64 ((rd_T47 l0_0 x33_2).f0),.int .i64 ((rd_T47 l0_0 x33_2).f1),.int .i64 ((rd_T47 l0_0 x33_2).f2)] 47 (0,0))):=⟨by rw [← hq_];exact (by (with_reducible repeat (first|refine qN ?_ _|refine qW ?_|refine qL ?_ _));exact BK121.out)⟩;have n2_:Aside0 (Below w.heap.size w w44):=⟨by rw [← hq_];exact (by repeat (with_reducible first|exact HB.out|apply qA|apply qD|apply qO|refine qS ?_ GE116.out|refine qS ?_ GE121.out))⟩;clear BK116 BK121 HB hq_;have BK116:=n0_;have BK121:=n1_;have HB:=n2_;clear n0_ n1_ n2_));have n0_:=qK (qW BK116.out);have n1_:=qK (qW BK121.out);have n2_:=qK (qO HB.out);clear BK116;clear BK121;clear HB;have BK116:=n0_;have BK121:=n1_;have HB:=n2_;clear n0_ n1_ n2_;have p123:0≤((ji36):Int):=of_decide_eq_true (by first|(with_reducible assumption)|assumption);have q123:(ji36) < (l0_0.length:Int):=of_decide_eq_true (by first|(with_reducible assumption)|assumption);obtain ⟨ad123,e123,hx123_0,hx123_1,hx123_2⟩:=at_T47 HR0_0.out (ji36) p123 q123;have hw123_2:=hx123_2;have hw123_1:=hx123_1;have hw123_0:=hx123_0;obtain rfl:ad120=ad123:=(by injection e123);replace hx123_0:=(HB.out.cell (World.block_lt_of_cell? w _ hx123_0)).trans hx123_0;replace hx123_1:=(HB.out.cell (World.block_lt_of_cell? w _ hx123_1)).trans hx123_1;replace hx123_2:=(HB.out.cell (World.block_lt_of_cell? w _ hx123_2)).trans hx123_2;replace p123:=eq_true p123;replace q123:=eq_true q123;have p124:0≤((ji36):Int):=of_decide_eq_true (by first|(with_reducible assumption)|assumption);have q124:(ji36) < (l0_0.length:Int):=of_decide_eq_true (by first|(with_reducible assumption)|assumption);obtain ⟨ad124,e124,hx124_0,hx124_1,hx124_2⟩:=at_T47 HR0_0.out (ji36) p124 q124;have hw124_2:=hx124_2;have hw124_1:=hx124_1;have hw124_0:=hx124_0;obtain rfl:ad120=ad124:=(by injection e124);replace hx124_0:=(HB.out.cell (World.block_lt_of_cell? w _ hx124_0)).trans hx124_0;replace hx124_1:=(HB.out.cell (World.block_lt_of_cell? w _ hx124_1)).trans hx124_1;replace hx124_2:=(HB.out.cell (World.block_lt_of_cell? w _ hx124_2)).trans hx124_2;replace p124:=eq_true p124;replace q124:=eq_true q124;have p125:0≤((ji36):Int):=of_decide_eq_true (by first|(with_reducible assumption)|assumption);have q125:(ji36) < (l0_0.length:Int):=of_decide_eq_true (by first|(with_reducible assumption)|assumption);obtain ⟨ad125,e125,hx125_0,hx125_1,hx125_2⟩:=at_T47 HR0_0.out (ji36) p125 q125;have hw125_2:=hx125_2;have hw125_1:=hx125_1;have hw125_0:=hx125_0;obtain rfl:ad120=ad125:=(by injection e125);replace hx125_0:=(HB.out.cell (World.block_lt_of_cell? w _ hx125_0)).trans hx125_0;replace hx125_1:=(HB.out.cell (World.block_lt_of_cell? w _ hx125_1)).trans hx125_1;replace hx125_2:=(HB.out.cell (World.block_lt_of_cell? w _ hx125_2)).trans hx125_2;replace p125:=eq_true p125;replace q125:=eq_true q125;refine start_ (n:=44) (S:=fun w'=>w'.cell? ⟨gb116,0,none⟩=some (.slice (some ad120) l0_0.length c0_0)∧w'.cell? ⟨gb116,1,none⟩=some (.slice A0_1 l0_1.length c0_1)∧w'.cell? ⟨gb116,2,none⟩=some (.slice A0_2 l0_2.length c0_2)∧w'.cell? ⟨gb116,3,none⟩=some (.slice A0_3 l0_3.length c0_3)∧w'.cell? ⟨gb116,4,none⟩=some (.slice A0_4 l0_4.length c0_4)∧w'.cell? ⟨gb121,0,none⟩=some (.int .i64 ((rd_T47 l0_0 x33_2).f0))∧w'.cell? ⟨gb121,1,none⟩=some (.int .i64 ((rd_T47 l0_0 x33_2).f1))∧w'.cell? ⟨gb121,2,none⟩=some (.int .i64 ((rd_T47 l0_0 x33_2).f2))∧w'.cell? (ad120.add (((ji36)).toNat * 3))=some (.int .i64 ((rd_T47 l0_0 (ji36)).f0))∧w'.cell? ⟨(ad120.add (((ji36)).toNat * 3)).block,(ad120.add (((ji36)).toNat * 3)).off + 1,none⟩=some (.int .i64 ((rd_T47 l0_0 (ji36)).f1))∧w'.cell? ⟨(ad120.add (((ji36)).toNat * 3)).block,(ad120.add (((ji36)).toNat * 3)).off + 2,none⟩=some (.int .i64 ((rd_T47 l0_0 (ji36)).f2))∧w'.cell? (ad120.add (((ji36)).toNat * 3))=some (.int .i64 ((rd_T47 l0_0 (ji36)).f0))∧w'.cell? ⟨(ad120.add (((ji36)).toNat * 3)).block,(ad120.add (((ji36)).toNat * 3)).off + 1,none⟩=some (.int .i64 ((rd_T47 l0_0 (ji36)).f1))∧w'.cell? ⟨(ad120.add (((ji36)).toNat * 3)).block,(ad120.add (((ji36)).toNat * 3)).off + 2,none⟩=some (.int .i64 ((rd_T47 l0_0 (ji36)).f2))∧w'.cell? (ad120.add (((ji36)).toNat * 3))=some (.int .i64 ((rd_T47 l0_0 (ji36)).f0))∧w'.cell? ⟨(ad120.add (((ji36)).toNat * 3)).block,(ad120.add (((ji36)).toNat * 3)).off + 1,none⟩=some (.int .i64 ((rd_T47 l0_0 (ji36)).f1))∧w'.cell? ⟨(ad120.add (((ji36)).toNat * 3)).block,(ad120.add (((ji36)).toNat * 3)).off + 2,none⟩=some (.int .i64 ((rd_T47 l0_0 (ji36)).f2))) (ds:=[]) #[Z,Z,Z,Z,Z,Z,Z,Z,Z,Z,Z,Z,Z,Z,Z,Z,Z,Z,Z,Z,Z,Z,Z,Z,Z,Z,Z,Z,Z,Z,Z,Z,Z,Z,Z,Z,Z,Z,Z,Z,Z,Z,Z,Z] (by kernel_rfl) rfl rfl ⟨(qC BK116.out 0).trans rfl,(qC BK116.out 1).trans rfl,(qC BK116.out 2).trans rfl,(qC BK116.out 3).trans rfl,(qC BK116.out 4).trans rfl,(qC BK121.out 0).trans rfl,(qC BK121.out 1).trans rfl,(qC BK121.out 2).trans rfl,((HB.out.cell (World.block_lt_of_cell? w _ hw123_0)).trans hw123_0),((HB.out.cell (World.block_lt_of_cell? w _ hw123_1)).trans hw123_1),((HB.out.cell (World.block_lt_of_cell? w _ hw123_2)).trans hw123_2),((HB.out.cell (World.block_lt_of_cell? w _ hw124_0)).trans hw124_0),((HB.out.cell (World.block_lt_of_cell? w _ hw124_1)).trans hw124_1),((HB.out.cell (World.block_lt_of_cell? w _ hw124_2)).trans hw124_2),((HB.out.cell (World.block_lt_of_cell? w _ hw125_0)).trans hw125_0),((HB.out.cell (World.block_lt_of_cell? w _ hw125_1)).trans hw125_1),((HB.out.cell (World.block_lt_of_cell? w _ hw125_2)).trans hw125_2)⟩ (fun hHeld=>?_);refine with_tabW spec_GoodLocks.tab6 spec_GoodLocks.bits6 (fun HT_ HW_=>?_);generalize w44.drew=w45 at BK116 BK121 HB hx123_0 hx123_1 hx123_2 hx124_0 hx124_1 hx124_2 hx125_0 hx125_1 hx125_2 hHeld ⊢
                refine pure_ (i:=1) (N:=some 39) (v:=?_) (a':=?_) #[Z,Y,Z,Z,Z,Z,Z,Z,Z,Z,Z,Z,Z,Z,Z,Z,Z,Z,Z,Z,Z,Z,Z,Z,Z,Z,Z,Z,Z,Z,Z,Z,Z,Z,Z,Z,Z,Z,Z,Z,Z,Z,Z,Z] rfl rfl (any_of HT_.out (by kernel_rfl)) (fun _ _ _ h=>h) (Or.inl ⟨by rfl,?_⟩) ?_ ?_;rotate_left
                ·intro w';go_simp;with_reducible rfl
                rotate_left
                ·simp only [Act.put,sIb,sZ,sS,i64_w,i32_w];rfl
                refine take_ (i:=0) (N:=some 38) (v:=?_) (a':=?_) #[Y,Y,Z,Z,Z,Z,Z,Z,Z,Z,Z,Z,Z,Z,Z,Z,Z,Z,Z,Z,Z,Z,Z,Z,Z,Z,Z,Z,Z,Z,Z,Z,Z,Z,Z,Z,Z,Z,Z,Z,Z,Z,Z,Z] rfl rfl (take_ofW HT_.out HW_.out (by kernel_rfl)) (fun _ _ _ h=>h) (Or.inl ⟨by rfl,?_⟩) hHeld ?_ ?_;rotate_left
                ·rintro w' ⟨s0,s1,s2,s3,s4,s5,s6,s7,s8,s9,s10,s11,s12,s13,s14,s15,s16⟩;go_simp;with_reducible rfl
                rotate_left
                ·simp only [Act.put,sIb,sZ,sS,i64_w,i32_w];rfl
                refine take_ (i:=2) (N:=some 40) (v:=?_) (a':=?_) #[Y,Y,Y,Z,Z,Z,Z,Z,Z,Z,Z,Z,Z,Z,Z,Z,Z,Z,Z,Z,Z,Z,Z,Z,Z,Z,Z,Z,Z,Z,Z,Z,Z,Z,Z,Z,Z,Z,Z,Z,Z,Z,Z,Z] rfl rfl (take_ofW HT_.out HW_.out (by kernel_rfl)) (fun _ _ _ h=>h) (Or.inl ⟨by rfl,?_⟩) hHeld ?_ ?_;rotate_left
                ·rintro w' ⟨s0,s1,s2,s3,s4,s5,s6,s7,s8,s9,s10,s11,s12,s13,s14,s15,s16⟩;go_simp;with_reducible rfl
                rotate_left
                ·simp only [Act.put,sIb,sZ,sS,i64_w,i32_w];rfl
                refine one_ (i:=3) (N:=some 41) #[Y,Y,Y,Y,Z,Z,Z,Z,Z,Z,Z,Z,Z,Z,Z,Z,Z,Z,Z,Z,Z,Z,Z,Z,Z,Z,Z,Z,Z,Z,Z,Z,Z,Z,Z,Z,Z,Z,Z,Z,Z,Z,Z,Z] rfl rfl (one_of HT_.out (by kernel_rfl)) (by decide) (fun K hK=>?_);refine goes_ Try.func38 (by kernel_rfl) rfl #[.agg #[.slice (some ad120) l0_0.length c0_0,.slice A0_1 l0_1.length c0_1,.slice A0_2 l0_2.length c0_2,.slice A0_3 l0_3.length c0_3,.slice A0_4 l0_4.length c0_4],.int .i64 ((rd_T47 l0_0 x33_2).f0)] (by rfl) rfl rfl (by (try simp only [mT,mC,mN]);first|done|rfl|(simp only [lD,lT];rfl)) ?_;with_reducible refine (spec_l14Ended.calls k2 _ _ l0_0 _ _ l0_1 _ _ l0_2 _ _ l0_3 _ _ l0_4 ((rd_T47 l0_0 x33_2).f0) false _ ?side1 ?side2 ?side3 ?side4 ?side5 ?side6 ?side7 ?side8 ?side9 ?side10 A30.out).mono ?_
                (case side1=>repeat (first|exact (cB HR0_0.out HB.out)|(with_reducible first|refine cL ?_ _|refine cN ?_ _|refine cW ?_)));(case side2=>exact HC0_0.out);(case side3=>repeat (first|exact (cB HR0_1.out HB.out)|(with_reducible first|refine cL ?_ _|refine cN ?_ _|refine cW ?_)));(case side4=>exact HC0_1.out);(case side5=>repeat (first|exact (cB HR0_2.out HB.out)|(with_reducible first|refine cL ?_ _|refine cN ?_ _|refine cW ?_)));(case side6=>exact HC0_2.out);(case side7=>repeat (first|exact (cB HR0_3.out HB.out)|(with_reducible first|refine cL ?_ _|refine cN ?_ _|refine cW ?_)));(case side8=>exact HC0_3.out);(case side9=>repeat (first|exact (cB HR0_4.out HB.out)|(with_reducible first|refine cL ?_ _|refine cN ?_ _|refine cW ?_)));(case side10=>exact HC0_4.out);rintro e w46 ⟨rfl,hb⟩;refine ⟨_,rfl,?_⟩;have n0_:=qK (qB (g:=gb116) (o:=_) (by (with_reducible repeat (first|refine qN ?_ _|refine qW ?_|refine qL ?_ _));exact BK116.out) hb);have n1_:=qK (qB (g:=gb121) (o:=_) (by (with_reducible repeat (first|refine qN ?_ _|refine qW ?_|refine qL ?_ _));exact BK121.out) hb);have n2_:=qK (qT (by repeat (with_reducible first|exact HB.out|apply qA|apply qD|apply qO|refine qS ?_ GE116.out|refine qS ?_ GE121.out)) hb);clear BK116;clear BK121;clear HB;have BK116:=n0_;have BK121:=n1_;have HB:=n2_;clear n0_ n1_ n2_;(try clear hb);refine hK.out _ _ ⟨(qC BK116.out 0).trans rfl,(qC BK116.out 1).trans rfl,(qC BK116.out 2).trans rfl,(qC BK116.out 3).trans rfl,(qC BK116.out 4).trans rfl,(qC BK121.out 0).trans rfl,(qC BK121.out 1).trans rfl,(qC BK121.out 2).trans rfl,((HB.out.cell (World.block_lt_of_cell? w _ hw123_0)).trans hw123_0),((HB.out.cell (World.block_lt_of_cell? w _ hw123_1)).trans hw123_1),((HB.out.cell (World.block_lt_of_cell? w _ hw123_2)).trans hw123_2),((HB.out.cell (World.block_lt_of_cell? w _ hw124_0)).trans hw124_0),((HB.out.cell (World.block_lt_of_cell? w _ hw124_1)).trans hw124_1),((HB.out.cell (World.block_lt_of_cell? w _ hw124_2)).trans hw124_2),((HB.out.cell (World.block_lt_of_cell? w _ hw125_0)).trans hw125_0),((HB.out.cell (World.block_lt_of_cell? w _ hw125_1)).trans hw125_1),((HB.out.cell (World.block_lt_of_cell? w _ hw125_2)).trans hw125_2)⟩ (fun hHeld=>?_);clear hK K;refine norm_ (a':=?_) ?_ ?_;rotate_left
                ·show Act.put _ (some 41) _=_
                 simp only [Act.put,sIb,sZ,sS,i64_w,i32_w];rfl
                refine pure_ (i:=4) (N:=some 42) (v:=?_) (a':=?_) #[Y,Y,Y,Y,Y,Z,Z,Z,Z,Z,Z,Z,Z,Z,Z,Z,Z,Z,Z,Z,Z,Z,Z,Z,Z,Z,Z,Z,Z,Z,Z,Z,Z,Z,Z,Z,Z,Z,Z,Z,Z,Z,Z,Z] rfl rfl (any_of HT_.out (by kernel_rfl)) (fun _ _ _ h=>h) (Or.inl ⟨by rfl,?_⟩) ?_ ?_;rotate_left
                ·intro w';go_simp;with_reducible rfl
                rotate_left
                ·simp only [Act.put,sIb,sZ,sS,i64_w,i32_w];rfl
                refine pure_ (i:=5) (N:=some 43) (v:=?_) (a':=?_) #[Y,Y,Y,Y,Y,Y,Z,Z,Z,Z,Z,Z,Z,Z,Z,Z,Z,Z,Z,Z,Z,Z,Z,Z,Z,Z,Z,Z,Z,Z,Z,Z,Z,Z,Z,Z,Z,Z,Z,Z,Z,Z,Z,Z] rfl rfl (any_of HT_.out (by kernel_rfl)) (fun _ _ _ h=>h) (Or.inl ⟨by rfl,?_⟩) ?_ ?_;rotate_left
                ·intro w';go_simp;with_reducible rfl
                rotate_left
                ·simp only [Act.put,sIb,sZ,sS,i64_w,i32_w];rfl
                refine pure_ (i:=6) (N:=some 44) (v:=?_) (a':=?_) #[Y,Y,Y,Y,Y,Y,Y,Z,Z,Z,Z,Z,Z,Z,Z,Z,Z,Z,Z,Z,Z,Z,Z,Z,Z,Z,Z,Z,Z,Z,Z,Z,Z,Z,Z,Z,Z,Z,Z,Z,Z,Z,Z,Z] rfl rfl (any_of HT_.out (by kernel_rfl)) (fun _ _ _ h=>h) (Or.inl ⟨by rfl,?_⟩) ?_ ?_;rotate_left
                ·intro w';go_simp;with_reducible rfl
                rotate_left
                ·simp only [Act.put,sIb,sZ,sS,i64_w,i32_w];rfl
                refine pure_ (i:=7) (N:=some 45) (v:=?_) (a':=?_) #[Y,Y,Y,Y,Y,Y,Y,Y,Z,Z,Z,Z,Z,Z,Z,Z,Z,Z,Z,Z,Z,Z,Z,Z,Z,Z,Z,Z,Z,Z,Z,Z,Z,Z,Z,Z,Z,Z,Z,Z,Z,Z,Z,Z] rfl rfl (any_of HT_.out (by kernel_rfl)) (fun _ _ _ h=>h) (Or.inl ⟨by rfl,?_⟩) ?_ ?_;rotate_left
                ·intro w';go_simp;with_reducible rfl
                rotate_left
                ·simp only [Act.put,sIb,sZ,sS,i64_w,i32_w];rfl
                refine pure_ (i:=8) (N:=some 46) (v:=?_) (a':=?_) #[Y,Y,Y,Y,Y,Y,Y,Y,Y,Z,Z,Z,Z,Z,Z,Z,Z,Z,Z,Z,Z,Z,Z,Z,Z,Z,Z,Z,Z,Z,Z,Z,Z,Z,Z,Z,Z,Z,Z,Z,Z,Z,Z,Z] rfl rfl (any_of HT_.out (by kernel_rfl)) (fun _ _ _ h=>h) (Or.inl ⟨by rfl,?_⟩) ?_ ?_;rotate_left
                ·intro w';go_simp;with_reducible rfl
                rotate_left
                ·simp only [Act.put,sIb,sZ,sS,i64_w,i32_w];rfl
                refine pure_ (i:=10) (N:=some 48) (v:=?_) (a':=?_) #[Y,Y,Y,Y,Y,Y,Y,Y,Y,Z,Y,Z,Z,Z,Z,Z,Z,Z,Z,Z,Z,Z,Z,Z,Z,Z,Z,Z,Z,Z,Z,Z,Z,Z,Z,Z,Z,Z,Z,Z,Z,Z,Z,Z] rfl rfl (any_of HT_.out (by kernel_rfl)) (fun _ _ _ h=>h) (Or.inl ⟨by rfl,?_⟩) ?_ ?_;rotate_left
                ·intro w';go_simp;with_reducible rfl
                rotate_left
                ·simp only [Act.put,sIb,sZ,sS,i64_w,i32_w];rfl
                refine pure_ (i:=11) (N:=some 49) (v:=?_) (a':=?_) #[Y,Y,Y,Y,Y,Y,Y,Y,Y,Z,Y,Y,Z,Z,Z,Z,Z,Z,Z,Z,Z,Z,Z,Z,Z,Z,Z,Z,Z,Z,Z,Z,Z,Z,Z,Z,Z,Z,Z,Z,Z,Z,Z,Z] rfl rfl (any_of HT_.out (by kernel_rfl)) (fun _ _ _ h=>h) (Or.inl ⟨by rfl,?_⟩) ?_ ?_;rotate_left
                ·intro w';go_simp;with_reducible rfl
                rotate_left
                ·simp only [Act.put,sIb,sZ,sS,i64_w,i32_w];rfl
                refine pure_ (i:=15) (N:=some 53) (v:=?_) (a':=?_) #[Y,Y,Y,Y,Y,Y,Y,Y,Y,Z,Y,Y,Z,Z,Z,Y,Z,Z,Z,Z,Z,Z,Z,Z,Z,Z,Z,Z,Z,Z,Z,Z,Z,Z,Z,Z,Z,Z,Z,Z,Z,Z,Z,Z] rfl rfl (any_of HT_.out (by kernel_rfl)) (fun _ _ _ h=>h) (Or.inl ⟨by rfl,?_⟩) ?_ ?_;rotate_left
                ·intro w';go_simp;with_reducible rfl
                rotate_left
                ·simp only [Act.put,sIb,sZ,sS,i64_w,i32_w];rfl
                refine take_ (i:=9) (N:=some 47) (v:=?_) (a':=?_) #[Y,Y,Y,Y,Y,Y,Y,Y,Y,Y,Y,Y,Z,Z,Z,Y,Z,Z,Z,Z,Z,Z,Z,Z,Z,Z,Z,Z,Z,Z,Z,Z,Z,Z,Z,Z,Z,Z,Z,Z,Z,Z,Z,Z] rfl rfl (take_ofW HT_.out HW_.out (by kernel_rfl)) (fun _ _ _ h=>h) (Or.inl ⟨by rfl,?_⟩) hHeld ?_ ?_;rotate_left
                ·rintro w' ⟨s0,s1,s2,s3,s4,s5,s6,s7,s8,s9,s10,s11,s12,s13,s14,s15,s16⟩;go_simp;with_reducible rfl
                rotate_left
                ·simp only [Act.put,sIb,sZ,sS,i64_w,i32_w];rfl
                refine pure_ (i:=12) (N:=some 50) (v:=?_) (a':=?_) #[Y,Y,Y,Y,Y,Y,Y,Y,Y,Y,Y,Y,Y,Z,Z,Y,Z,Z,Z,Z,Z,Z,Z,Z,Z,Z,Z,Z,Z,Z,Z,Z,Z,Z,Z,Z,Z,Z,Z,Z,Z,Z,Z,Z] rfl rfl (any_of HT_.out (by kernel_rfl)) (fun _ _ _ h=>h) (Or.inl ⟨by rfl,?_⟩) ?_ ?_;rotate_left
                ·intro w';go_simp;with_reducible rfl
                rotate_left
                ·simp only [Act.put,sIb,sZ,sS,i64_w,i32_w];rfl
                refine pure_ (i:=13) (N:=some 51) (v:=?_) (a':=?_) #[Y,Y,Y,Y,Y,Y,Y,Y,Y,Y,Y,Y,Y,Y,Z,Y,Z,Z,Z,Z,Z,Z,Z,Z,Z,Z,Z,Z,Z,Z,Z,Z,Z,Z,Z,Z,Z,Z,Z,Z,Z,Z,Z,Z] rfl rfl (any_of HT_.out (by kernel_rfl)) (fun _ _ _ h=>h) (Or.inl ⟨by rfl,?_⟩) ?_ ?_;rotate_left
                ·intro w';go_simp;with_reducible rfl
                rotate_left
                ·simp only [Act.put,sIb,sZ,sS,i64_w,i32_w];rfl
                refine take_ (i:=14) (N:=some 52) (v:=?_) (a':=?_) #[Y,Y,Y,Y,Y,Y,Y,Y,Y,Y,Y,Y,Y,Y,Y,Y,Z,Z,Z,Z,Z,Z,Z,Z,Z,Z,Z,Z,Z,Z,Z,Z,Z,Z,Z,Z,Z,Z,Z,Z,Z,Z,Z,Z] rfl rfl (take_ofW HT_.out HW_.out (by kernel_rfl)) (fun _ _ _ h=>h) (Or.inl ⟨by rfl,?_⟩) hHeld ?_ ?_;rotate_left
                ·rintro w' ⟨s0,s1,s2,s3,s4,s5,s6,s7,s8,s9,s10,s11,s12,s13,s14,s15,s16⟩;go_simp;with_reducible rfl
                rotate_left
                ·simp only [Act.put,sIb,sZ,sS,i64_w,i32_w];rfl
                refine take_ (i:=16) (N:=some 54) (v:=?_) (a':=?_) #[Y,Y,Y,Y,Y,Y,Y,Y,Y,Y,Y,Y,Y,Y,Y,Y,Y,Z,Z,Z,Z,Z,Z,Z,Z,Z,Z,Z,Z,Z,Z,Z,Z,Z,Z,Z,Z,Z,Z,Z,Z,Z,Z,Z] rfl rfl (take_ofW HT_.out HW_.out (by kernel_rfl)) (fun _ _ _ h=>h) (Or.inl ⟨by rfl,?_⟩) hHeld ?_ ?_;rotate_left
                ·rintro w' ⟨s0,s1,s2,s3,s4,s5,s6,s7,s8,s9,s10,s11,s12,s13,s14,s15,s16⟩;go_simp;with_reducible rfl
                rotate_left
                ·simp only [Act.put,sIb,sZ,sS,i64_w,i32_w];rfl
                refine pure_ (i:=17) (N:=some 55) (v:=?_) (a':=?_) #[Y,Y,Y,Y,Y,Y,Y,Y,Y,Y,Y,Y,Y,Y,Y,Y,Y,Y,Z,Z,Z,Z,Z,Z,Z,Z,Z,Z,Z,Z,Z,Z,Z,Z,Z,Z,Z,Z,Z,Z,Z,Z,Z,Z] rfl rfl (any_of HT_.out (by kernel_rfl)) (fun _ _ _ h=>h) (Or.inl ⟨by rfl,?_⟩) ?_ ?_;rotate_left
                ·intro w';go_simp;with_reducible rfl
                rotate_left
                ·simp only [Act.put,sIb,sZ,sS,i64_w,i32_w];rfl
                refine pure_ (i:=18) (N:=some 56) (v:=?_) (a':=?_) #[Y,Y,Y,Y,Y,Y,Y,Y,Y,Y,Y,Y,Y,Y,Y,Y,Y,Y,Y,Z,Z,Z,Z,Z,Z,Z,Z,Z,Z,Z,Z,Z,Z,Z,Z,Z,Z,Z,Z,Z,Z,Z,Z,Z] rfl rfl (any_of HT_.out (by kernel_rfl)) (fun _ _ _ h=>h) (Or.inl ⟨by rfl,?_⟩) ?_ ?_;rotate_left
                ·intro w';go_simp;with_reducible rfl
                rotate_left
                ·simp only [Act.put,sIb,sZ,sS,i64_w,i32_w];rfl
                refine pure_ (i:=19) (N:=some 57) (v:=?_) (a':=?_) #[Y,Y,Y,Y,Y,Y,Y,Y,Y,Y,Y,Y,Y,Y,Y,Y,Y,Y,Y,Y,Z,Z,Z,Z,Z,Z,Z,Z,Z,Z,Z,Z,Z,Z,Z,Z,Z,Z,Z,Z,Z,Z,Z,Z] rfl rfl (any_of HT_.out (by kernel_rfl)) (fun _ _ _ h=>h) (Or.inl ⟨by rfl,?_⟩) ?_ ?_;rotate_left
                ·intro w';go_simp;with_reducible rfl
                rotate_left
                ·simp only [Act.put,sIb,sZ,sS,i64_w,i32_w];rfl
                refine pure_ (i:=21) (N:=some 59) (v:=?_) (a':=?_) #[Y,Y,Y,Y,Y,Y,Y,Y,Y,Y,Y,Y,Y,Y,Y,Y,Y,Y,Y,Y,Z,Y,Z,Z,Z,Z,Z,Z,Z,Z,Z,Z,Z,Z,Z,Z,Z,Z,Z,Z,Z,Z,Z,Z] rfl rfl (any_of HT_.out (by kernel_rfl)) (fun _ _ _ h=>h) (Or.inl ⟨by rfl,?_⟩) ?_ ?_;rotate_left
                ·intro w';go_simp;with_reducible rfl
                rotate_left
                ·simp only [Act.put,sIb,sZ,sS,i64_w,i32_w];rfl
                refine pure_ (i:=22) (N:=some 60) (v:=?_) (a':=?_) #[Y,Y,Y,Y,Y,Y,Y,Y,Y,Y,Y,Y,Y,Y,Y,Y,Y,Y,Y,Y,Z,Y,Y,Z,Z,Z,Z,Z,Z,Z,Z,Z,Z,Z,Z,Z,Z,Z,Z,Z,Z,Z,Z,Z] rfl rfl (any_of HT_.out (by kernel_rfl)) (fun _ _ _ h=>h) (Or.inl ⟨by rfl,?_⟩) ?_ ?_;rotate_left
                ·intro w';go_simp;with_reducible rfl
                rotate_left
                ·simp only [Act.put,sIb,sZ,sS,i64_w,i32_w];rfl
                refine pure_ (i:=26) (N:=some 64) (v:=?_) (a':=?_) #[Y,Y,Y,Y,Y,Y,Y,Y,Y,Y,Y,Y,Y,Y,Y,Y,Y,Y,Y,Y,Z,Y,Y,Z,Z,Z,Y,Z,Z,Z,Z,Z,Z,Z,Z,Z,Z,Z,Z,Z,Z,Z,Z,Z] rfl rfl (any_of HT_.out (by kernel_rfl)) (fun _ _ _ h=>h) (Or.inl ⟨by rfl,?_⟩) ?_ ?_;rotate_left
                ·intro w';go_simp;with_reducible rfl
                rotate_left
                ·simp only [Act.put,sIb,sZ,sS,i64_w,i32_w];rfl
                refine take_ (i:=20) (N:=some 58) (v:=?_) (a':=?_) #[Y,Y,Y,Y,Y,Y,Y,Y,Y,Y,Y,Y,Y,Y,Y,Y,Y,Y,Y,Y,Y,Y,Y,Z,Z,Z,Y,Z,Z,Z,Z,Z,Z,Z,Z,Z,Z,Z,Z,Z,Z,Z,Z,Z] rfl rfl (take_ofW HT_.out HW_.out (by kernel_rfl)) (fun _ _ _ h=>h) (Or.inl ⟨by rfl,?_⟩) hHeld ?_ ?_;rotate_left
                ·rintro w' ⟨s0,s1,s2,s3,s4,s5,s6,s7,s8,s9,s10,s11,s12,s13,s14,s15,s16⟩;go_simp;with_reducible rfl
                rotate_left
                ·simp only [Act.put,sIb,sZ,sS,i64_w,i32_w];rfl
                refine pure_ (i:=23) (N:=some 61) (v:=?_) (a':=?_) #[Y,Y,Y,Y,Y,Y,Y,Y,Y,Y,Y,Y,Y,Y,Y,Y,Y,Y,Y,Y,Y,Y,Y,Y,Z,Z,Y,Z,Z,Z,Z,Z,Z,Z,Z,Z,Z,Z,Z,Z,Z,Z,Z,Z] rfl rfl (any_of HT_.out (by kernel_rfl)) (fun _ _ _ h=>h) (Or.inl ⟨by rfl,?_⟩) ?_ ?_;rotate_left
                ·intro w';go_simp;with_reducible rfl
                rotate_left
                ·simp only [Act.put,sIb,sZ,sS,i64_w,i32_w];rfl
                refine pure_ (i:=24) (N:=some 62) (v:=?_) (a':=?_) #[Y,Y,Y,Y,Y,Y,Y,Y,Y,Y,Y,Y,Y,Y,Y,Y,Y,Y,Y,Y,Y,Y,Y,Y,Y,Z,Y,Z,Z,Z,Z,Z,Z,Z,Z,Z,Z,Z,Z,Z,Z,Z,Z,Z] rfl rfl (any_of HT_.out (by kernel_rfl)) (fun _ _ _ h=>h) (Or.inl ⟨by rfl,?_⟩) ?_ ?_;rotate_left
                ·intro w';go_simp;with_reducible rfl
                rotate_left
                ·simp only [Act.put,sIb,sZ,sS,i64_w,i32_w];rfl
                refine take_ (i:=25) (N:=some 63) (v:=?_) (a':=?_) #[Y,Y,Y,Y,Y,Y,Y,Y,Y,Y,Y,Y,Y,Y,Y,Y,Y,Y,Y,Y,Y,Y,Y,Y,Y,Y,Y,Z,Z,Z,Z,Z,Z,Z,Z,Z,Z,Z,Z,Z,Z,Z,Z,Z] rfl rfl (take_ofW HT_.out HW_.out (by kernel_rfl)) (fun _ _ _ h=>h) (Or.inl ⟨by rfl,?_⟩) hHeld ?_ ?_;rotate_left
                ·rintro w' ⟨s0,s1,s2,s3,s4,s5,s6,s7,s8,s9,s10,s11,s12,s13,s14,s15,s16⟩;go_simp;with_reducible rfl
                rotate_left
                ·simp only [Act.put,sIb,sZ,sS,i64_w,i32_w];rfl
                refine take_ (i:=27) (N:=some 65) (v:=?_) (a':=?_) #[Y,Y,Y,Y,Y,Y,Y,Y,Y,Y,Y,Y,Y,Y,Y,Y,Y,Y,Y,Y,Y,Y,Y,Y,Y,Y,Y,Y,Z,Z,Z,Z,Z,Z,Z,Z,Z,Z,Z,Z,Z,Z,Z,Z] rfl rfl (take_ofW HT_.out HW_.out (by kernel_rfl)) (fun _ _ _ h=>h) (Or.inl ⟨by rfl,?_⟩) hHeld ?_ ?_;rotate_left
                ·rintro w' ⟨s0,s1,s2,s3,s4,s5,s6,s7,s8,s9,s10,s11,s12,s13,s14,s15,s16⟩;go_simp;with_reducible rfl
                rotate_left
                ·simp only [Act.put,sIb,sZ,sS,i64_w,i32_w];rfl
                refine pure_ (i:=28) (N:=some 66) (v:=?_) (a':=?_) #[Y,Y,Y,Y,Y,Y,Y,Y,Y,Y,Y,Y,Y,Y,Y,Y,Y,Y,Y,Y,Y,Y,Y,Y,Y,Y,Y,Y,Y,Z,Z,Z,Z,Z,Z,Z,Z,Z,Z,Z,Z,Z,Z,Z] rfl rfl (any_of HT_.out (by kernel_rfl)) (fun _ _ _ h=>h) (Or.inl ⟨by rfl,?_⟩) ?_ ?_;rotate_left
                ·intro w';go_simp;with_reducible rfl
                rotate_left
                ·simp only [Act.put,sIb,sZ,sS,i64_w,i32_w];rfl
                refine pure_ (i:=29) (N:=some 67) (v:=?_) (a':=?_) #[Y,Y,Y,Y,Y,Y,Y,Y,Y,Y,Y,Y,Y,Y,Y,Y,Y,Y,Y,Y,Y,Y,Y,Y,Y,Y,Y,Y,Y,Y,Z,Z,Z,Z,Z,Z,Z,Z,Z,Z,Z,Z,Z,Z] rfl rfl (any_of HT_.out (by kernel_rfl)) (fun _ _ _ h=>h) (Or.inl ⟨by rfl,?_⟩) ?_ ?_;rotate_left
                ·intro w';go_simp;with_reducible rfl
                rotate_left
                ·simp only [Act.put,sIb,sZ,sS,i64_w,i32_w];rfl
                refine pure_ (i:=30) (N:=some 68) (v:=?_) (a':=?_) #[Y,Y,Y,Y,Y,Y,Y,Y,Y,Y,Y,Y,Y,Y,Y,Y,Y,Y,Y,Y,Y,Y,Y,Y,Y,Y,Y,Y,Y,Y,Y,Z,Z,Z,Z,Z,Z,Z,Z,Z,Z,Z,Z,Z] rfl rfl (any_of HT_.out (by kernel_rfl)) (fun _ _ _ h=>h) (Or.inl ⟨by rfl,?_⟩) ?_ ?_;rotate_left
                ·intro w';go_simp;with_reducible rfl
                rotate_left
                ·simp only [Act.put,sIb,sZ,sS,i64_w,i32_w];rfl
                refine pure_ (i:=32) (N:=some 70) (v:=?_) (a':=?_) #[Y,Y,Y,Y,Y,Y,Y,Y,Y,Y,Y,Y,Y,Y,Y,Y,Y,Y,Y,Y,Y,Y,Y,Y,Y,Y,Y,Y,Y,Y,Y,Z,Y,Z,Z,Z,Z,Z,Z,Z,Z,Z,Z,Z] rfl rfl (any_of HT_.out (by kernel_rfl)) (fun _ _ _ h=>h) (Or.inl ⟨by rfl,?_⟩) ?_ ?_;rotate_left
                ·intro w';go_simp;with_reducible rfl
                rotate_left
                ·simp only [Act.put,sIb,sZ,sS,i64_w,i32_w];rfl
                refine pure_ (i:=33) (N:=some 71) (v:=?_) (a':=?_) #[Y,Y,Y,Y,Y,Y,Y,Y,Y,Y,Y,Y,Y,Y,Y,Y,Y,Y,Y,Y,Y,Y,Y,Y,Y,Y,Y,Y,Y,Y,Y,Z,Y,Y,Z,Z,Z,Z,Z,Z,Z,Z,Z,Z] rfl rfl (any_of HT_.out (by kernel_rfl)) (fun _ _ _ h=>h) (Or.inl ⟨by rfl,?_⟩) ?_ ?_;rotate_left
                ·intro w';go_simp;with_reducible rfl
                rotate_left
                ·simp only [Act.put,sIb,sZ,sS,i64_w,i32_w];rfl
                refine pure_ (i:=37) (N:=some 75) (v:=?_) (a':=?_) #[Y,Y,Y,Y,Y,Y,Y,Y,Y,Y,Y,Y,Y,Y,Y,Y,Y,Y,Y,Y,Y,Y,Y,Y,Y,Y,Y,Y,Y,Y,Y,Z,Y,Y,Z,Z,Z,Y,Z,Z,Z,Z,Z,Z] rfl rfl (any_of HT_.out (by kernel_rfl)) (fun _ _ _ h=>h) (Or.inl ⟨by rfl,?_⟩) ?_ ?_;rotate_left
                ·intro w';go_simp;with_reducible rfl
                rotate_left
                ·simp only [Act.put,sIb,sZ,sS,i64_w,i32_w];rfl
                refine take_ (i:=31) (N:=some 69) (v:=?_) (a':=?_) #[Y,Y,Y,Y,Y,Y,Y,Y,Y,Y,Y,Y,Y,Y,Y,Y,Y,Y,Y,Y,Y,Y,Y,Y,Y,Y,Y,Y,Y,Y,Y,Y,Y,Y,Z,Z,Z,Y,Z,Z,Z,Z,Z,Z] rfl rfl (take_ofW HT_.out HW_.out (by kernel_rfl)) (fun _ _ _ h=>h) (Or.inl ⟨by rfl,?_⟩) hHeld ?_ ?_;rotate_left
                ·rintro w' ⟨s0,s1,s2,s3,s4,s5,s6,s7,s8,s9,s10,s11,s12,s13,s14,s15,s16⟩;go_simp;with_reducible rfl
                rotate_left
                ·simp only [Act.put,sIb,sZ,sS,i64_w,i32_w];rfl
                refine pure_ (i:=34) (N:=some 72) (v:=?_) (a':=?_) #[Y,Y,Y,Y,Y,Y,Y,Y,Y,Y,Y,Y,Y,Y,Y,Y,Y,Y,Y,Y,Y,Y,Y,Y,Y,Y,Y,Y,Y,Y,Y,Y,Y,Y,Y,Z,Z,Y,Z,Z,Z,Z,Z,Z] rfl rfl (any_of HT_.out (by kernel_rfl)) (fun _ _ _ h=>h) (Or.inl ⟨by rfl,?_⟩) ?_ ?_;rotate_left
                ·intro w';go_simp;with_reducible rfl
                rotate_left
                ·simp only [Act.put,sIb,sZ,sS,i64_w,i32_w];rfl
                refine pure_ (i:=35) (N:=some 73) (v:=?_) (a':=?_) #[Y,Y,Y,Y,Y,Y,Y,Y,Y,Y,Y,Y,Y,Y,Y,Y,Y,Y,Y,Y,Y,Y,Y,Y,Y,Y,Y,Y,Y,Y,Y,Y,Y,Y,Y,Y,Z,Y,Z,Z,Z,Z,Z,Z] rfl rfl (any_of HT_.out (by kernel_rfl)) (fun _ _ _ h=>h) (Or.inl ⟨by rfl,?_⟩) ?_ ?_;rotate_left
                ·intro w';go_simp;with_reducible rfl
                rotate_left
                ·simp only [Act.put,sIb,sZ,sS,i64_w,i32_w];rfl
                refine take_ (i:=36) (N:=some 74) (v:=?_) (a':=?_) #[Y,Y,Y,Y,Y,Y,Y,Y,Y,Y,Y,Y,Y,Y,Y,Y,Y,Y,Y,Y,Y,Y,Y,Y,Y,Y,Y,Y,Y,Y,Y,Y,Y,Y,Y,Y,Y,Y,Z,Z,Z,Z,Z,Z] rfl rfl (take_ofW HT_.out HW_.out (by kernel_rfl)) (fun _ _ _ h=>h) (Or.inl ⟨by rfl,?_⟩) hHeld ?_ ?_;rotate_left
                ·rintro w' ⟨s0,s1,s2,s3,s4,s5,s6,s7,s8,s9,s10,s11,s12,s13,s14,s15,s16⟩;go_simp;with_reducible rfl
                rotate_left
                ·simp only [Act.put,sIb,sZ,sS,i64_w,i32_w];rfl
                refine take_ (i:=38) (N:=some 76) (v:=?_) (a':=?_) #[Y,Y,Y,Y,Y,Y,Y,Y,Y,Y,Y,Y,Y,Y,Y,Y,Y,Y,Y,Y,Y,Y,Y,Y,Y,Y,Y,Y,Y,Y,Y,Y,Y,Y,Y,Y,Y,Y,Y,Z,Z,Z,Z,Z] rfl rfl (take_ofW HT_.out HW_.out (by kernel_rfl)) (fun _ _ _ h=>h) (Or.inl ⟨by rfl,?_⟩) hHeld ?_ ?_;rotate_left
                ·rintro w' ⟨s0,s1,s2,s3,s4,s5,s6,s7,s8,s9,s10,s11,s12,s13,s14,s15,s16⟩;go_simp;with_reducible rfl
                rotate_left
                ·simp only [Act.put,sIb,sZ,sS,i64_w,i32_w];rfl
                refine pure_ (i:=39) (N:=some 77) (v:=?_) (a':=?_) #[Y,Y,Y,Y,Y,Y,Y,Y,Y,Y,Y,Y,Y,Y,Y,Y,Y,Y,Y,Y,Y,Y,Y,Y,Y,Y,Y,Y,Y,Y,Y,Y,Y,Y,Y,Y,Y,Y,Y,Y,Z,Z,Z,Z] rfl rfl (any_of HT_.out (by kernel_rfl)) (fun _ _ _ h=>h) (Or.inl ⟨by rfl,?_⟩) ?_ ?_;rotate_left
                ·intro w';go_simp;with_reducible rfl
                rotate_left
                ·simp only [Act.put,sIb,sZ,sS,i64_w,i32_w];rfl
                refine pure_ (i:=40) (N:=some 78) (v:=?_) (a':=?_) #[Y,Y,Y,Y,Y,Y,Y,Y,Y,Y,Y,Y,Y,Y,Y,Y,Y,Y,Y,Y,Y,Y,Y,Y,Y,Y,Y,Y,Y,Y,Y,Y,Y,Y,Y,Y,Y,Y,Y,Y,Y,Z,Z,Z] rfl rfl (any_of HT_.out (by kernel_rfl)) (fun _ _ _ h=>h) (Or.inl ⟨by rfl,?_⟩) ?_ ?_;rotate_left
                ·intro w';go_simp;with_reducible rfl
                rotate_left
                ·simp only [Act.put,sIb,sZ,sS,i64_w,i32_w];rfl
                refine pure_ (i:=41) (N:=some 79) (v:=?_) (a':=?_) #[Y,Y,Y,Y,Y,Y,Y,Y,Y,Y,Y,Y,Y,Y,Y,Y,Y,Y,Y,Y,Y,Y,Y,Y,Y,Y,Y,Y,Y,Y,Y,Y,Y,Y,Y,Y,Y,Y,Y,Y,Y,Y,Z,Z] rfl rfl (any_of HT_.out (by kernel_rfl)) (fun _ _ _ h=>h) (Or.inl ⟨by rfl,?_⟩) ?_ ?_;rotate_left
                ·intro w';go_simp;with_reducible rfl
                rotate_left
                ·simp only [Act.put,sIb,sZ,sS,i64_w,i32_w];rfl
                refine pure_ (i:=42) (N:=some 80) (v:=?_) (a':=?_) #[Y,Y,Y,Y,Y,Y,Y,Y,Y,Y,Y,Y,Y,Y,Y,Y,Y,Y,Y,Y,Y,Y,Y,Y,Y,Y,Y,Y,Y,Y,Y,Y,Y,Y,Y,Y,Y,Y,Y,Y,Y,Y,Y,Z] rfl rfl (any_of HT_.out (by kernel_rfl)) (fun _ _ _ h=>h) (Or.inl ⟨by rfl,?_⟩) ?_ ?_;rotate_left
                ·intro w';go_simp;with_reducible rfl
                rotate_left
                ·simp only [Act.put,sIb,sZ,sS,i64_w,i32_w];rfl
                refine pure_ (i:=43) (N:=some 81) (v:=?_) (a':=?_) #[Y,Y,Y,Y,Y,Y,Y,Y,Y,Y,Y,Y,Y,Y,Y,Y,Y,Y,Y,Y,Y,Y,Y,Y,Y,Y,Y,Y,Y,Y,Y,Y,Y,Y,Y,Y,Y,Y,Y,Y,Y,Y,Y,Y] rfl rfl (any_of HT_.out (by kernel_rfl)) (fun _ _ _ h=>h) (Or.inl ⟨by rfl,?_⟩) ?_ ?_;rotate_left
                ·intro w';go_simp;with_reducible rfl
                rotate_left
                ·simp only [Act.put,sIb,sZ,sS,i64_w,i32_w];rfl
                refine done_ (done_of HT_.out (by kernel_rfl)) ?_;try go_wp2
                go_meet
                case rel=>exact ⟨_,(decide (((rd_T47 l0_0 (ji36)).f2) ≥ ((rd_T47 l0_0 x33_2).f2))),(by first|rfl|(simp;done)|(simp only [← hji36] <;> (first|rfl|simp))|(simp [*];done)),H',⟨by have:=HJ1.out;have:=HK2.out;first|omega|exact Nat.le_refl _⟩,⟨by (with_reducible repeat (first|refine qN ?_ _|refine qW ?_|refine qL ?_ _));exact BK116.out⟩,⟨by (with_reducible repeat (first|refine qN ?_ _|refine qW ?_|refine qL ?_ _));exact BK121.out⟩,⟨by repeat (first|(with_reducible first|exact HB.out|apply qA|apply qD|apply qO|refine qS ?_ GE116.out|refine qS ?_ GE121.out)|exact HB.out)⟩⟩
               ·rw [if_neg c43] at H;have c43b0:(((rd_T47 l0_0 (ji36)).f0) == ((rd_T47 l0_0 x33_2).f0))=false:=beq_eq_false_iff_ne.mpr c43;have c43b1:(((rd_T47 l0_0 (ji36)).f0) != ((rd_T47 l0_0 x33_2).f0))=true:=bne_iff_ne.mpr c43;have H':=qK H;clear H;try go_wp2
                have n0_:Aside0 ((((w27.setCell ⟨gb121,0,none⟩ (.int .i64 ((rd_T47 l0_0 x33_2).f0))).setCell ⟨gb121,1,none⟩ (.int .i64 ((rd_T47 l0_0 x33_2).f1))).setCell ⟨gb121,2,none⟩ (.int .i64 ((rd_T47 l0_0 x33_2).f2))).heap[gb116]?=some (.cells #[.slice (some ad120) l0_0.length c0_0,.slice A0_1 l0_1.length c0_1,.slice A0_2 l0_2.length c0_2,.slice A0_3 l0_3.length c0_3,.slice A0_4 l0_4.length c0_4] 31 (0,0))):=⟨by (with_reducible repeat (first|refine qN ?_ _|refine qW ?_|refine qL ?_ _));refine qR ?_ NB116_121.out _;(with_reducible repeat (first|refine qN ?_ _|refine qW ?_|refine qL ?_ _));refine qR ?_ NB116_121.out _;(with_reducible repeat (first|refine qN ?_ _|refine qW ?_|refine qL ?_ _));refine qR ?_ NB116_121.out _;(with_reducible repeat (first|refine qN ?_ _|refine qW ?_|refine qL ?_ _));exact BK116.out⟩;have n1_:Aside0 ((((w27.setCell ⟨gb121,0,none⟩ (.int .i64 ((rd_T47 l0_0 x33_2).f0))).setCell ⟨gb121,1,none⟩ (.int .i64 ((rd_T47 l0_0 x33_2).f1))).setCell ⟨gb121,2,none⟩ (.int .i64 ((rd_T47 l0_0 x33_2).f2))).heap[gb121]?=some (.cells #[.int .i64 ((rd_T47 l0_0 x33_2).f0),.int .i64 ((rd_T47 l0_0 x33_2).f1),.int .i64 ((rd_T47 l0_0 x33_2).f2)] 47 (0,0))):=⟨by (with_reducible repeat (first|refine qN ?_ _|refine qW ?_|refine qL ?_ _));refine qP (cs:=#[.int .i64 ((rd_T47 l0_0 x33_2).f0),.int .i64 ((rd_T47 l0_0 x33_2).f1),.int .i64 0]) ?_ 2 _ rfl;(with_reducible repeat (first|refine qN ?_ _|refine qW ?_|refine qL ?_ _));refine qP (cs:=#[.int .i64 ((rd_T47 l0_0 x33_2).f0),.int .i64 0,.int .i64 0]) ?_ 1 _ rfl;(with_reducible repeat (first|refine qN ?_ _|refine qW ?_|refine qL ?_ _));refine qP (cs:=#[.int .i64 0,.int .i64 0,.int .i64 0]) ?_ 0 _ rfl;(with_reducible repeat (first|refine qN ?_ _|refine qW ?_|refine qL ?_ _));exact BK121.out⟩;have n2_:Aside0 (Below w.heap.size w (((w27.setCell ⟨gb121,0,none⟩ (.int .i64 ((rd_T47 l0_0 x33_2).f0))).setCell ⟨gb121,1,none⟩ (.int .i64 ((rd_T47 l0_0 x33_2).f1))).setCell ⟨gb121,2,none⟩ (.int .i64 ((rd_T47 l0_0 x33_2).f2)))):=⟨by repeat (first|(with_reducible first|exact HB.out|apply qA|apply qD|apply qO|refine qS ?_ GE116.out|refine qS ?_ GE121.out)|exact HB.out)⟩;(try clear BK116);(try clear BK121);(try clear HB);generalize (((w27.setCell ⟨gb121,0,none⟩ (.int .i64 ((rd_T47 l0_0 x33_2).f0))).setCell ⟨gb121,1,none⟩ (.int .i64 ((rd_T47 l0_0 x33_2).f1))).setCell ⟨gb121,2,none⟩ (.int .i64 ((rd_T47 l0_0 x33_2).f2)))=w47 at n0_ n1_ n2_ ⊢
                have BK116:=n0_;have BK121:=n1_;have HB:=n2_;clear n0_ n1_ n2_;(try (rw [drewN_self w47];generalize hq_:World.drewN w47 _=w47;have n0_:Aside0 (w47.heap[gb116]?=some (.cells #[.slice (some ad120) l0_0.length c0_0,.slice A0_1 l0_1.length c0_1,.slice A0_2 l0_2.length c0_2,.slice A0_3 l0_3.length c0_3,.slice A0_4 l0_4.length c0_4] 31 (0,0))):=⟨by rw [← hq_];exact (by (with_reducible repeat (first|refine qN ?_ _|refine qW ?_|refine qL ?_ _));exact BK116.out)⟩;have n1_:Aside0 (w47.heap[gb121]?=some (.cells #[.int .i64 ((rd_T47 l0_0 x33_2).f0),.int .i64 ((rd_T47 l0_0 x33_2).f1),.int .i64 ((rd_T47 l0_0 x33_2).f2)] 47 (0,0))):=⟨by rw [← hq_];exact (by (with_reducible repeat (first|refine qN ?_ _|refine qW ?_|refine qL ?_ _));exact BK121.out)⟩;have n2_:Aside0 (Below w.heap.size w w47):=⟨by rw [← hq_];exact (by repeat (with_reducible first|exact HB.out|apply qA|apply qD|apply qO|refine qS ?_ GE116.out|refine qS ?_ GE121.out))⟩;clear BK116 BK121 HB hq_;have BK116:=n0_;have BK121:=n1_;have HB:=n2_;clear n0_ n1_ n2_));have n0_:=qK (qW BK116.out);have n1_:=qK (qW BK121.out);have n2_:=qK (qO HB.out);clear BK116;clear BK121;clear HB;have BK116:=n0_;have BK121:=n1_;have HB:=n2_;clear n0_ n1_ n2_;have p123:0≤((ji36):Int):=of_decide_eq_true (by first|(with_reducible assumption)|assumption);have q123:(ji36) < (l0_0.length:Int):=of_decide_eq_true (by first|(with_reducible assumption)|assumption);obtain ⟨ad123,e123,hx123_0,hx123_1,hx123_2⟩:=at_T47 HR0_0.out (ji36) p123 q123;have hw123_2:=hx123_2;have hw123_1:=hx123_1;have hw123_0:=hx123_0;obtain rfl:ad120=ad123:=(by injection e123);replace hx123_0:=(HB.out.cell (World.block_lt_of_cell? w _ hx123_0)).trans hx123_0;replace hx123_1:=(HB.out.cell (World.block_lt_of_cell? w _ hx123_1)).trans hx123_1;replace hx123_2:=(HB.out.cell (World.block_lt_of_cell? w _ hx123_2)).trans hx123_2;replace p123:=eq_true p123;replace q123:=eq_true q123;have p124:0≤((ji36):Int):=of_decide_eq_true (by first|(with_reducible assumption)|assumption);have q124:(ji36) < (l0_0.length:Int):=of_decide_eq_true (by first|(with_reducible assumption)|assumption);obtain ⟨ad124,e124,hx124_0,hx124_1,hx124_2⟩:=at_T47 HR0_0.out (ji36) p124 q124;have hw124_2:=hx124_2;have hw124_1:=hx124_1;have hw124_0:=hx124_0;obtain rfl:ad120=ad124:=(by injection e124);replace hx124_0:=(HB.out.cell (World.block_lt_of_cell? w _ hx124_0)).trans hx124_0;replace hx124_1:=(HB.out.cell (World.block_lt_of_cell? w _ hx124_1)).trans hx124_1;replace hx124_2:=(HB.out.cell (World.block_lt_of_cell? w _ hx124_2)).trans hx124_2;replace p124:=eq_true p124;replace q124:=eq_true q124;refine start_ (n:=44) (S:=fun w'=>w'.cell? ⟨gb116,0,none⟩=some (.slice (some ad120) l0_0.length c0_0)∧w'.cell? ⟨gb116,1,none⟩=some (.slice A0_1 l0_1.length c0_1)∧w'.cell? ⟨gb116,2,none⟩=some (.slice A0_2 l0_2.length c0_2)∧w'.cell? ⟨gb116,3,none⟩=some (.slice A0_3 l0_3.length c0_3)∧w'.cell? ⟨gb116,4,none⟩=some (.slice A0_4 l0_4.length c0_4)∧w'.cell? ⟨gb121,0,none⟩=some (.int .i64 ((rd_T47 l0_0 x33_2).f0))∧w'.cell? ⟨gb121,1,none⟩=some (.int .i64 ((rd_T47 l0_0 x33_2).f1))∧w'.cell? ⟨gb121,2,none⟩=some (.int .i64 ((rd_T47 l0_0 x33_2).f2))∧w'.cell? (ad120.add (((ji36)).toNat * 3))=some (.int .i64 ((rd_T47 l0_0 (ji36)).f0))∧w'.cell? ⟨(ad120.add (((ji36)).toNat * 3)).block,(ad120.add (((ji36)).toNat * 3)).off + 1,none⟩=some (.int .i64 ((rd_T47 l0_0 (ji36)).f1))∧w'.cell? ⟨(ad120.add (((ji36)).toNat * 3)).block,(ad120.add (((ji36)).toNat * 3)).off + 2,none⟩=some (.int .i64 ((rd_T47 l0_0 (ji36)).f2))∧w'.cell? (ad120.add (((ji36)).toNat * 3))=some (.int .i64 ((rd_T47 l0_0 (ji36)).f0))∧w'.cell? ⟨(ad120.add (((ji36)).toNat * 3)).block,(ad120.add (((ji36)).toNat * 3)).off + 1,none⟩=some (.int .i64 ((rd_T47 l0_0 (ji36)).f1))∧w'.cell? ⟨(ad120.add (((ji36)).toNat * 3)).block,(ad120.add (((ji36)).toNat * 3)).off + 2,none⟩=some (.int .i64 ((rd_T47 l0_0 (ji36)).f2))) (ds:=[]) #[Z,Z,Z,Z,Z,Z,Z,Z,Z,Z,Z,Z,Z,Z,Z,Z,Z,Z,Z,Z,Z,Z,Z,Z,Z,Z,Z,Z,Z,Z,Z,Z,Z,Z,Z,Z,Z,Z,Z,Z,Z,Z,Z,Z] (by kernel_rfl) rfl rfl ⟨(qC BK116.out 0).trans rfl,(qC BK116.out 1).trans rfl,(qC BK116.out 2).trans rfl,(qC BK116.out 3).trans rfl,(qC BK116.out 4).trans rfl,(qC BK121.out 0).trans rfl,(qC BK121.out 1).trans rfl,(qC BK121.out 2).trans rfl,((HB.out.cell (World.block_lt_of_cell? w _ hw123_0)).trans hw123_0),((HB.out.cell (World.block_lt_of_cell? w _ hw123_1)).trans hw123_1),((HB.out.cell (World.block_lt_of_cell? w _ hw123_2)).trans hw123_2),((HB.out.cell (World.block_lt_of_cell? w _ hw124_0)).trans hw124_0),((HB.out.cell (World.block_lt_of_cell? w _ hw124_1)).trans hw124_1),((HB.out.cell (World.block_lt_of_cell? w _ hw124_2)).trans hw124_2)⟩ (fun hHeld=>?_);refine with_tabW spec_GoodLocks.tab6 spec_GoodLocks.bits6 (fun HT_ HW_=>?_);generalize w47.drew=w48 at BK116 BK121 HB hx123_0 hx123_1 hx123_2 hx124_0 hx124_1 hx124_2 hHeld ⊢
                refine pure_ (i:=1) (N:=some 39) (v:=?_) (a':=?_) #[Z,Y,Z,Z,Z,Z,Z,Z,Z,Z,Z,Z,Z,Z,Z,Z,Z,Z,Z,Z,Z,Z,Z,Z,Z,Z,Z,Z,Z,Z,Z,Z,Z,Z,Z,Z,Z,Z,Z,Z,Z,Z,Z,Z] rfl rfl (any_of HT_.out (by kernel_rfl)) (fun _ _ _ h=>h) (Or.inl ⟨by rfl,?_⟩) ?_ ?_;rotate_left
                ·intro w';go_simp;with_reducible rfl
                rotate_left
                ·simp only [Act.put,sIb,sZ,sS,i64_w,i32_w];rfl
                refine take_ (i:=0) (N:=some 38) (v:=?_) (a':=?_) #[Y,Y,Z,Z,Z,Z,Z,Z,Z,Z,Z,Z,Z,Z,Z,Z,Z,Z,Z,Z,Z,Z,Z,Z,Z,Z,Z,Z,Z,Z,Z,Z,Z,Z,Z,Z,Z,Z,Z,Z,Z,Z,Z,Z] rfl rfl (take_ofW HT_.out HW_.out (by kernel_rfl)) (fun _ _ _ h=>h) (Or.inl ⟨by rfl,?_⟩) hHeld ?_ ?_;rotate_left
                ·rintro w' ⟨s0,s1,s2,s3,s4,s5,s6,s7,s8,s9,s10,s11,s12,s13⟩;go_simp;with_reducible rfl
                rotate_left
                ·simp only [Act.put,sIb,sZ,sS,i64_w,i32_w];rfl
                refine take_ (i:=2) (N:=some 40) (v:=?_) (a':=?_) #[Y,Y,Y,Z,Z,Z,Z,Z,Z,Z,Z,Z,Z,Z,Z,Z,Z,Z,Z,Z,Z,Z,Z,Z,Z,Z,Z,Z,Z,Z,Z,Z,Z,Z,Z,Z,Z,Z,Z,Z,Z,Z,Z,Z] rfl rfl (take_ofW HT_.out HW_.out (by kernel_rfl)) (fun _ _ _ h=>h) (Or.inl ⟨by rfl,?_⟩) hHeld ?_ ?_;rotate_left
                ·rintro w' ⟨s0,s1,s2,s3,s4,s5,s6,s7,s8,s9,s10,s11,s12,s13⟩;go_simp;with_reducible rfl
                rotate_left
                ·simp only [Act.put,sIb,sZ,sS,i64_w,i32_w];rfl
                refine one_ (i:=3) (N:=some 41) #[Y,Y,Y,Y,Z,Z,Z,Z,Z,Z,Z,Z,Z,Z,Z,Z,Z,Z,Z,Z,Z,Z,Z,Z,Z,Z,Z,Z,Z,Z,Z,Z,Z,Z,Z,Z,Z,Z,Z,Z,Z,Z,Z,Z] rfl rfl (one_of HT_.out (by kernel_rfl)) (by decide) (fun K hK=>?_);refine goes_ Try.func38 (by kernel_rfl) rfl #[.agg #[.slice (some ad120) l0_0.length c0_0,.slice A0_1 l0_1.length c0_1,.slice A0_2 l0_2.length c0_2,.slice A0_3 l0_3.length c0_3,.slice A0_4 l0_4.length c0_4],.int .i64 ((rd_T47 l0_0 x33_2).f0)] (by rfl) rfl rfl (by (try simp only [mT,mC,mN]);first|done|rfl|(simp only [lD,lT];rfl)) ?_;with_reducible refine (spec_l14Ended.calls k2 _ _ l0_0 _ _ l0_1 _ _ l0_2 _ _ l0_3 _ _ l0_4 ((rd_T47 l0_0 x33_2).f0) false _ ?side1 ?side2 ?side3 ?side4 ?side5 ?side6 ?side7 ?side8 ?side9 ?side10 A30.out).mono ?_
                (case side1=>repeat (first|exact (cB HR0_0.out HB.out)|(with_reducible first|refine cL ?_ _|refine cN ?_ _|refine cW ?_)));(case side2=>exact HC0_0.out);(case side3=>repeat (first|exact (cB HR0_1.out HB.out)|(with_reducible first|refine cL ?_ _|refine cN ?_ _|refine cW ?_)));(case side4=>exact HC0_1.out);(case side5=>repeat (first|exact (cB HR0_2.out HB.out)|(with_reducible first|refine cL ?_ _|refine cN ?_ _|refine cW ?_)));(case side6=>exact HC0_2.out);(case side7=>repeat (first|exact (cB HR0_3.out HB.out)|(with_reducible first|refine cL ?_ _|refine cN ?_ _|refine cW ?_)));(case side8=>exact HC0_3.out);(case side9=>repeat (first|exact (cB HR0_4.out HB.out)|(with_reducible first|refine cL ?_ _|refine cN ?_ _|refine cW ?_)));(case side10=>exact HC0_4.out);rintro e w49 ⟨rfl,hb⟩;refine ⟨_,rfl,?_⟩;have n0_:=qK (qB (g:=gb116) (o:=_) (by (with_reducible repeat (first|refine qN ?_ _|refine qW ?_|refine qL ?_ _));exact BK116.out) hb);have n1_:=qK (qB (g:=gb121) (o:=_) (by (with_reducible repeat (first|refine qN ?_ _|refine qW ?_|refine qL ?_ _));exact BK121.out) hb);have n2_:=qK (qT (by repeat (with_reducible first|exact HB.out|apply qA|apply qD|apply qO|refine qS ?_ GE116.out|refine qS ?_ GE121.out)) hb);clear BK116;clear BK121;clear HB;have BK116:=n0_;have BK121:=n1_;have HB:=n2_;clear n0_ n1_ n2_;(try clear hb);refine hK.out _ _ ⟨(qC BK116.out 0).trans rfl,(qC BK116.out 1).trans rfl,(qC BK116.out 2).trans rfl,(qC BK116.out 3).trans rfl,(qC BK116.out 4).trans rfl,(qC BK121.out 0).trans rfl,(qC BK121.out 1).trans rfl,(qC BK121.out 2).trans rfl,((HB.out.cell (World.block_lt_of_cell? w _ hw123_0)).trans hw123_0),((HB.out.cell (World.block_lt_of_cell? w _ hw123_1)).trans hw123_1),((HB.out.cell (World.block_lt_of_cell? w _ hw123_2)).trans hw123_2),((HB.out.cell (World.block_lt_of_cell? w _ hw124_0)).trans hw124_0),((HB.out.cell (World.block_lt_of_cell? w _ hw124_1)).trans hw124_1),((HB.out.cell (World.block_lt_of_cell? w _ hw124_2)).trans hw124_2)⟩ (fun hHeld=>?_);clear hK K;refine norm_ (a':=?_) ?_ ?_;rotate_left
                ·show Act.put _ (some 41) _=_
                 simp only [Act.put,sIb,sZ,sS,i64_w,i32_w];rfl
                refine pure_ (i:=4) (N:=some 42) (v:=?_) (a':=?_) #[Y,Y,Y,Y,Y,Z,Z,Z,Z,Z,Z,Z,Z,Z,Z,Z,Z,Z,Z,Z,Z,Z,Z,Z,Z,Z,Z,Z,Z,Z,Z,Z,Z,Z,Z,Z,Z,Z,Z,Z,Z,Z,Z,Z] rfl rfl (any_of HT_.out (by kernel_rfl)) (fun _ _ _ h=>h) (Or.inl ⟨by rfl,?_⟩) ?_ ?_;rotate_left
                ·intro w';go_simp;with_reducible rfl
                rotate_left
                ·simp only [Act.put,sIb,sZ,sS,i64_w,i32_w];rfl
                refine pure_ (i:=5) (N:=some 43) (v:=?_) (a':=?_) #[Y,Y,Y,Y,Y,Y,Z,Z,Z,Z,Z,Z,Z,Z,Z,Z,Z,Z,Z,Z,Z,Z,Z,Z,Z,Z,Z,Z,Z,Z,Z,Z,Z,Z,Z,Z,Z,Z,Z,Z,Z,Z,Z,Z] rfl rfl (any_of HT_.out (by kernel_rfl)) (fun _ _ _ h=>h) (Or.inl ⟨by rfl,?_⟩) ?_ ?_;rotate_left
                ·intro w';go_simp;with_reducible rfl
                rotate_left
                ·simp only [Act.put,sIb,sZ,sS,i64_w,i32_w];rfl
                refine pure_ (i:=6) (N:=some 44) (v:=?_) (a':=?_) #[Y,Y,Y,Y,Y,Y,Y,Z,Z,Z,Z,Z,Z,Z,Z,Z,Z,Z,Z,Z,Z,Z,Z,Z,Z,Z,Z,Z,Z,Z,Z,Z,Z,Z,Z,Z,Z,Z,Z,Z,Z,Z,Z,Z] rfl rfl (any_of HT_.out (by kernel_rfl)) (fun _ _ _ h=>h) (Or.inl ⟨by rfl,?_⟩) ?_ ?_;rotate_left
                ·intro w';go_simp;with_reducible rfl
                rotate_left
                ·simp only [Act.put,sIb,sZ,sS,i64_w,i32_w];rfl
                refine pure_ (i:=7) (N:=some 45) (v:=?_) (a':=?_) #[Y,Y,Y,Y,Y,Y,Y,Y,Z,Z,Z,Z,Z,Z,Z,Z,Z,Z,Z,Z,Z,Z,Z,Z,Z,Z,Z,Z,Z,Z,Z,Z,Z,Z,Z,Z,Z,Z,Z,Z,Z,Z,Z,Z] rfl rfl (any_of HT_.out (by kernel_rfl)) (fun _ _ _ h=>h) (Or.inl ⟨by rfl,?_⟩) ?_ ?_;rotate_left
                ·intro w';go_simp;with_reducible rfl
                rotate_left
                ·simp only [Act.put,sIb,sZ,sS,i64_w,i32_w];rfl
                refine pure_ (i:=8) (N:=some 46) (v:=?_) (a':=?_) #[Y,Y,Y,Y,Y,Y,Y,Y,Y,Z,Z,Z,Z,Z,Z,Z,Z,Z,Z,Z,Z,Z,Z,Z,Z,Z,Z,Z,Z,Z,Z,Z,Z,Z,Z,Z,Z,Z,Z,Z,Z,Z,Z,Z] rfl rfl (any_of HT_.out (by kernel_rfl)) (fun _ _ _ h=>h) (Or.inl ⟨by rfl,?_⟩) ?_ ?_;rotate_left
                ·intro w';go_simp;with_reducible rfl
                rotate_left
                ·simp only [Act.put,sIb,sZ,sS,i64_w,i32_w];rfl
                refine pure_ (i:=10) (N:=some 48) (v:=?_) (a':=?_) #[Y,Y,Y,Y,Y,Y,Y,Y,Y,Z,Y,Z,Z,Z,Z,Z,Z,Z,Z,Z,Z,Z,Z,Z,Z,Z,Z,Z,Z,Z,Z,Z,Z,Z,Z,Z,Z,Z,Z,Z,Z,Z,Z,Z] rfl rfl (any_of HT_.out (by kernel_rfl)) (fun _ _ _ h=>h) (Or.inl ⟨by rfl,?_⟩) ?_ ?_;rotate_left
                ·intro w';go_simp;with_reducible rfl
                rotate_left
                ·simp only [Act.put,sIb,sZ,sS,i64_w,i32_w];rfl
                refine pure_ (i:=11) (N:=some 49) (v:=?_) (a':=?_) #[Y,Y,Y,Y,Y,Y,Y,Y,Y,Z,Y,Y,Z,Z,Z,Z,Z,Z,Z,Z,Z,Z,Z,Z,Z,Z,Z,Z,Z,Z,Z,Z,Z,Z,Z,Z,Z,Z,Z,Z,Z,Z,Z,Z] rfl rfl (any_of HT_.out (by kernel_rfl)) (fun _ _ _ h=>h) (Or.inl ⟨by rfl,?_⟩) ?_ ?_;rotate_left
                ·intro w';go_simp;with_reducible rfl
                rotate_left
                ·simp only [Act.put,sIb,sZ,sS,i64_w,i32_w];rfl
                refine pure_ (i:=15) (N:=some 53) (v:=?_) (a':=?_) #[Y,Y,Y,Y,Y,Y,Y,Y,Y,Z,Y,Y,Z,Z,Z,Y,Z,Z,Z,Z,Z,Z,Z,Z,Z,Z,Z,Z,Z,Z,Z,Z,Z,Z,Z,Z,Z,Z,Z,Z,Z,Z,Z,Z] rfl rfl (any_of HT_.out (by kernel_rfl)) (fun _ _ _ h=>h) (Or.inl ⟨by rfl,?_⟩) ?_ ?_;rotate_left
                ·intro w';go_simp;with_reducible rfl
                rotate_left
                ·simp only [Act.put,sIb,sZ,sS,i64_w,i32_w];rfl
                refine take_ (i:=9) (N:=some 47) (v:=?_) (a':=?_) #[Y,Y,Y,Y,Y,Y,Y,Y,Y,Y,Y,Y,Z,Z,Z,Y,Z,Z,Z,Z,Z,Z,Z,Z,Z,Z,Z,Z,Z,Z,Z,Z,Z,Z,Z,Z,Z,Z,Z,Z,Z,Z,Z,Z] rfl rfl (take_ofW HT_.out HW_.out (by kernel_rfl)) (fun _ _ _ h=>h) (Or.inl ⟨by rfl,?_⟩) hHeld ?_ ?_;rotate_left
                ·rintro w' ⟨s0,s1,s2,s3,s4,s5,s6,s7,s8,s9,s10,s11,s12,s13⟩;go_simp;with_reducible rfl
                rotate_left
                ·simp only [Act.put,sIb,sZ,sS,i64_w,i32_w];rfl
                refine pure_ (i:=12) (N:=some 50) (v:=?_) (a':=?_) #[Y,Y,Y,Y,Y,Y,Y,Y,Y,Y,Y,Y,Y,Z,Z,Y,Z,Z,Z,Z,Z,Z,Z,Z,Z,Z,Z,Z,Z,Z,Z,Z,Z,Z,Z,Z,Z,Z,Z,Z,Z,Z,Z,Z] rfl rfl (any_of HT_.out (by kernel_rfl)) (fun _ _ _ h=>h) (Or.inl ⟨by rfl,?_⟩) ?_ ?_;rotate_left
                ·intro w';go_simp;with_reducible rfl
                rotate_left
                ·simp only [Act.put,sIb,sZ,sS,i64_w,i32_w];rfl
                refine pure_ (i:=13) (N:=some 51) (v:=?_) (a':=?_) #[Y,Y,Y,Y,Y,Y,Y,Y,Y,Y,Y,Y,Y,Y,Z,Y,Z,Z,Z,Z,Z,Z,Z,Z,Z,Z,Z,Z,Z,Z,Z,Z,Z,Z,Z,Z,Z,Z,Z,Z,Z,Z,Z,Z] rfl rfl (any_of HT_.out (by kernel_rfl)) (fun _ _ _ h=>h) (Or.inl ⟨by rfl,?_⟩) ?_ ?_;rotate_left
                ·intro w';go_simp;with_reducible rfl
                rotate_left
                ·simp only [Act.put,sIb,sZ,sS,i64_w,i32_w];rfl
                refine take_ (i:=14) (N:=some 52) (v:=?_) (a':=?_) #[Y,Y,Y,Y,Y,Y,Y,Y,Y,Y,Y,Y,Y,Y,Y,Y,Z,Z,Z,Z,Z,Z,Z,Z,Z,Z,Z,Z,Z,Z,Z,Z,Z,Z,Z,Z,Z,Z,Z,Z,Z,Z,Z,Z] rfl rfl (take_ofW HT_.out HW_.out (by kernel_rfl)) (fun _ _ _ h=>h) (Or.inl ⟨by rfl,?_⟩) hHeld ?_ ?_;rotate_left
                ·rintro w' ⟨s0,s1,s2,s3,s4,s5,s6,s7,s8,s9,s10,s11,s12,s13⟩;go_simp;with_reducible rfl
                rotate_left
                ·simp only [Act.put,sIb,sZ,sS,i64_w,i32_w];rfl
                refine take_ (i:=16) (N:=some 54) (v:=?_) (a':=?_) #[Y,Y,Y,Y,Y,Y,Y,Y,Y,Y,Y,Y,Y,Y,Y,Y,Y,Z,Z,Z,Z,Z,Z,Z,Z,Z,Z,Z,Z,Z,Z,Z,Z,Z,Z,Z,Z,Z,Z,Z,Z,Z,Z,Z] rfl rfl (take_ofW HT_.out HW_.out (by kernel_rfl)) (fun _ _ _ h=>h) (Or.inl ⟨by rfl,?_⟩) hHeld ?_ ?_;rotate_left
                ·rintro w' ⟨s0,s1,s2,s3,s4,s5,s6,s7,s8,s9,s10,s11,s12,s13⟩;go_simp;with_reducible rfl
                rotate_left
                ·simp only [Act.put,sIb,sZ,sS,i64_w,i32_w];rfl
                refine pure_ (i:=17) (N:=some 55) (v:=?_) (a':=?_) #[Y,Y,Y,Y,Y,Y,Y,Y,Y,Y,Y,Y,Y,Y,Y,Y,Y,Y,Z,Z,Z,Z,Z,Z,Z,Z,Z,Z,Z,Z,Z,Z,Z,Z,Z,Z,Z,Z,Z,Z,Z,Z,Z,Z] rfl rfl (any_of HT_.out (by kernel_rfl)) (fun _ _ _ h=>h) (Or.inl ⟨by rfl,?_⟩) ?_ ?_;rotate_left
                ·intro w';go_simp;with_reducible rfl
                rotate_left
                ·simp only [Act.put,sIb,sZ,sS,i64_w,i32_w];rfl
                refine pure_ (i:=18) (N:=some 56) (v:=?_) (a':=?_) #[Y,Y,Y,Y,Y,Y,Y,Y,Y,Y,Y,Y,Y,Y,Y,Y,Y,Y,Y,Z,Z,Z,Z,Z,Z,Z,Z,Z,Z,Z,Z,Z,Z,Z,Z,Z,Z,Z,Z,Z,Z,Z,Z,Z] rfl rfl (any_of HT_.out (by kernel_rfl)) (fun _ _ _ h=>h) (Or.inl ⟨by rfl,?_⟩) ?_ ?_;rotate_left
                ·intro w';go_simp;with_reducible rfl
                rotate_left
                ·simp only [Act.put,sIb,sZ,sS,i64_w,i32_w];rfl
                refine pure_ (i:=19) (N:=some 57) (v:=?_) (a':=?_) #[Y,Y,Y,Y,Y,Y,Y,Y,Y,Y,Y,Y,Y,Y,Y,Y,Y,Y,Y,Y,Z,Z,Z,Z,Z,Z,Z,Z,Z,Z,Z,Z,Z,Z,Z,Z,Z,Z,Z,Z,Z,Z,Z,Z] rfl rfl (any_of HT_.out (by kernel_rfl)) (fun _ _ _ h=>h) (Or.inl ⟨by rfl,?_⟩) ?_ ?_;rotate_left
                ·intro w';go_simp;with_reducible rfl
                rotate_left
                ·simp only [Act.put,sIb,sZ,sS,i64_w,i32_w];rfl
                refine pure_ (i:=21) (N:=some 59) (v:=?_) (a':=?_) #[Y,Y,Y,Y,Y,Y,Y,Y,Y,Y,Y,Y,Y,Y,Y,Y,Y,Y,Y,Y,Z,Y,Z,Z,Z,Z,Z,Z,Z,Z,Z,Z,Z,Z,Z,Z,Z,Z,Z,Z,Z,Z,Z,Z] rfl rfl (any_of HT_.out (by kernel_rfl)) (fun _ _ _ h=>h) (Or.inl ⟨by rfl,?_⟩) ?_ ?_;rotate_left
                ·intro w';go_simp;with_reducible rfl
                rotate_left
                ·simp only [Act.put,sIb,sZ,sS,i64_w,i32_w];rfl
                refine pure_ (i:=22) (N:=some 60) (v:=?_) (a':=?_) #[Y,Y,Y,Y,Y,Y,Y,Y,Y,Y,Y,Y,Y,Y,Y,Y,Y,Y,Y,Y,Z,Y,Y,Z,Z,Z,Z,Z,Z,Z,Z,Z,Z,Z,Z,Z,Z,Z,Z,Z,Z,Z,Z,Z] rfl rfl (any_of HT_.out (by kernel_rfl)) (fun _ _ _ h=>h) (Or.inl ⟨by rfl,?_⟩) ?_ ?_;rotate_left
                ·intro w';go_simp;with_reducible rfl
                rotate_left
                ·simp only [Act.put,sIb,sZ,sS,i64_w,i32_w];rfl
                refine pure_ (i:=26) (N:=some 64) (v:=?_) (a':=?_) #[Y,Y,Y,Y,Y,Y,Y,Y,Y,Y,Y,Y,Y,Y,Y,Y,Y,Y,Y,Y,Z,Y,Y,Z,Z,Z,Y,Z,Z,Z,Z,Z,Z,Z,Z,Z,Z,Z,Z,Z,Z,Z,Z,Z] rfl rfl (any_of HT_.out (by kernel_rfl)) (fun _ _ _ h=>h) (Or.inl ⟨by rfl,?_⟩) ?_ ?_;rotate_left
                ·intro w';go_simp;with_reducible rfl
                rotate_left
                ·simp only [Act.put,sIb,sZ,sS,i64_w,i32_w];rfl
                refine take_ (i:=20) (N:=some 58) (v:=?_) (a':=?_) #[Y,Y,Y,Y,Y,Y,Y,Y,Y,Y,Y,Y,Y,Y,Y,Y,Y,Y,Y,Y,Y,Y,Y,Z,Z,Z,Y,Z,Z,Z,Z,Z,Z,Z,Z,Z,Z,Z,Z,Z,Z,Z,Z,Z] rfl rfl (take_ofW HT_.out HW_.out (by kernel_rfl)) (fun _ _ _ h=>h) (Or.inl ⟨by rfl,?_⟩) hHeld ?_ ?_;rotate_left
                ·rintro w' ⟨s0,s1,s2,s3,s4,s5,s6,s7,s8,s9,s10,s11,s12,s13⟩;go_simp;with_reducible rfl
                rotate_left
                ·simp only [Act.put,sIb,sZ,sS,i64_w,i32_w];rfl
                refine pure_ (i:=23) (N:=some 61) (v:=?_) (a':=?_) #[Y,Y,Y,Y,Y,Y,Y,Y,Y,Y,Y,Y,Y,Y,Y,Y,Y,Y,Y,Y,Y,Y,Y,Y,Z,Z,Y,Z,Z,Z,Z,Z,Z,Z,Z,Z,Z,Z,Z,Z,Z,Z,Z,Z] rfl rfl (any_of HT_.out (by kernel_rfl)) (fun _ _ _ h=>h) (Or.inl ⟨by rfl,?_⟩) ?_ ?_;rotate_left
                ·intro w';go_simp;with_reducible rfl
                rotate_left
                ·simp only [Act.put,sIb,sZ,sS,i64_w,i32_w];rfl
                refine pure_ (i:=24) (N:=some 62) (v:=?_) (a':=?_) #[Y,Y,Y,Y,Y,Y,Y,Y,Y,Y,Y,Y,Y,Y,Y,Y,Y,Y,Y,Y,Y,Y,Y,Y,Y,Z,Y,Z,Z,Z,Z,Z,Z,Z,Z,Z,Z,Z,Z,Z,Z,Z,Z,Z] rfl rfl (any_of HT_.out (by kernel_rfl)) (fun _ _ _ h=>h) (Or.inl ⟨by rfl,?_⟩) ?_ ?_;rotate_left
                ·intro w';go_simp;with_reducible rfl
                rotate_left
                ·simp only [Act.put,sIb,sZ,sS,i64_w,i32_w];rfl
                refine take_ (i:=25) (N:=some 63) (v:=?_) (a':=?_) #[Y,Y,Y,Y,Y,Y,Y,Y,Y,Y,Y,Y,Y,Y,Y,Y,Y,Y,Y,Y,Y,Y,Y,Y,Y,Y,Y,Z,Z,Z,Z,Z,Z,Z,Z,Z,Z,Z,Z,Z,Z,Z,Z,Z] rfl rfl (take_ofW HT_.out HW_.out (by kernel_rfl)) (fun _ _ _ h=>h) (Or.inl ⟨by rfl,?_⟩) hHeld ?_ ?_;rotate_left
                ·rintro w' ⟨s0,s1,s2,s3,s4,s5,s6,s7,s8,s9,s10,s11,s12,s13⟩;go_simp;with_reducible rfl
                rotate_left
                ·simp only [Act.put,sIb,sZ,sS,i64_w,i32_w];rfl
                refine take_ (i:=27) (N:=some 65) (v:=?_) (a':=?_) #[Y,Y,Y,Y,Y,Y,Y,Y,Y,Y,Y,Y,Y,Y,Y,Y,Y,Y,Y,Y,Y,Y,Y,Y,Y,Y,Y,Y,Z,Z,Z,Z,Z,Z,Z,Z,Z,Z,Z,Z,Z,Z,Z,Z] rfl rfl (take_ofW HT_.out HW_.out (by kernel_rfl)) (fun _ _ _ h=>h) (Or.inl ⟨by rfl,?_⟩) hHeld ?_ ?_;rotate_left
                ·rintro w' ⟨s0,s1,s2,s3,s4,s5,s6,s7,s8,s9,s10,s11,s12,s13⟩;go_simp;with_reducible rfl
                rotate_left
                ·simp only [Act.put,sIb,sZ,sS,i64_w,i32_w];rfl
                refine pure_ (i:=28) (N:=some 66) (v:=?_) (a':=?_) #[Y,Y,Y,Y,Y,Y,Y,Y,Y,Y,Y,Y,Y,Y,Y,Y,Y,Y,Y,Y,Y,Y,Y,Y,Y,Y,Y,Y,Y,Z,Z,Z,Z,Z,Z,Z,Z,Z,Z,Z,Z,Z,Z,Z] rfl rfl (any_of HT_.out (by kernel_rfl)) (fun _ _ _ h=>h) (Or.inl ⟨by rfl,?_⟩) ?_ ?_;rotate_left
                ·intro w';go_simp;with_reducible rfl
                rotate_left
                ·simp only [Act.put,sIb,sZ,sS,i64_w,i32_w];rfl
                refine pure_ (i:=29) (N:=some 67) (v:=?_) (a':=?_) #[Y,Y,Y,Y,Y,Y,Y,Y,Y,Y,Y,Y,Y,Y,Y,Y,Y,Y,Y,Y,Y,Y,Y,Y,Y,Y,Y,Y,Y,Y,Z,Z,Z,Z,Z,Z,Z,Z,Z,Z,Z,Z,Z,Z] rfl rfl (any_of HT_.out (by kernel_rfl)) (fun _ _ _ h=>h) (Or.inl ⟨by rfl,?_⟩) ?_ ?_;rotate_left
                ·intro w';go_simp;with_reducible rfl
                rotate_left
                ·simp only [Act.put,sIb,sZ,sS,i64_w,i32_w];rfl
                refine pure_ (i:=30) (N:=some 68) (v:=undef) (a':=?_) #[Y,Y,Y,Y,Y,Y,Y,Y,Y,Y,Y,Y,Y,Y,Y,Y,Y,Y,Y,Y,Y,Y,Y,Y,Y,Y,Y,Y,Y,Y,Y,Z,Z,Z,Z,Z,Z,Z,Z,Z,Z,Z,Z,Z] rfl rfl (any_of HT_.out (by kernel_rfl)) (fun _ _ _ h=>h) (Or.inr ⟨by rfl,rfl⟩) ?_ ?_;rotate_left
                ·simp only [Act.put,sIb,sZ,sS,i64_w,i32_w];rfl
                refine pure_ (i:=31) (N:=some 69) (v:=undef) (a':=?_) #[Y,Y,Y,Y,Y,Y,Y,Y,Y,Y,Y,Y,Y,Y,Y,Y,Y,Y,Y,Y,Y,Y,Y,Y,Y,Y,Y,Y,Y,Y,Y,Y,Z,Z,Z,Z,Z,Z,Z,Z,Z,Z,Z,Z] rfl rfl (any_of HT_.out (by kernel_rfl)) (fun _ _ _ h=>h) (Or.inr ⟨by rfl,rfl⟩) ?_ ?_;rotate_left
                ·simp only [Act.put,sIb,sZ,sS,i64_w,i32_w];rfl
                refine pure_ (i:=32) (N:=some 70) (v:=undef) (a':=?_) #[Y,Y,Y,Y,Y,Y,Y,Y,Y,Y,Y,Y,Y,Y,Y,Y,Y,Y,Y,Y,Y,Y,Y,Y,Y,Y,Y,Y,Y,Y,Y,Y,Y,Z,Z,Z,Z,Z,Z,Z,Z,Z,Z,Z] rfl rfl (any_of HT_.out (by kernel_rfl)) (fun _ _ _ h=>h) (Or.inr ⟨by rfl,rfl⟩) ?_ ?_;rotate_left
                ·simp only [Act.put,sIb,sZ,sS,i64_w,i32_w];rfl
                refine pure_ (i:=33) (N:=some 71) (v:=undef) (a':=?_) #[Y,Y,Y,Y,Y,Y,Y,Y,Y,Y,Y,Y,Y,Y,Y,Y,Y,Y,Y,Y,Y,Y,Y,Y,Y,Y,Y,Y,Y,Y,Y,Y,Y,Y,Z,Z,Z,Z,Z,Z,Z,Z,Z,Z] rfl rfl (any_of HT_.out (by kernel_rfl)) (fun _ _ _ h=>h) (Or.inr ⟨by rfl,rfl⟩) ?_ ?_;rotate_left
                ·simp only [Act.put,sIb,sZ,sS,i64_w,i32_w];rfl
                refine pure_ (i:=34) (N:=some 72) (v:=undef) (a':=?_) #[Y,Y,Y,Y,Y,Y,Y,Y,Y,Y,Y,Y,Y,Y,Y,Y,Y,Y,Y,Y,Y,Y,Y,Y,Y,Y,Y,Y,Y,Y,Y,Y,Y,Y,Y,Z,Z,Z,Z,Z,Z,Z,Z,Z] rfl rfl (any_of HT_.out (by kernel_rfl)) (fun _ _ _ h=>h) (Or.inr ⟨by rfl,rfl⟩) ?_ ?_;rotate_left
                ·simp only [Act.put,sIb,sZ,sS,i64_w,i32_w];rfl
                refine pure_ (i:=35) (N:=some 73) (v:=undef) (a':=?_) #[Y,Y,Y,Y,Y,Y,Y,Y,Y,Y,Y,Y,Y,Y,Y,Y,Y,Y,Y,Y,Y,Y,Y,Y,Y,Y,Y,Y,Y,Y,Y,Y,Y,Y,Y,Y,Z,Z,Z,Z,Z,Z,Z,Z] rfl rfl (any_of HT_.out (by kernel_rfl)) (fun _ _ _ h=>h) (Or.inr ⟨by rfl,rfl⟩) ?_ ?_;rotate_left
                ·simp only [Act.put,sIb,sZ,sS,i64_w,i32_w];rfl
                refine pure_ (i:=36) (N:=some 74) (v:=undef) (a':=?_) #[Y,Y,Y,Y,Y,Y,Y,Y,Y,Y,Y,Y,Y,Y,Y,Y,Y,Y,Y,Y,Y,Y,Y,Y,Y,Y,Y,Y,Y,Y,Y,Y,Y,Y,Y,Y,Y,Z,Z,Z,Z,Z,Z,Z] rfl rfl (any_of HT_.out (by kernel_rfl)) (fun _ _ _ h=>h) (Or.inr ⟨by rfl,rfl⟩) ?_ ?_;rotate_left
                ·simp only [Act.put,sIb,sZ,sS,i64_w,i32_w];rfl
                refine pure_ (i:=37) (N:=some 75) (v:=undef) (a':=?_) #[Y,Y,Y,Y,Y,Y,Y,Y,Y,Y,Y,Y,Y,Y,Y,Y,Y,Y,Y,Y,Y,Y,Y,Y,Y,Y,Y,Y,Y,Y,Y,Y,Y,Y,Y,Y,Y,Y,Z,Z,Z,Z,Z,Z] rfl rfl (any_of HT_.out (by kernel_rfl)) (fun _ _ _ h=>h) (Or.inr ⟨by rfl,rfl⟩) ?_ ?_;rotate_left
                ·simp only [Act.put,sIb,sZ,sS,i64_w,i32_w];rfl
                refine pure_ (i:=38) (N:=some 76) (v:=undef) (a':=?_) #[Y,Y,Y,Y,Y,Y,Y,Y,Y,Y,Y,Y,Y,Y,Y,Y,Y,Y,Y,Y,Y,Y,Y,Y,Y,Y,Y,Y,Y,Y,Y,Y,Y,Y,Y,Y,Y,Y,Y,Z,Z,Z,Z,Z] rfl rfl (any_of HT_.out (by kernel_rfl)) (fun _ _ _ h=>h) (Or.inr ⟨by rfl,rfl⟩) ?_ ?_;rotate_left
                ·simp only [Act.put,sIb,sZ,sS,i64_w,i32_w];rfl
                refine pure_ (i:=39) (N:=some 77) (v:=undef) (a':=?_) #[Y,Y,Y,Y,Y,Y,Y,Y,Y,Y,Y,Y,Y,Y,Y,Y,Y,Y,Y,Y,Y,Y,Y,Y,Y,Y,Y,Y,Y,Y,Y,Y,Y,Y,Y,Y,Y,Y,Y,Y,Z,Z,Z,Z] rfl rfl (any_of HT_.out (by kernel_rfl)) (fun _ _ _ h=>h) (Or.inr ⟨by rfl,rfl⟩) ?_ ?_;rotate_left
                ·simp only [Act.put,sIb,sZ,sS,i64_w,i32_w];rfl
                refine pure_ (i:=40) (N:=some 78) (v:=?_) (a':=?_) #[Y,Y,Y,Y,Y,Y,Y,Y,Y,Y,Y,Y,Y,Y,Y,Y,Y,Y,Y,Y,Y,Y,Y,Y,Y,Y,Y,Y,Y,Y,Y,Y,Y,Y,Y,Y,Y,Y,Y,Y,Y,Z,Z,Z] rfl rfl (any_of HT_.out (by kernel_rfl)) (fun _ _ _ h=>h) (Or.inl ⟨by rfl,?_⟩) ?_ ?_;rotate_left
                ·intro w';go_simp;with_reducible rfl
                rotate_left
                ·simp only [Act.put,sIb,sZ,sS,i64_w,i32_w];rfl
                refine pure_ (i:=41) (N:=some 79) (v:=?_) (a':=?_) #[Y,Y,Y,Y,Y,Y,Y,Y,Y,Y,Y,Y,Y,Y,Y,Y,Y,Y,Y,Y,Y,Y,Y,Y,Y,Y,Y,Y,Y,Y,Y,Y,Y,Y,Y,Y,Y,Y,Y,Y,Y,Y,Z,Z] rfl rfl (any_of HT_.out (by kernel_rfl)) (fun _ _ _ h=>h) (Or.inl ⟨by rfl,?_⟩) ?_ ?_;rotate_left
                ·intro w';go_simp;with_reducible rfl
                rotate_left
                ·simp only [Act.put,sIb,sZ,sS,i64_w,i32_w];rfl
                refine pure_ (i:=42) (N:=some 80) (v:=?_) (a':=?_) #[Y,Y,Y,Y,Y,Y,Y,Y,Y,Y,Y,Y,Y,Y,Y,Y,Y,Y,Y,Y,Y,Y,Y,Y,Y,Y,Y,Y,Y,Y,Y,Y,Y,Y,Y,Y,Y,Y,Y,Y,Y,Y,Y,Z] rfl rfl (any_of HT_.out (by kernel_rfl)) (fun _ _ _ h=>h) (Or.inl ⟨by rfl,?_⟩) ?_ ?_;rotate_left
                ·intro w';go_simp;with_reducible rfl
                rotate_left
                ·simp only [Act.put,sIb,sZ,sS,i64_w,i32_w];rfl
                refine pure_ (i:=43) (N:=some 81) (v:=?_) (a':=?_) #[Y,Y,Y,Y,Y,Y,Y,Y,Y,Y,Y,Y,Y,Y,Y,Y,Y,Y,Y,Y,Y,Y,Y,Y,Y,Y,Y,Y,Y,Y,Y,Y,Y,Y,Y,Y,Y,Y,Y,Y,Y,Y,Y,Y] rfl rfl (any_of HT_.out (by kernel_rfl)) (fun _ _ _ h=>h) (Or.inl ⟨by rfl,?_⟩) ?_ ?_;rotate_left
                ·intro w';go_simp;with_reducible rfl
                rotate_left
                ·simp only [Act.put,sIb,sZ,sS,i64_w,i32_w];rfl
                refine done_ (done_of HT_.out (by kernel_rfl)) ?_;try go_wp2
                go_meet
                case rel=>exact ⟨_,(false),(by first|rfl|(simp;done)|(simp [*];done)),H',⟨by have:=HJ1.out;have:=HK2.out;first|omega|exact Nat.le_refl _⟩,⟨by (with_reducible repeat (first|refine qN ?_ _|refine qW ?_|refine qL ?_ _));exact BK116.out⟩,⟨by (with_reducible repeat (first|refine qN ?_ _|refine qW ?_|refine qL ?_ _));exact BK121.out⟩,⟨by repeat (first|(with_reducible first|exact HB.out|apply qA|apply qD|apply qO|refine qS ?_ GE116.out|refine qS ?_ GE121.out)|exact HB.out)⟩⟩
             ·rw [if_neg c38] at H;exact absurd H (by simp)
            ·rw [if_neg c37] at H;exact absurd H (by simp)
           ·rw [if_neg c35] at H;have c35b0:decide (0 < x33_2)=false:=decide_eq_false c35;clear c35;(first|rw [c35b0]|(simp only [i64_w,i32_w];rw [c35b0])|skip);have H':=qK H;clear H;try go_wp2
            have n0_:Aside0 ((((w27.setCell ⟨gb121,0,none⟩ (.int .i64 ((rd_T47 l0_0 x33_2).f0))).setCell ⟨gb121,1,none⟩ (.int .i64 ((rd_T47 l0_0 x33_2).f1))).setCell ⟨gb121,2,none⟩ (.int .i64 ((rd_T47 l0_0 x33_2).f2))).heap[gb116]?=some (.cells #[.slice (some ad120) l0_0.length c0_0,.slice A0_1 l0_1.length c0_1,.slice A0_2 l0_2.length c0_2,.slice A0_3 l0_3.length c0_3,.slice A0_4 l0_4.length c0_4] 31 (0,0))):=⟨by (with_reducible repeat (first|refine qN ?_ _|refine qW ?_|refine qL ?_ _));refine qR ?_ NB116_121.out _;(with_reducible repeat (first|refine qN ?_ _|refine qW ?_|refine qL ?_ _));refine qR ?_ NB116_121.out _;(with_reducible repeat (first|refine qN ?_ _|refine qW ?_|refine qL ?_ _));refine qR ?_ NB116_121.out _;(with_reducible repeat (first|refine qN ?_ _|refine qW ?_|refine qL ?_ _));exact BK116.out⟩;have n1_:Aside0 ((((w27.setCell ⟨gb121,0,none⟩ (.int .i64 ((rd_T47 l0_0 x33_2).f0))).setCell ⟨gb121,1,none⟩ (.int .i64 ((rd_T47 l0_0 x33_2).f1))).setCell ⟨gb121,2,none⟩ (.int .i64 ((rd_T47 l0_0 x33_2).f2))).heap[gb121]?=some (.cells #[.int .i64 ((rd_T47 l0_0 x33_2).f0),.int .i64 ((rd_T47 l0_0 x33_2).f1),.int .i64 ((rd_T47 l0_0 x33_2).f2)] 47 (0,0))):=⟨by (with_reducible repeat (first|refine qN ?_ _|refine qW ?_|refine qL ?_ _));refine qP (cs:=#[.int .i64 ((rd_T47 l0_0 x33_2).f0),.int .i64 ((rd_T47 l0_0 x33_2).f1),.int .i64 0]) ?_ 2 _ rfl;(with_reducible repeat (first|refine qN ?_ _|refine qW ?_|refine qL ?_ _));refine qP (cs:=#[.int .i64 ((rd_T47 l0_0 x33_2).f0),.int .i64 0,.int .i64 0]) ?_ 1 _ rfl;(with_reducible repeat (first|refine qN ?_ _|refine qW ?_|refine qL ?_ _));refine qP (cs:=#[.int .i64 0,.int .i64 0,.int .i64 0]) ?_ 0 _ rfl;(with_reducible repeat (first|refine qN ?_ _|refine qW ?_|refine qL ?_ _));exact BK121.out⟩;have n2_:Aside0 (Below w.heap.size w (((w27.setCell ⟨gb121,0,none⟩ (.int .i64 ((rd_T47 l0_0 x33_2).f0))).setCell ⟨gb121,1,none⟩ (.int .i64 ((rd_T47 l0_0 x33_2).f1))).setCell ⟨gb121,2,none⟩ (.int .i64 ((rd_T47 l0_0 x33_2).f2)))):=⟨by repeat (first|(with_reducible first|exact HB.out|apply qA|apply qD|apply qO|refine qS ?_ GE116.out|refine qS ?_ GE121.out)|exact HB.out)⟩;(try clear BK116);(try clear BK121);(try clear HB);generalize (((w27.setCell ⟨gb121,0,none⟩ (.int .i64 ((rd_T47 l0_0 x33_2).f0))).setCell ⟨gb121,1,none⟩ (.int .i64 ((rd_T47 l0_0 x33_2).f1))).setCell ⟨gb121,2,none⟩ (.int .i64 ((rd_T47 l0_0 x33_2).f2)))=w50 at n0_ n1_ n2_ ⊢
            have BK116:=n0_;have BK121:=n1_;have HB:=n2_;clear n0_ n1_ n2_;(try (rw [drewN_self w50];generalize hq_:World.drewN w50 _=w50;have n0_:Aside0 (w50.heap[gb116]?=some (.cells #[.slice (some ad120) l0_0.length c0_0,.slice A0_1 l0_1.length c0_1,.slice A0_2 l0_2.length c0_2,.slice A0_3 l0_3.length c0_3,.slice A0_4 l0_4.length c0_4] 31 (0,0))):=⟨by rw [← hq_];exact (by (with_reducible repeat (first|refine qN ?_ _|refine qW ?_|refine qL ?_ _));exact BK116.out)⟩;have n1_:Aside0 (w50.heap[gb121]?=some (.cells #[.int .i64 ((rd_T47 l0_0 x33_2).f0),.int .i64 ((rd_T47 l0_0 x33_2).f1),.int .i64 ((rd_T47 l0_0 x33_2).f2)] 47 (0,0))):=⟨by rw [← hq_];exact (by (with_reducible repeat (first|refine qN ?_ _|refine qW ?_|refine qL ?_ _));exact BK121.out)⟩;have n2_:Aside0 (Below w.heap.size w w50):=⟨by rw [← hq_];exact (by repeat (with_reducible first|exact HB.out|apply qA|apply qD|apply qO|refine qS ?_ GE116.out|refine qS ?_ GE121.out))⟩;clear BK116 BK121 HB hq_;have BK116:=n0_;have BK121:=n1_;have HB:=n2_;clear n0_ n1_ n2_));have n0_:=qK (qW BK116.out);have n1_:=qK (qW BK121.out);have n2_:=qK (qO HB.out);clear BK116;clear BK121;clear HB;have BK116:=n0_;have BK121:=n1_;have HB:=n2_;clear n0_ n1_ n2_;refine start_ (n:=44) (S:=fun w'=>w'.cell? ⟨gb116,0,none⟩=some (.slice (some ad120) l0_0.length c0_0)∧w'.cell? ⟨gb116,1,none⟩=some (.slice A0_1 l0_1.length c0_1)∧w'.cell? ⟨gb116,2,none⟩=some (.slice A0_2 l0_2.length c0_2)∧w'.cell? ⟨gb116,3,none⟩=some (.slice A0_3 l0_3.length c0_3)∧w'.cell? ⟨gb116,4,none⟩=some (.slice A0_4 l0_4.length c0_4)∧w'.cell? ⟨gb121,0,none⟩=some (.int .i64 ((rd_T47 l0_0 x33_2).f0))∧w'.cell? ⟨gb121,1,none⟩=some (.int .i64 ((rd_T47 l0_0 x33_2).f1))∧w'.cell? ⟨gb121,2,none⟩=some (.int .i64 ((rd_T47 l0_0 x33_2).f2))) (ds:=[]) #[Z,Z,Z,Z,Z,Z,Z,Z,Z,Z,Z,Z,Z,Z,Z,Z,Z,Z,Z,Z,Z,Z,Z,Z,Z,Z,Z,Z,Z,Z,Z,Z,Z,Z,Z,Z,Z,Z,Z,Z,Z,Z,Z,Z] (by kernel_rfl) rfl rfl ⟨(qC BK116.out 0).trans rfl,(qC BK116.out 1).trans rfl,(qC BK116.out 2).trans rfl,(qC BK116.out 3).trans rfl,(qC BK116.out 4).trans rfl,(qC BK121.out 0).trans rfl,(qC BK121.out 1).trans rfl,(qC BK121.out 2).trans rfl⟩ (fun hHeld=>?_);refine with_tabW spec_GoodLocks.tab6 spec_GoodLocks.bits6 (fun HT_ HW_=>?_);generalize w50.drew=w51 at BK116 BK121 HB hHeld ⊢
            refine pure_ (i:=1) (N:=some 39) (v:=?_) (a':=?_) #[Z,Y,Z,Z,Z,Z,Z,Z,Z,Z,Z,Z,Z,Z,Z,Z,Z,Z,Z,Z,Z,Z,Z,Z,Z,Z,Z,Z,Z,Z,Z,Z,Z,Z,Z,Z,Z,Z,Z,Z,Z,Z,Z,Z] rfl rfl (any_of HT_.out (by kernel_rfl)) (fun _ _ _ h=>h) (Or.inl ⟨by rfl,?_⟩) ?_ ?_;rotate_left
            ·intro w';go_simp;with_reducible rfl
            rotate_left
            ·simp only [Act.put,sIb,sZ,sS,i64_w,i32_w];rfl
            refine take_ (i:=0) (N:=some 38) (v:=?_) (a':=?_) #[Y,Y,Z,Z,Z,Z,Z,Z,Z,Z,Z,Z,Z,Z,Z,Z,Z,Z,Z,Z,Z,Z,Z,Z,Z,Z,Z,Z,Z,Z,Z,Z,Z,Z,Z,Z,Z,Z,Z,Z,Z,Z,Z,Z] rfl rfl (take_ofW HT_.out HW_.out (by kernel_rfl)) (fun _ _ _ h=>h) (Or.inl ⟨by rfl,?_⟩) hHeld ?_ ?_;rotate_left
            ·rintro w' ⟨s0,s1,s2,s3,s4,s5,s6,s7⟩;go_simp;with_reducible rfl
            rotate_left
            ·simp only [Act.put,sIb,sZ,sS,i64_w,i32_w];rfl
            refine take_ (i:=2) (N:=some 40) (v:=?_) (a':=?_) #[Y,Y,Y,Z,Z,Z,Z,Z,Z,Z,Z,Z,Z,Z,Z,Z,Z,Z,Z,Z,Z,Z,Z,Z,Z,Z,Z,Z,Z,Z,Z,Z,Z,Z,Z,Z,Z,Z,Z,Z,Z,Z,Z,Z] rfl rfl (take_ofW HT_.out HW_.out (by kernel_rfl)) (fun _ _ _ h=>h) (Or.inl ⟨by rfl,?_⟩) hHeld ?_ ?_;rotate_left
            ·rintro w' ⟨s0,s1,s2,s3,s4,s5,s6,s7⟩;go_simp;with_reducible rfl
            rotate_left
            ·simp only [Act.put,sIb,sZ,sS,i64_w,i32_w];rfl
            refine one_ (i:=3) (N:=some 41) #[Y,Y,Y,Y,Z,Z,Z,Z,Z,Z,Z,Z,Z,Z,Z,Z,Z,Z,Z,Z,Z,Z,Z,Z,Z,Z,Z,Z,Z,Z,Z,Z,Z,Z,Z,Z,Z,Z,Z,Z,Z,Z,Z,Z] rfl rfl (one_of HT_.out (by kernel_rfl)) (by decide) (fun K hK=>?_);refine goes_ Try.func38 (by kernel_rfl) rfl #[.agg #[.slice (some ad120) l0_0.length c0_0,.slice A0_1 l0_1.length c0_1,.slice A0_2 l0_2.length c0_2,.slice A0_3 l0_3.length c0_3,.slice A0_4 l0_4.length c0_4],.int .i64 ((rd_T47 l0_0 x33_2).f0)] (by rfl) rfl rfl (by (try simp only [mT,mC,mN]);first|done|rfl|(simp only [lD,lT];rfl)) ?_;with_reducible refine (spec_l14Ended.calls k2 _ _ l0_0 _ _ l0_1 _ _ l0_2 _ _ l0_3 _ _ l0_4 ((rd_T47 l0_0 x33_2).f0) false _ ?side1 ?side2 ?side3 ?side4 ?side5 ?side6 ?side7 ?side8 ?side9 ?side10 A30.out).mono ?_
            (case side1=>repeat (first|exact (cB HR0_0.out HB.out)|(with_reducible first|refine cL ?_ _|refine cN ?_ _|refine cW ?_)));(case side2=>exact HC0_0.out);(case side3=>repeat (first|exact (cB HR0_1.out HB.out)|(with_reducible first|refine cL ?_ _|refine cN ?_ _|refine cW ?_)));(case side4=>exact HC0_1.out);(case side5=>repeat (first|exact (cB HR0_2.out HB.out)|(with_reducible first|refine cL ?_ _|refine cN ?_ _|refine cW ?_)));(case side6=>exact HC0_2.out);(case side7=>repeat (first|exact (cB HR0_3.out HB.out)|(with_reducible first|refine cL ?_ _|refine cN ?_ _|refine cW ?_)));(case side8=>exact HC0_3.out);(case side9=>repeat (first|exact (cB HR0_4.out HB.out)|(with_reducible first|refine cL ?_ _|refine cN ?_ _|refine cW ?_)));(case side10=>exact HC0_4.out);rintro e w52 ⟨rfl,hb⟩;refine ⟨_,rfl,?_⟩;have n0_:=qK (qB (g:=gb116) (o:=_) (by (with_reducible repeat (first|refine qN ?_ _|refine qW ?_|refine qL ?_ _));exact BK116.out) hb);have n1_:=qK (qB (g:=gb121) (o:=_) (by (with_reducible repeat (first|refine qN ?_ _|refine qW ?_|refine qL ?_ _));exact BK121.out) hb);have n2_:=qK (qT (by repeat (with_reducible first|exact HB.out|apply qA|apply qD|apply qO|refine qS ?_ GE116.out|refine qS ?_ GE121.out)) hb);clear BK116;clear BK121;clear HB;have BK116:=n0_;have BK121:=n1_;have HB:=n2_;clear n0_ n1_ n2_;(try clear hb);refine hK.out _ _ ⟨(qC BK116.out 0).trans rfl,(qC BK116.out 1).trans rfl,(qC BK116.out 2).trans rfl,(qC BK116.out 3).trans rfl,(qC BK116.out 4).trans rfl,(qC BK121.out 0).trans rfl,(qC BK121.out 1).trans rfl,(qC BK121.out 2).trans rfl⟩ (fun hHeld=>?_);clear hK K;refine norm_ (a':=?_) ?_ ?_;rotate_left
            ·show Act.put _ (some 41) _=_
             simp only [Act.put,sIb,sZ,sS,i64_w,i32_w];rfl
            refine pure_ (i:=4) (N:=some 42) (v:=?_) (a':=?_) #[Y,Y,Y,Y,Y,Z,Z,Z,Z,Z,Z,Z,Z,Z,Z,Z,Z,Z,Z,Z,Z,Z,Z,Z,Z,Z,Z,Z,Z,Z,Z,Z,Z,Z,Z,Z,Z,Z,Z,Z,Z,Z,Z,Z] rfl rfl (any_of HT_.out (by kernel_rfl)) (fun _ _ _ h=>h) (Or.inl ⟨by rfl,?_⟩) ?_ ?_;rotate_left
            ·intro w';go_simp;with_reducible rfl
            rotate_left
            ·simp only [Act.put,sIb,sZ,sS,i64_w,i32_w];rfl
            refine pure_ (i:=5) (N:=some 43) (v:=?_) (a':=?_) #[Y,Y,Y,Y,Y,Y,Z,Z,Z,Z,Z,Z,Z,Z,Z,Z,Z,Z,Z,Z,Z,Z,Z,Z,Z,Z,Z,Z,Z,Z,Z,Z,Z,Z,Z,Z,Z,Z,Z,Z,Z,Z,Z,Z] rfl rfl (any_of HT_.out (by kernel_rfl)) (fun _ _ _ h=>h) (Or.inl ⟨by rfl,?_⟩) ?_ ?_;rotate_left
            ·intro w';go_simp;with_reducible rfl
            rotate_left
            ·simp only [Act.put,sIb,sZ,sS,i64_w,i32_w];rfl
            refine pure_ (i:=6) (N:=some 44) (v:=?_) (a':=?_) #[Y,Y,Y,Y,Y,Y,Y,Z,Z,Z,Z,Z,Z,Z,Z,Z,Z,Z,Z,Z,Z,Z,Z,Z,Z,Z,Z,Z,Z,Z,Z,Z,Z,Z,Z,Z,Z,Z,Z,Z,Z,Z,Z,Z] rfl rfl (any_of HT_.out (by kernel_rfl)) (fun _ _ _ h=>h) (Or.inl ⟨by rfl,?_⟩) ?_ ?_;rotate_left
            ·intro w';go_simp;with_reducible rfl
            rotate_left
            ·simp only [Act.put,sIb,sZ,sS,i64_w,i32_w];rfl
            refine pure_ (i:=7) (N:=some 45) (v:=?_) (a':=?_) #[Y,Y,Y,Y,Y,Y,Y,Y,Z,Z,Z,Z,Z,Z,Z,Z,Z,Z,Z,Z,Z,Z,Z,Z,Z,Z,Z,Z,Z,Z,Z,Z,Z,Z,Z,Z,Z,Z,Z,Z,Z,Z,Z,Z] rfl rfl (any_of HT_.out (by kernel_rfl)) (fun _ _ _ h=>h) (Or.inl ⟨by rfl,?_⟩) ?_ ?_;rotate_left
            ·intro w';go_simp;with_reducible rfl
            rotate_left
            ·simp only [Act.put,sIb,sZ,sS,i64_w,i32_w];rfl
            refine pure_ (i:=8) (N:=some 46) (v:=undef) (a':=?_) #[Y,Y,Y,Y,Y,Y,Y,Y,Y,Z,Z,Z,Z,Z,Z,Z,Z,Z,Z,Z,Z,Z,Z,Z,Z,Z,Z,Z,Z,Z,Z,Z,Z,Z,Z,Z,Z,Z,Z,Z,Z,Z,Z,Z] rfl rfl (any_of HT_.out (by kernel_rfl)) (fun _ _ _ h=>h) (Or.inr ⟨by rfl,rfl⟩) ?_ ?_;rotate_left
            ·simp only [Act.put,sIb,sZ,sS,i64_w,i32_w];rfl
            refine pure_ (i:=9) (N:=some 47) (v:=undef) (a':=?_) #[Y,Y,Y,Y,Y,Y,Y,Y,Y,Y,Z,Z,Z,Z,Z,Z,Z,Z,Z,Z,Z,Z,Z,Z,Z,Z,Z,Z,Z,Z,Z,Z,Z,Z,Z,Z,Z,Z,Z,Z,Z,Z,Z,Z] rfl rfl (any_of HT_.out (by kernel_rfl)) (fun _ _ _ h=>h) (Or.inr ⟨by rfl,rfl⟩) ?_ ?_;rotate_left
            ·simp only [Act.put,sIb,sZ,sS,i64_w,i32_w];rfl
            refine pure_ (i:=10) (N:=some 48) (v:=undef) (a':=?_) #[Y,Y,Y,Y,Y,Y,Y,Y,Y,Y,Y,Z,Z,Z,Z,Z,Z,Z,Z,Z,Z,Z,Z,Z,Z,Z,Z,Z,Z,Z,Z,Z,Z,Z,Z,Z,Z,Z,Z,Z,Z,Z,Z,Z] rfl rfl (any_of HT_.out (by kernel_rfl)) (fun _ _ _ h=>h) (Or.inr ⟨by rfl,rfl⟩) ?_ ?_;rotate_left
            ·simp only [Act.put,sIb,sZ,sS,i64_w,i32_w];rfl
            refine pure_ (i:=11) (N:=some 49) (v:=undef) (a':=?_) #[Y,Y,Y,Y,Y,Y,Y,Y,Y,Y,Y,Y,Z,Z,Z,Z,Z,Z,Z,Z,Z,Z,Z,Z,Z,Z,Z,Z,Z,Z,Z,Z,Z,Z,Z,Z,Z,Z,Z,Z,Z,Z,Z,Z] rfl rfl (any_of HT_.out (by kernel_rfl)) (fun _ _ _ h=>h) (Or.inr ⟨by rfl,rfl⟩) ?_ ?_;rotate_left
            ·simp only [Act.put,sIb,sZ,sS,i64_w,i32_w];rfl
            refine pure_ (i:=12) (N:=some 50) (v:=undef) (a':=?_) #[Y,Y,Y,Y,Y,Y,Y,Y,Y,Y,Y,Y,Y,Z,Z,Z,Z,Z,Z,Z,Z,Z,Z,Z,Z,Z,Z,Z,Z,Z,Z,Z,Z,Z,Z,Z,Z,Z,Z,Z,Z,Z,Z,Z] rfl rfl (any_of HT_.out (by kernel_rfl)) (fun _ _ _ h=>h) (Or.inr ⟨by rfl,rfl⟩) ?_ ?_;rotate_left
            ·simp only [Act.put,sIb,sZ,sS,i64_w,i32_w];rfl
            refine pure_ (i:=13) (N:=some 51) (v:=undef) (a':=?_) #[Y,Y,Y,Y,Y,Y,Y,Y,Y,Y,Y,Y,Y,Y,Z,Z,Z,Z,Z,Z,Z,Z,Z,Z,Z,Z,Z,Z,Z,Z,Z,Z,Z,Z,Z,Z,Z,Z,Z,Z,Z,Z,Z,Z] rfl rfl (any_of HT_.out (by kernel_rfl)) (fun _ _ _ h=>h) (Or.inr ⟨by rfl,rfl⟩) ?_ ?_;rotate_left
            ·simp only [Act.put,sIb,sZ,sS,i64_w,i32_w];rfl
            refine pure_ (i:=14) (N:=some 52) (v:=undef) (a':=?_) #[Y,Y,Y,Y,Y,Y,Y,Y,Y,Y,Y,Y,Y,Y,Y,Z,Z,Z,Z,Z,Z,Z,Z,Z,Z,Z,Z,Z,Z,Z,Z,Z,Z,Z,Z,Z,Z,Z,Z,Z,Z,Z,Z,Z] rfl rfl (any_of HT_.out (by kernel_rfl)) (fun _ _ _ h=>h) (Or.inr ⟨by rfl,rfl⟩) ?_ ?_;rotate_left
            ·simp only [Act.put,sIb,sZ,sS,i64_w,i32_w];rfl
            refine pure_ (i:=15) (N:=some 53) (v:=undef) (a':=?_) #[Y,Y,Y,Y,Y,Y,Y,Y,Y,Y,Y,Y,Y,Y,Y,Y,Z,Z,Z,Z,Z,Z,Z,Z,Z,Z,Z,Z,Z,Z,Z,Z,Z,Z,Z,Z,Z,Z,Z,Z,Z,Z,Z,Z] rfl rfl (any_of HT_.out (by kernel_rfl)) (fun _ _ _ h=>h) (Or.inr ⟨by rfl,rfl⟩) ?_ ?_;rotate_left
            ·simp only [Act.put,sIb,sZ,sS,i64_w,i32_w];rfl
            refine pure_ (i:=16) (N:=some 54) (v:=undef) (a':=?_) #[Y,Y,Y,Y,Y,Y,Y,Y,Y,Y,Y,Y,Y,Y,Y,Y,Y,Z,Z,Z,Z,Z,Z,Z,Z,Z,Z,Z,Z,Z,Z,Z,Z,Z,Z,Z,Z,Z,Z,Z,Z,Z,Z,Z] rfl rfl (any_of HT_.out (by kernel_rfl)) (fun _ _ _ h=>h) (Or.inr ⟨by rfl,rfl⟩) ?_ ?_;rotate_left
            ·simp only [Act.put,sIb,sZ,sS,i64_w,i32_w];rfl
            refine pure_ (i:=17) (N:=some 55) (v:=undef) (a':=?_) #[Y,Y,Y,Y,Y,Y,Y,Y,Y,Y,Y,Y,Y,Y,Y,Y,Y,Y,Z,Z,Z,Z,Z,Z,Z,Z,Z,Z,Z,Z,Z,Z,Z,Z,Z,Z,Z,Z,Z,Z,Z,Z,Z,Z] rfl rfl (any_of HT_.out (by kernel_rfl)) (fun _ _ _ h=>h) (Or.inr ⟨by rfl,rfl⟩) ?_ ?_;rotate_left
            ·simp only [Act.put,sIb,sZ,sS,i64_w,i32_w];rfl
            refine pure_ (i:=18) (N:=some 56) (v:=undef) (a':=?_) #[Y,Y,Y,Y,Y,Y,Y,Y,Y,Y,Y,Y,Y,Y,Y,Y,Y,Y,Y,Z,Z,Z,Z,Z,Z,Z,Z,Z,Z,Z,Z,Z,Z,Z,Z,Z,Z,Z,Z,Z,Z,Z,Z,Z] rfl rfl (any_of HT_.out (by kernel_rfl)) (fun _ _ _ h=>h) (Or.inr ⟨by rfl,rfl⟩) ?_ ?_;rotate_left
            ·simp only [Act.put,sIb,sZ,sS,i64_w,i32_w];rfl
            refine pure_ (i:=19) (N:=some 57) (v:=undef) (a':=?_) #[Y,Y,Y,Y,Y,Y,Y,Y,Y,Y,Y,Y,Y,Y,Y,Y,Y,Y,Y,Y,Z,Z,Z,Z,Z,Z,Z,Z,Z,Z,Z,Z,Z,Z,Z,Z,Z,Z,Z,Z,Z,Z,Z,Z] rfl rfl (any_of HT_.out (by kernel_rfl)) (fun _ _ _ h=>h) (Or.inr ⟨by rfl,rfl⟩) ?_ ?_;rotate_left
            ·simp only [Act.put,sIb,sZ,sS,i64_w,i32_w];rfl
            refine pure_ (i:=20) (N:=some 58) (v:=undef) (a':=?_) #[Y,Y,Y,Y,Y,Y,Y,Y,Y,Y,Y,Y,Y,Y,Y,Y,Y,Y,Y,Y,Y,Z,Z,Z,Z,Z,Z,Z,Z,Z,Z,Z,Z,Z,Z,Z,Z,Z,Z,Z,Z,Z,Z,Z] rfl rfl (any_of HT_.out (by kernel_rfl)) (fun _ _ _ h=>h) (Or.inr ⟨by rfl,rfl⟩) ?_ ?_;rotate_left
            ·simp only [Act.put,sIb,sZ,sS,i64_w,i32_w];rfl
            refine pure_ (i:=21) (N:=some 59) (v:=undef) (a':=?_) #[Y,Y,Y,Y,Y,Y,Y,Y,Y,Y,Y,Y,Y,Y,Y,Y,Y,Y,Y,Y,Y,Y,Z,Z,Z,Z,Z,Z,Z,Z,Z,Z,Z,Z,Z,Z,Z,Z,Z,Z,Z,Z,Z,Z] rfl rfl (any_of HT_.out (by kernel_rfl)) (fun _ _ _ h=>h) (Or.inr ⟨by rfl,rfl⟩) ?_ ?_;rotate_left
            ·simp only [Act.put,sIb,sZ,sS,i64_w,i32_w];rfl
            refine pure_ (i:=22) (N:=some 60) (v:=undef) (a':=?_) #[Y,Y,Y,Y,Y,Y,Y,Y,Y,Y,Y,Y,Y,Y,Y,Y,Y,Y,Y,Y,Y,Y,Y,Z,Z,Z,Z,Z,Z,Z,Z,Z,Z,Z,Z,Z,Z,Z,Z,Z,Z,Z,Z,Z] rfl rfl (any_of HT_.out (by kernel_rfl)) (fun _ _ _ h=>h) (Or.inr ⟨by rfl,rfl⟩) ?_ ?_;rotate_left
            ·simp only [Act.put,sIb,sZ,sS,i64_w,i32_w];rfl
            refine pure_ (i:=23) (N:=some 61) (v:=undef) (a':=?_) #[Y,Y,Y,Y,Y,Y,Y,Y,Y,Y,Y,Y,Y,Y,Y,Y,Y,Y,Y,Y,Y,Y,Y,Y,Z,Z,Z,Z,Z,Z,Z,Z,Z,Z,Z,Z,Z,Z,Z,Z,Z,Z,Z,Z] rfl rfl (any_of HT_.out (by kernel_rfl)) (fun _ _ _ h=>h) (Or.inr ⟨by rfl,rfl⟩) ?_ ?_;rotate_left
            ·simp only [Act.put,sIb,sZ,sS,i64_w,i32_w];rfl
            refine pure_ (i:=24) (N:=some 62) (v:=undef) (a':=?_) #[Y,Y,Y,Y,Y,Y,Y,Y,Y,Y,Y,Y,Y,Y,Y,Y,Y,Y,Y,Y,Y,Y,Y,Y,Y,Z,Z,Z,Z,Z,Z,Z,Z,Z,Z,Z,Z,Z,Z,Z,Z,Z,Z,Z] rfl rfl (any_of HT_.out (by kernel_rfl)) (fun _ _ _ h=>h) (Or.inr ⟨by rfl,rfl⟩) ?_ ?_;rotate_left
            ·simp only [Act.put,sIb,sZ,sS,i64_w,i32_w];rfl
            refine pure_ (i:=25) (N:=some 63) (v:=undef) (a':=?_) #[Y,Y,Y,Y,Y,Y,Y,Y,Y,Y,Y,Y,Y,Y,Y,Y,Y,Y,Y,Y,Y,Y,Y,Y,Y,Y,Z,Z,Z,Z,Z,Z,Z,Z,Z,Z,Z,Z,Z,Z,Z,Z,Z,Z] rfl rfl (any_of HT_.out (by kernel_rfl)) (fun _ _ _ h=>h) (Or.inr ⟨by rfl,rfl⟩) ?_ ?_;rotate_left
            ·simp only [Act.put,sIb,sZ,sS,i64_w,i32_w];rfl
            refine pure_ (i:=26) (N:=some 64) (v:=undef) (a':=?_) #[Y,Y,Y,Y,Y,Y,Y,Y,Y,Y,Y,Y,Y,Y,Y,Y,Y,Y,Y,Y,Y,Y,Y,Y,Y,Y,Y,Z,Z,Z,Z,Z,Z,Z,Z,Z,Z,Z,Z,Z,Z,Z,Z,Z] rfl rfl (any_of HT_.out (by kernel_rfl)) (fun _ _ _ h=>h) (Or.inr ⟨by rfl,rfl⟩) ?_ ?_;rotate_left
            ·simp only [Act.put,sIb,sZ,sS,i64_w,i32_w];rfl
            refine pure_ (i:=27) (N:=some 65) (v:=undef) (a':=?_) #[Y,Y,Y,Y,Y,Y,Y,Y,Y,Y,Y,Y,Y,Y,Y,Y,Y,Y,Y,Y,Y,Y,Y,Y,Y,Y,Y,Y,Z,Z,Z,Z,Z,Z,Z,Z,Z,Z,Z,Z,Z,Z,Z,Z] rfl rfl (any_of HT_.out (by kernel_rfl)) (fun _ _ _ h=>h) (Or.inr ⟨by rfl,rfl⟩) ?_ ?_;rotate_left
            ·simp only [Act.put,sIb,sZ,sS,i64_w,i32_w];rfl
            refine pure_ (i:=28) (N:=some 66) (v:=undef) (a':=?_) #[Y,Y,Y,Y,Y,Y,Y,Y,Y,Y,Y,Y,Y,Y,Y,Y,Y,Y,Y,Y,Y,Y,Y,Y,Y,Y,Y,Y,Y,Z,Z,Z,Z,Z,Z,Z,Z,Z,Z,Z,Z,Z,Z,Z] rfl rfl (any_of HT_.out (by kernel_rfl)) (fun _ _ _ h=>h) (Or.inr ⟨by rfl,rfl⟩) ?_ ?_;rotate_left
            ·simp only [Act.put,sIb,sZ,sS,i64_w,i32_w];rfl
            refine pure_ (i:=29) (N:=some 67) (v:=undef) (a':=?_) #[Y,Y,Y,Y,Y,Y,Y,Y,Y,Y,Y,Y,Y,Y,Y,Y,Y,Y,Y,Y,Y,Y,Y,Y,Y,Y,Y,Y,Y,Y,Z,Z,Z,Z,Z,Z,Z,Z,Z,Z,Z,Z,Z,Z] rfl rfl (any_of HT_.out (by kernel_rfl)) (fun _ _ _ h=>h) (Or.inr ⟨by rfl,rfl⟩) ?_ ?_;rotate_left
            ·simp only [Act.put,sIb,sZ,sS,i64_w,i32_w];rfl
            refine pure_ (i:=30) (N:=some 68) (v:=undef) (a':=?_) #[Y,Y,Y,Y,Y,Y,Y,Y,Y,Y,Y,Y,Y,Y,Y,Y,Y,Y,Y,Y,Y,Y,Y,Y,Y,Y,Y,Y,Y,Y,Y,Z,Z,Z,Z,Z,Z,Z,Z,Z,Z,Z,Z,Z] rfl rfl (any_of HT_.out (by kernel_rfl)) (fun _ _ _ h=>h) (Or.inr ⟨by rfl,rfl⟩) ?_ ?_;rotate_left
            ·simp only [Act.put,sIb,sZ,sS,i64_w,i32_w];rfl
            refine pure_ (i:=31) (N:=some 69) (v:=undef) (a':=?_) #[Y,Y,Y,Y,Y,Y,Y,Y,Y,Y,Y,Y,Y,Y,Y,Y,Y,Y,Y,Y,Y,Y,Y,Y,Y,Y,Y,Y,Y,Y,Y,Y,Z,Z,Z,Z,Z,Z,Z,Z,Z,Z,Z,Z] rfl rfl (any_of HT_.out (by kernel_rfl)) (fun _ _ _ h=>h) (Or.inr ⟨by rfl,rfl⟩) ?_ ?_;rotate_left
            ·simp only [Act.put,sIb,sZ,sS,i64_w,i32_w];rfl
            refine pure_ (i:=32) (N:=some 70) (v:=undef) (a':=?_) #[Y,Y,Y,Y,Y,Y,Y,Y,Y,Y,Y,Y,Y,Y,Y,Y,Y,Y,Y,Y,Y,Y,Y,Y,Y,Y,Y,Y,Y,Y,Y,Y,Y,Z,Z,Z,Z,Z,Z,Z,Z,Z,Z,Z] rfl rfl (any_of HT_.out (by kernel_rfl)) (fun _ _ _ h=>h) (Or.inr ⟨by rfl,rfl⟩) ?_ ?_;rotate_left
            ·simp only [Act.put,sIb,sZ,sS,i64_w,i32_w];rfl
            refine pure_ (i:=33) (N:=some 71) (v:=undef) (a':=?_) #[Y,Y,Y,Y,Y,Y,Y,Y,Y,Y,Y,Y,Y,Y,Y,Y,Y,Y,Y,Y,Y,Y,Y,Y,Y,Y,Y,Y,Y,Y,Y,Y,Y,Y,Z,Z,Z,Z,Z,Z,Z,Z,Z,Z] rfl rfl (any_of HT_.out (by kernel_rfl)) (fun _ _ _ h=>h) (Or.inr ⟨by rfl,rfl⟩) ?_ ?_;rotate_left
            ·simp only [Act.put,sIb,sZ,sS,i64_w,i32_w];rfl
            refine pure_ (i:=34) (N:=some 72) (v:=undef) (a':=?_) #[Y,Y,Y,Y,Y,Y,Y,Y,Y,Y,Y,Y,Y,Y,Y,Y,Y,Y,Y,Y,Y,Y,Y,Y,Y,Y,Y,Y,Y,Y,Y,Y,Y,Y,Y,Z,Z,Z,Z,Z,Z,Z,Z,Z] rfl rfl (any_of HT_.out (by kernel_rfl)) (fun _ _ _ h=>h) (Or.inr ⟨by rfl,rfl⟩) ?_ ?_;rotate_left
            ·simp only [Act.put,sIb,sZ,sS,i64_w,i32_w];rfl
            refine pure_ (i:=35) (N:=some 73) (v:=undef) (a':=?_) #[Y,Y,Y,Y,Y,Y,Y,Y,Y,Y,Y,Y,Y,Y,Y,Y,Y,Y,Y,Y,Y,Y,Y,Y,Y,Y,Y,Y,Y,Y,Y,Y,Y,Y,Y,Y,Z,Z,Z,Z,Z,Z,Z,Z] rfl rfl (any_of HT_.out (by kernel_rfl)) (fun _ _ _ h=>h) (Or.inr ⟨by rfl,rfl⟩) ?_ ?_;rotate_left
            ·simp only [Act.put,sIb,sZ,sS,i64_w,i32_w];rfl
            refine pure_ (i:=36) (N:=some 74) (v:=undef) (a':=?_) #[Y,Y,Y,Y,Y,Y,Y,Y,Y,Y,Y,Y,Y,Y,Y,Y,Y,Y,Y,Y,Y,Y,Y,Y,Y,Y,Y,Y,Y,Y,Y,Y,Y,Y,Y,Y,Y,Z,Z,Z,Z,Z,Z,Z] rfl rfl (any_of HT_.out (by kernel_rfl)) (fun _ _ _ h=>h) (Or.inr ⟨by rfl,rfl⟩) ?_ ?_;rotate_left
            ·simp only [Act.put,sIb,sZ,sS,i64_w,i32_w];rfl
            refine pure_ (i:=37) (N:=some 75) (v:=undef) (a':=?_) #[Y,Y,Y,Y,Y,Y,Y,Y,Y,Y,Y,Y,Y,Y,Y,Y,Y,Y,Y,Y,Y,Y,Y,Y,Y,Y,Y,Y,Y,Y,Y,Y,Y,Y,Y,Y,Y,Y,Z,Z,Z,Z,Z,Z] rfl rfl (any_of HT_.out (by kernel_rfl)) (fun _ _ _ h=>h) (Or.inr ⟨by rfl,rfl⟩) ?_ ?_;rotate_left
            ·simp only [Act.put,sIb,sZ,sS,i64_w,i32_w];rfl
            refine pure_ (i:=38) (N:=some 76) (v:=undef) (a':=?_) #[Y,Y,Y,Y,Y,Y,Y,Y,Y,Y,Y,Y,Y,Y,Y,Y,Y,Y,Y,Y,Y,Y,Y,Y,Y,Y,Y,Y,Y,Y,Y,Y,Y,Y,Y,Y,Y,Y,Y,Z,Z,Z,Z,Z] rfl rfl (any_of HT_.out (by kernel_rfl)) (fun _ _ _ h=>h) (Or.inr ⟨by rfl,rfl⟩) ?_ ?_;rotate_left
            ·simp only [Act.put,sIb,sZ,sS,i64_w,i32_w];rfl
            refine pure_ (i:=39) (N:=some 77) (v:=undef) (a':=?_) #[Y,Y,Y,Y,Y,Y,Y,Y,Y,Y,Y,Y,Y,Y,Y,Y,Y,Y,Y,Y,Y,Y,Y,Y,Y,Y,Y,Y,Y,Y,Y,Y,Y,Y,Y,Y,Y,Y,Y,Y,Z,Z,Z,Z] rfl rfl (any_of HT_.out (by kernel_rfl)) (fun _ _ _ h=>h) (Or.inr ⟨by rfl,rfl⟩) ?_ ?_;rotate_left
            ·simp only [Act.put,sIb,sZ,sS,i64_w,i32_w];rfl
            refine pure_ (i:=40) (N:=some 78) (v:=undef) (a':=?_) #[Y,Y,Y,Y,Y,Y,Y,Y,Y,Y,Y,Y,Y,Y,Y,Y,Y,Y,Y,Y,Y,Y,Y,Y,Y,Y,Y,Y,Y,Y,Y,Y,Y,Y,Y,Y,Y,Y,Y,Y,Y,Z,Z,Z] rfl rfl (any_of HT_.out (by kernel_rfl)) (fun _ _ _ h=>h) (Or.inr ⟨by rfl,rfl⟩) ?_ ?_;rotate_left
            ·simp only [Act.put,sIb,sZ,sS,i64_w,i32_w];rfl
            refine pure_ (i:=41) (N:=some 79) (v:=undef) (a':=?_) #[Y,Y,Y,Y,Y,Y,Y,Y,Y,Y,Y,Y,Y,Y,Y,Y,Y,Y,Y,Y,Y,Y,Y,Y,Y,Y,Y,Y,Y,Y,Y,Y,Y,Y,Y,Y,Y,Y,Y,Y,Y,Y,Z,Z] rfl rfl (any_of HT_.out (by kernel_rfl)) (fun _ _ _ h=>h) (Or.inr ⟨by rfl,rfl⟩) ?_ ?_;rotate_left
            ·simp only [Act.put,sIb,sZ,sS,i64_w,i32_w];rfl
            refine pure_ (i:=42) (N:=some 80) (v:=?_) (a':=?_) #[Y,Y,Y,Y,Y,Y,Y,Y,Y,Y,Y,Y,Y,Y,Y,Y,Y,Y,Y,Y,Y,Y,Y,Y,Y,Y,Y,Y,Y,Y,Y,Y,Y,Y,Y,Y,Y,Y,Y,Y,Y,Y,Y,Z] rfl rfl (any_of HT_.out (by kernel_rfl)) (fun _ _ _ h=>h) (Or.inl ⟨by rfl,?_⟩) ?_ ?_;rotate_left
            ·intro w';go_simp;with_reducible rfl
            rotate_left
            ·simp only [Act.put,sIb,sZ,sS,i64_w,i32_w];rfl
            refine pure_ (i:=43) (N:=some 81) (v:=?_) (a':=?_) #[Y,Y,Y,Y,Y,Y,Y,Y,Y,Y,Y,Y,Y,Y,Y,Y,Y,Y,Y,Y,Y,Y,Y,Y,Y,Y,Y,Y,Y,Y,Y,Y,Y,Y,Y,Y,Y,Y,Y,Y,Y,Y,Y,Y] rfl rfl (any_of HT_.out (by kernel_rfl)) (fun _ _ _ h=>h) (Or.inl ⟨by rfl,?_⟩) ?_ ?_;rotate_left
            ·intro w';go_simp;with_reducible rfl
            rotate_left
            ·simp only [Act.put,sIb,sZ,sS,i64_w,i32_w];rfl
            refine done_ (done_of HT_.out (by kernel_rfl)) ?_;try go_wp2
            go_meet
            case rel=>exact ⟨_,(false),(by first|rfl|(simp;done)|(simp [*];done)),H',⟨by have:=HJ1.out;have:=HK2.out;first|omega|exact Nat.le_refl _⟩,⟨by (with_reducible repeat (first|refine qN ?_ _|refine qW ?_|refine qL ?_ _));exact BK116.out⟩,⟨by (with_reducible repeat (first|refine qN ?_ _|refine qW ?_|refine qL ?_ _));exact BK121.out⟩,⟨by repeat (first|(with_reducible first|exact HB.out|apply qA|apply qD|apply qO|refine qS ?_ GE116.out|refine qS ?_ GE121.out)|exact HB.out)⟩⟩
         case rest =>
          clear HC26;try clear p2
          try clear c3
          try clear c35
          try clear c35b0
          try clear c37
          try clear c38
          obtain ⟨kq,x81_25,rfl,HA,HJ25,BK116,BK121,HB⟩:=hcut;cases kq with
          | zero=>exact absurd HA.out (by simp [spec_GoodLocks.j2])
          | succ kj25 =>
           have H:=HA.out;clear HA;simp only [spec_GoodLocks.j2] at H;by_cases c53:x81_25=true
           ·subst c53;have H1:(some false)=some r:=by rw [if_pos rfl] at H;exact H
            clear H;have H:=H1;clear H1;obtain rfl:=Option.some.inj H;go_wp2
            go_ret
            exact ⟨by first|rfl|(simp [errW_none,errW_some] <;> rfl)|(simp [*,errW_none,errW_some] <;> rfl),by repeat (first|(with_reducible first|exact HB.out|apply qA|apply qD|apply qO|refine qS ?_ GE116.out|refine qS ?_ GE121.out)|exact HB.out)⟩
           ·replace c53:=Bool.eq_false_iff.mpr c53;subst c53;have H1:(if 0≤x33_2 then (if x33_2≤(l0_0.length:Int) then ((some (l0_0.take (x33_2:Int).toNat:List (S47))).bind fun y126=>(spec_GoodLocks.l1 kj25 l0_0 (l0_0.length:Int) x33_2 y126 (y126.length:Int) 0 l0_0 l0_1 l0_2 l0_3 l0_4 ((rd_T47 l0_0 x33_2).f0) ((rd_T47 l0_0 x33_2).f1) ((rd_T47 l0_0 x33_2).f2))) else (none)) else (none))=some r:=by rw [if_neg (show ¬ (false=true) by decide)] at H;exact H
            clear H;have H:=H1;clear H1;by_cases c54:0≤x33_2
            ·rw [if_pos c54] at H;have c54b0:=eq_true c54;have c54b1:decide (0≤x33_2)=true:=decide_eq_true c54;clear c54;by_cases c55:x33_2≤(l0_0.length:Int)
             ·rw [if_pos c55] at H;have c55b0:=eq_true c55;have c55b1:decide (x33_2≤(l0_0.length:Int))=true:=decide_eq_true c55;clear c55;obtain ⟨y126,hy126⟩:∃ y_:List (S47),y_=(l0_0.take (x33_2:Int).toNat):=⟨_,rfl⟩;replace H:(spec_GoodLocks.l1 kj25 l0_0 (l0_0.length:Int) x33_2 y126 (y126.length:Int) 0 l0_0 l0_1 l0_2 l0_3 l0_4 ((rd_T47 l0_0 x33_2).f0) ((rd_T47 l0_0 x33_2).f1) ((rd_T47 l0_0 x33_2).f2))=some r:=by first|(rw [hy126];with_reducible exact H)|(have H2_:=(Option.bind_some _ _).symm.trans H;rw [hy126];with_reducible exact H2_)|(have H2_:=(Option.bind_some _ _).symm.trans H;with_reducible exact H2_)|with_reducible exact H|(rw [hy126];exact H)|exact H
              have Ny126:=qK hy126;clear hy126;have H':=qK H;clear H;have hnb56:=NB116_121.out;have hnc56:=NB121_116.out;have hcz57_0:wc.cell? ⟨gb116,0,none⟩=some (.slice (some ad120) l0_0.length c0_0):=(qC BK116.out 0).trans rfl;have hcz57_1:wc.cell? ⟨gb116,1,none⟩=some (.slice A0_1 l0_1.length c0_1):=(qC BK116.out 1).trans rfl;have hcz57_2:wc.cell? ⟨gb116,2,none⟩=some (.slice A0_2 l0_2.length c0_2):=(qC BK116.out 2).trans rfl;have hcz57_3:wc.cell? ⟨gb116,3,none⟩=some (.slice A0_3 l0_3.length c0_3):=(qC BK116.out 3).trans rfl;have hcz57_4:wc.cell? ⟨gb116,4,none⟩=some (.slice A0_4 l0_4.length c0_4):=(qC BK116.out 4).trans rfl;have hfz57_0:=qF BK116.out 0;have hfz57_1:=qF BK116.out 1;have hfz57_2:=qF BK116.out 2;have hfz57_3:=qF BK116.out 3;have hfz57_4:=qF BK116.out 4;have q58:(x33_2:Int)≤((l0_0.length:Int):Int):=of_decide_eq_true (by first|(with_reducible assumption)|assumption);obtain ⟨i058,hi058,_,hsz58,_⟩:=info_parts info47;have hroom58:l0_0.length≤c0_0:=HC0_0.out;have hC58:Kd.C k47 _ (some ad120) l0_0.length l0_0:=HR0_0.out;have hcut58:=cut_to (P:=Try.prog) 27 47 .i64 Try.underlying27 hi058 (some ad120) l0_0.length c0_0 x33_2 (of_decide_eq_true (by first|(with_reducible assumption)|assumption)) q58 hroom58;have hr58:=Kd.C_take (m:=(x33_2:Int).toNat) hC58 (by omega);have hy58:y126.length=(x33_2:Int).toNat:=(by rw [Ny126.out,lT];omega);rw [← Ny126.out] at hr58;rw [← hy58] at hcut58;have HR129:=qK hr58;have HC129:=qK (show y126.length≤c0_0 from by omega);clear hr58 hC58 hroom58 hi058 hsz58;have KY58:=qK hy58;clear hy58;replace q58:=eq_true q58;go_wp2
              go_loopg [87] kj25 (fun kq v87 w'=>∃ (x87_4:Int),v87=.int .i64 x87_4∧Aside0 (spec_GoodLocks.l1 kq l0_0 (l0_0.length:Int) x33_2 y126 (y126.length:Int) x87_4 l0_0 l0_1 l0_2 l0_3 l0_4 ((rd_T47 l0_0 x33_2).f0) ((rd_T47 l0_0 x33_2).f1) ((rd_T47 l0_0 x33_2).f2)=some r)∧Aside0 (kq≤kj25)∧Aside0 (w'.heap[gb116]?=some (.cells #[(.slice (some ad120) l0_0.length c0_0),(.slice A0_1 l0_1.length c0_1),(.slice A0_2 l0_2.length c0_2),(.slice A0_3 l0_3.length c0_3),(.slice A0_4 l0_4.length c0_4)] 31 (0,0)))∧Aside0 (w'.heap[gb121]?=some (.cells #[.int .i64 ((rd_T47 l0_0 x33_2).f0),.int .i64 ((rd_T47 l0_0 x33_2).f1),.int .i64 ((rd_T47 l0_0 x33_2).f2)] 47 (0,0)))∧Aside0 (Below w.heap.size w w'))
              case atStart=>exact ⟨(0),(by first|rfl|(simp;done)|(simp [*];done)),H',⟨Nat.le_refl _⟩,⟨by (with_reducible repeat (first|refine qN ?_ _|refine qW ?_|refine qL ?_ _));exact BK116.out⟩,⟨by (with_reducible repeat (first|refine qN ?_ _|refine qW ?_|refine qL ?_ _));exact BK121.out⟩,⟨by repeat (first|(with_reducible first|exact HB.out|apply qA|apply qD|apply qO|refine qS ?_ GE116.out|refine qS ?_ GE121.out)|exact HB.out)⟩⟩
              case round =>
               clear H';try clear p2
               try clear c3
               try clear c5
               try clear q5
               try clear c35
               try clear c35b0
               try clear c37
               try clear c38
               try clear c53
               try clear c54
               try clear c54b0
               try clear c54b1
               try clear c55
               try clear c55b0
               try clear c55b1
               try clear c56
               try clear q58
               try clear hcz57_0
               try clear hcz57_1
               try clear hcz57_2
               try clear hcz57_3
               try clear hcz57_4
               try clear hfz57_0
               try clear hfz57_1
               try clear hfz57_2
               try clear hfz57_3
               try clear hfz57_4
               try clear p2
               try clear q58
               obtain ⟨x87_4,rfl,HA,HK4,BK116,BK121,HB⟩:=hrel;cases gk with
               | zero=>exact absurd HA.out (by simp [spec_GoodLocks.l1])
               | succ k4 =>
                have H:=HA.out;clear HA;simp only [spec_GoodLocks.l1] at H;by_cases c59:x87_4 < (y126.length:Int)
                ·rw [if_pos c59] at H;have c59b0:decide (x87_4 < (y126.length:Int))=true:=decide_eq_true c59;clear c59;by_cases c60:0≤x87_4
                 ·rw [if_pos c60] at H;have c60b0:decide (0≤x87_4)=true:=decide_eq_true c60;clear c60;by_cases c61:x87_4 < (y126.length:Int)
                  ·rw [if_pos c61] at H;have c61b0:decide (x87_4 < (y126.length:Int))=true:=decide_eq_true c61;clear c61;replace H:=Option.bind_eq_some_iff.mp H;obtain ⟨t132,A620,H⟩:=H;replace H:(if t132=true then (some false) else (spec_GoodLocks.l1 k4 l0_0 (l0_0.length:Int) x33_2 y126 (y126.length:Int) (wrap64 (x87_4 + 1)) l0_0 l0_1 l0_2 l0_3 l0_4 ((rd_T47 l0_0 x33_2).f0) ((rd_T47 l0_0 x33_2).f1) ((rd_T47 l0_0 x33_2).f2)))=some r:=H;have A62:=qK A620;clear A620;by_cases c63:t132=true
                   ·subst c63;have H1:(some false)=some r:=by rw [if_pos rfl] at H;exact H
                    clear H;have H:=H1;clear H1;obtain rfl:=Option.some.inj H;have p130:0≤(x87_4:Int):=of_decide_eq_true (by first|(with_reducible assumption)|assumption);have q130:x87_4 < (y126.length:Int):=of_decide_eq_true (by first|(with_reducible assumption)|assumption);obtain ⟨ad130,e130,hx130_0,hx130_1,hx130_2⟩:=at_T47 HR129.out x87_4 p130 q130;obtain rfl:ad120=ad130:=(by injection e130);replace hx130_0:=(HB.out.cell (World.block_lt_of_cell? w _ hx130_0)).trans hx130_0;replace hx130_1:=(HB.out.cell (World.block_lt_of_cell? w _ hx130_1)).trans hx130_1;replace hx130_2:=(HB.out.cell (World.block_lt_of_cell? w _ hx130_2)).trans hx130_2;replace p130:=eq_true p130;replace q130:=eq_true q130;go_wp2_with (first|((with_reducible refine gate_dst (N:=6) rfl ?_);refine box_event ?hg (N:=6) ?hd (cs:=#[.int .i64 0,.int .i64 0,.int .i64 0]) (t:=47) ?hr ?_;(case hd=>rfl);(case hg=>rfl);(case hr=>(go_simp;try rfl));intro gb131 hg w64 hbox hb;have n0_:=qK (qB (g:=gb116) (o:=_) (by (with_reducible repeat (first|refine qN ?_ _|refine qW ?_|refine qL ?_ _));exact BK116.out) hb);have n1_:=qK (qB (g:=gb121) (o:=_) (by (with_reducible repeat (first|refine qN ?_ _|refine qW ?_|refine qL ?_ _));exact BK121.out) hb);have n2_:=qK (qT (by repeat (with_reducible first|exact HB.out|apply qA|apply qD|apply qO|refine qS ?_ GE116.out|refine qS ?_ GE121.out)) hb);have n3_:=qK (hbox);have n4_:=qK ((by rw [hg];exact (qZ (by repeat (with_reducible first|exact HB.out|apply qA|apply qD|apply qO|refine qS ?_ GE116.out|refine qS ?_ GE121.out))):w.heap.size≤gb131));have n5_:=qK ((by rw [hg];exact (qZ (by repeat (with_reducible first|exact HB.out|apply qA|apply qD|apply qO|refine qS ?_ GE116.out|refine qS ?_ GE121.out))):w.heap.size≤gb131));have n6_:=qK ((by rw [hg];exact Nat.ne_of_lt (blk_lt (g:=gb116) (o:=_) (by (with_reducible repeat (first|refine qN ?_ _|refine qW ?_|refine qL ?_ _));exact BK116.out)):gb116 ≠ gb131));have n7_:=qK ((by rw [hg];exact Nat.ne_of_gt (blk_lt (g:=gb116) (o:=_) (by (with_reducible repeat (first|refine qN ?_ _|refine qW ?_|refine qL ?_ _));exact BK116.out)):gb131 ≠ gb116));have n8_:=qK ((by rw [hg];exact Nat.ne_of_lt (blk_lt (g:=gb121) (o:=_) (by (with_reducible repeat (first|refine qN ?_ _|refine qW ?_|refine qL ?_ _));exact BK121.out)):gb121 ≠ gb131));have n9_:=qK ((by rw [hg];exact Nat.ne_of_gt (blk_lt (g:=gb121) (o:=_) (by (with_reducible repeat (first|refine qN ?_ _|refine qW ?_|refine qL ?_ _));exact BK121.out)):gb131 ≠ gb121));clear BK116;clear BK121;clear HB;have BK116:=n0_;have BK121:=n1_;have HB:=n2_;have BK131:=n3_;have GW131:=n4_;have GE131:=n5_;have NB116_131:=n6_;have NB131_116:=n7_;have NB121_131:=n8_;have NB131_121:=n9_;clear n0_ n1_ n2_ n3_ n4_ n5_ n6_ n7_ n8_ n9_;clear hb hbox hg;have hnb65:=NB131_116.out;have hnc65:=NB116_131.out;have hnb66:=NB131_121.out;have hnc66:=NB121_131.out;have hcz67_0:w64.cell? ⟨gb131,0,none⟩=some (.int .i64 0):=(qC BK131.out 0).trans rfl;have hcz67_1:w64.cell? ⟨gb131,1,none⟩=some (.int .i64 0):=(qC BK131.out 1).trans rfl;have hcz67_2:w64.cell? ⟨gb131,2,none⟩=some (.int .i64 0):=(qC BK131.out 2).trans rfl;have hfz67_0:=qF BK131.out 0;have hfz67_1:=qF BK131.out 1;have hfz67_2:=qF BK131.out 2;have hnb68:=NB121_116.out;have hnc68:=NB116_121.out;have hcz69_0:w64.cell? ⟨gb121,0,none⟩=some (.int .i64 ((rd_T47 l0_0 x33_2).f0)):=(qC BK121.out 0).trans rfl;have hcz69_1:w64.cell? ⟨gb121,1,none⟩=some (.int .i64 ((rd_T47 l0_0 x33_2).f1)):=(qC BK121.out 1).trans rfl;have hcz69_2:w64.cell? ⟨gb121,2,none⟩=some (.int .i64 ((rd_T47 l0_0 x33_2).f2)):=(qC BK121.out 2).trans rfl;have hfz69_0:=qF BK121.out 0;have hfz69_1:=qF BK121.out 1;have hfz69_2:=qF BK121.out 2)|((with_reducible refine gate_callee (f:=39) rfl ?_);refine goesL_ (some 93) rfl rfl Try.func39 (by kernel_rfl) rfl #[.agg #[.int .i64 ((rd_T47 l0_0 x33_2).f0),.int .i64 ((rd_T47 l0_0 x33_2).f1),.int .i64 ((rd_T47 l0_0 x33_2).f2)],.agg #[.int .i64 ((rd_T47 y126 x87_4).f0),.int .i64 ((rd_T47 y126 x87_4).f1),.int .i64 ((rd_T47 y126 x87_4).f2)]] rfl (by (try simp only [mT,mC,mN]);first|done|rfl|(simp only [lD,lT];rfl)) ?_;(with_reducible refine (spec_l13Clash.calls ((rd_T47 l0_0 x33_2).f0) ((rd_T47 l0_0 x33_2).f1) ((rd_T47 l0_0 x33_2).f2) ((rd_T47 y126 x87_4).f0) ((rd_T47 y126 x87_4).f1) ((rd_T47 y126 x87_4).f2) true _ A62.out).mono ?_);rintro e w70 ⟨rfl,hb⟩;refine ⟨_,rfl,?_⟩;have n0_:=qK (qB (g:=gb116) (o:=.cells #[.slice (some ad120) l0_0.length c0_0,.slice A0_1 l0_1.length c0_1,.slice A0_2 l0_2.length c0_2,.slice A0_3 l0_3.length c0_3,.slice A0_4 l0_4.length c0_4] 31 (0,0)) (by (with_reducible repeat (first|refine qN ?_ _|refine qW ?_|refine qL ?_ _));refine qR ?_ NB116_131.out _;(with_reducible repeat (first|refine qN ?_ _|refine qW ?_|refine qL ?_ _));refine qR ?_ NB116_131.out _;(with_reducible repeat (first|refine qN ?_ _|refine qW ?_|refine qL ?_ _));refine qR ?_ NB116_131.out _;(with_reducible repeat (first|refine qN ?_ _|refine qW ?_|refine qL ?_ _));exact BK116.out) hb);have n1_:=qK (qB (g:=gb121) (o:=.cells #[.int .i64 ((rd_T47 l0_0 x33_2).f0),.int .i64 ((rd_T47 l0_0 x33_2).f1),.int .i64 ((rd_T47 l0_0 x33_2).f2)] 47 (0,0)) (by (with_reducible repeat (first|refine qN ?_ _|refine qW ?_|refine qL ?_ _));refine qR ?_ NB121_131.out _;(with_reducible repeat (first|refine qN ?_ _|refine qW ?_|refine qL ?_ _));refine qR ?_ NB121_131.out _;(with_reducible repeat (first|refine qN ?_ _|refine qW ?_|refine qL ?_ _));refine qR ?_ NB121_131.out _;(with_reducible repeat (first|refine qN ?_ _|refine qW ?_|refine qL ?_ _));exact BK121.out) hb);have n2_:=qK (qB (g:=gb131) (o:=.cells #[.int .i64 ((rd_T47 y126 x87_4).f0),.int .i64 ((rd_T47 y126 x87_4).f1),.int .i64 ((rd_T47 y126 x87_4).f2)] 47 (0,0)) (by (with_reducible repeat (first|refine qN ?_ _|refine qW ?_|refine qL ?_ _));refine qP (cs:=#[.int .i64 ((rd_T47 y126 x87_4).f0),.int .i64 ((rd_T47 y126 x87_4).f1),.int .i64 0]) ?_ 2 _ rfl;(with_reducible repeat (first|refine qN ?_ _|refine qW ?_|refine qL ?_ _));refine qP (cs:=#[.int .i64 ((rd_T47 y126 x87_4).f0),.int .i64 0,.int .i64 0]) ?_ 1 _ rfl;(with_reducible repeat (first|refine qN ?_ _|refine qW ?_|refine qL ?_ _));refine qP (cs:=#[.int .i64 0,.int .i64 0,.int .i64 0]) ?_ 0 _ rfl;(with_reducible repeat (first|refine qN ?_ _|refine qW ?_|refine qL ?_ _));exact BK131.out) hb);have n3_:=qK (qT (by repeat (with_reducible first|exact HB.out|apply qA|apply qD|apply qO|refine qS ?_ GE116.out|refine qS ?_ GE121.out|refine qS ?_ GE131.out)) hb);clear BK116;clear BK121;clear BK131;clear HB;have BK116:=n0_;have BK121:=n1_;have BK131:=n2_;have HB:=n3_;clear n0_ n1_ n2_ n3_;(try clear hb)))
                    go_ret
                    exact ⟨by first|rfl|(simp [errW_none,errW_some] <;> rfl)|(simp [*,errW_none,errW_some] <;> rfl),by repeat (first|(with_reducible first|exact HB.out|apply qA|apply qD|apply qO|refine qS ?_ GE116.out|refine qS ?_ GE121.out|refine qS ?_ GE131.out)|exact HB.out)⟩
                   ·replace c63:=Bool.eq_false_iff.mpr c63;subst c63;have H1:(spec_GoodLocks.l1 k4 l0_0 (l0_0.length:Int) x33_2 y126 (y126.length:Int) (wrap64 (x87_4 + 1)) l0_0 l0_1 l0_2 l0_3 l0_4 ((rd_T47 l0_0 x33_2).f0) ((rd_T47 l0_0 x33_2).f1) ((rd_T47 l0_0 x33_2).f2))=some r:=by rw [if_neg (show ¬ (false=true) by decide)] at H;exact H
                    clear H;have H:=H1;clear H1;have H':=qK H;clear H;have p130:0≤(x87_4:Int):=of_decide_eq_true (by first|(with_reducible assumption)|assumption);have q130:x87_4 < (y126.length:Int):=of_decide_eq_true (by first|(with_reducible assumption)|assumption);obtain ⟨ad130,e130,hx130_0,hx130_1,hx130_2⟩:=at_T47 HR129.out x87_4 p130 q130;obtain rfl:ad120=ad130:=(by injection e130);replace hx130_0:=(HB.out.cell (World.block_lt_of_cell? w _ hx130_0)).trans hx130_0;replace hx130_1:=(HB.out.cell (World.block_lt_of_cell? w _ hx130_1)).trans hx130_1;replace hx130_2:=(HB.out.cell (World.block_lt_of_cell? w _ hx130_2)).trans hx130_2;replace p130:=eq_true p130;replace q130:=eq_true q130;go_wp2_with (first|((with_reducible refine gate_dst (N:=6) rfl ?_);refine box_event ?hg (N:=6) ?hd (cs:=#[.int .i64 0,.int .i64 0,.int .i64 0]) (t:=47) ?hr ?_;(case hd=>rfl);(case hg=>rfl);(case hr=>(go_simp;try rfl));intro gb131 hg w71 hbox hb;have n0_:=qK (qB (g:=gb116) (o:=_) (by (with_reducible repeat (first|refine qN ?_ _|refine qW ?_|refine qL ?_ _));exact BK116.out) hb);have n1_:=qK (qB (g:=gb121) (o:=_) (by (with_reducible repeat (first|refine qN ?_ _|refine qW ?_|refine qL ?_ _));exact BK121.out) hb);have n2_:=qK (qT (by repeat (with_reducible first|exact HB.out|apply qA|apply qD|apply qO|refine qS ?_ GE116.out|refine qS ?_ GE121.out)) hb);have n3_:=qK (hbox);have n4_:=qK ((by rw [hg];exact (qZ (by repeat (with_reducible first|exact HB.out|apply qA|apply qD|apply qO|refine qS ?_ GE116.out|refine qS ?_ GE121.out))):w.heap.size≤gb131));have n5_:=qK ((by rw [hg];exact (qZ (by repeat (with_reducible first|exact HB.out|apply qA|apply qD|apply qO|refine qS ?_ GE116.out|refine qS ?_ GE121.out))):w.heap.size≤gb131));have n6_:=qK ((by rw [hg];exact Nat.ne_of_lt (blk_lt (g:=gb116) (o:=_) (by (with_reducible repeat (first|refine qN ?_ _|refine qW ?_|refine qL ?_ _));exact BK116.out)):gb116 ≠ gb131));have n7_:=qK ((by rw [hg];exact Nat.ne_of_gt (blk_lt (g:=gb116) (o:=_) (by (with_reducible repeat (first|refine qN ?_ _|refine qW ?_|refine qL ?_ _));exact BK116.out)):gb131 ≠ gb116));have n8_:=qK ((by rw [hg];exact Nat.ne_of_lt (blk_lt (g:=gb121) (o:=_) (by (with_reducible repeat (first|refine qN ?_ _|refine qW ?_|refine qL ?_ _));exact BK121.out)):gb121 ≠ gb131));have n9_:=qK ((by rw [hg];exact Nat.ne_of_gt (blk_lt (g:=gb121) (o:=_) (by (with_reducible repeat (first|refine qN ?_ _|refine qW ?_|refine qL ?_ _));exact BK121.out)):gb131 ≠ gb121));clear BK116;clear BK121;clear HB;have BK116:=n0_;have BK121:=n1_;have HB:=n2_;have BK131:=n3_;have GW131:=n4_;have GE131:=n5_;have NB116_131:=n6_;have NB131_116:=n7_;have NB121_131:=n8_;have NB131_121:=n9_;clear n0_ n1_ n2_ n3_ n4_ n5_ n6_ n7_ n8_ n9_;clear hb hbox hg;have hnb72:=NB131_116.out;have hnc72:=NB116_131.out;have hnb73:=NB131_121.out;have hnc73:=NB121_131.out;have hcz74_0:w71.cell? ⟨gb131,0,none⟩=some (.int .i64 0):=(qC BK131.out 0).trans rfl;have hcz74_1:w71.cell? ⟨gb131,1,none⟩=some (.int .i64 0):=(qC BK131.out 1).trans rfl;have hcz74_2:w71.cell? ⟨gb131,2,none⟩=some (.int .i64 0):=(qC BK131.out 2).trans rfl;have hfz74_0:=qF BK131.out 0;have hfz74_1:=qF BK131.out 1;have hfz74_2:=qF BK131.out 2;have hnb75:=NB121_116.out;have hnc75:=NB116_121.out;have hcz76_0:w71.cell? ⟨gb121,0,none⟩=some (.int .i64 ((rd_T47 l0_0 x33_2).f0)):=(qC BK121.out 0).trans rfl;have hcz76_1:w71.cell? ⟨gb121,1,none⟩=some (.int .i64 ((rd_T47 l0_0 x33_2).f1)):=(qC BK121.out 1).trans rfl;have hcz76_2:w71.cell? ⟨gb121,2,none⟩=some (.int .i64 ((rd_T47 l0_0 x33_2).f2)):=(qC BK121.out 2).trans rfl;have hfz76_0:=qF BK121.out 0;have hfz76_1:=qF BK121.out 1;have hfz76_2:=qF BK121.out 2)|((with_reducible refine gate_callee (f:=39) rfl ?_);refine goesL_ (some 93) rfl rfl Try.func39 (by kernel_rfl) rfl #[.agg #[.int .i64 ((rd_T47 l0_0 x33_2).f0),.int .i64 ((rd_T47 l0_0 x33_2).f1),.int .i64 ((rd_T47 l0_0 x33_2).f2)],.agg #[.int .i64 ((rd_T47 y126 x87_4).f0),.int .i64 ((rd_T47 y126 x87_4).f1),.int .i64 ((rd_T47 y126 x87_4).f2)]] rfl (by (try simp only [mT,mC,mN]);first|done|rfl|(simp only [lD,lT];rfl)) ?_;(with_reducible refine (spec_l13Clash.calls ((rd_T47 l0_0 x33_2).f0) ((rd_T47 l0_0 x33_2).f1) ((rd_T47 l0_0 x33_2).f2) ((rd_T47 y126 x87_4).f0) ((rd_T47 y126 x87_4).f1) ((rd_T47 y126 x87_4).f2) false _ A62.out).mono ?_);rintro e w77 ⟨rfl,hb⟩;refine ⟨_,rfl,?_⟩;have n0_:=qK (qB (g:=gb116) (o:=.cells #[.slice (some ad120) l0_0.length c0_0,.slice A0_1 l0_1.length c0_1,.slice A0_2 l0_2.length c0_2,.slice A0_3 l0_3.length c0_3,.slice A0_4 l0_4.length c0_4] 31 (0,0)) (by (with_reducible repeat (first|refine qN ?_ _|refine qW ?_|refine qL ?_ _));refine qR ?_ NB116_131.out _;(with_reducible repeat (first|refine qN ?_ _|refine qW ?_|refine qL ?_ _));refine qR ?_ NB116_131.out _;(with_reducible repeat (first|refine qN ?_ _|refine qW ?_|refine qL ?_ _));refine qR ?_ NB116_131.out _;(with_reducible repeat (first|refine qN ?_ _|refine qW ?_|refine qL ?_ _));exact BK116.out) hb);have n1_:=qK (qB (g:=gb121) (o:=.cells #[.int .i64 ((rd_T47 l0_0 x33_2).f0),.int .i64 ((rd_T47 l0_0 x33_2).f1),.int .i64 ((rd_T47 l0_0 x33_2).f2)] 47 (0,0)) (by (with_reducible repeat (first|refine qN ?_ _|refine qW ?_|refine qL ?_ _));refine qR ?_ NB121_131.out _;(with_reducible repeat (first|refine qN ?_ _|refine qW ?_|refine qL ?_ _));refine qR ?_ NB121_131.out _;(with_reducible repeat (first|refine qN ?_ _|refine qW ?_|refine qL ?_ _));refine qR ?_ NB121_131.out _;(with_reducible repeat (first|refine qN ?_ _|refine qW ?_|refine qL ?_ _));exact BK121.out) hb);have n2_:=qK (qB (g:=gb131) (o:=.cells #[.int .i64 ((rd_T47 y126 x87_4).f0),.int .i64 ((rd_T47 y126 x87_4).f1),.int .i64 ((rd_T47 y126 x87_4).f2)] 47 (0,0)) (by (with_reducible repeat (first|refine qN ?_ _|refine qW ?_|refine qL ?_ _));refine qP (cs:=#[.int .i64 ((rd_T47 y126 x87_4).f0),.int .i64 ((rd_T47 y126 x87_4).f1),.int .i64 0]) ?_ 2 _ rfl;(with_reducible repeat (first|refine qN ?_ _|refine qW ?_|refine qL ?_ _));refine qP (cs:=#[.int .i64 ((rd_T47 y126 x87_4).f0),.int .i64 0,.int .i64 0]) ?_ 1 _ rfl;(with_reducible repeat (first|refine qN ?_ _|refine qW ?_|refine qL ?_ _));refine qP (cs:=#[.int .i64 0,.int .i64 0,.int .i64 0]) ?_ 0 _ rfl;(with_reducible repeat (first|refine qN ?_ _|refine qW ?_|refine qL ?_ _));exact BK131.out) hb);have n3_:=qK (qT (by repeat (with_reducible first|exact HB.out|apply qA|apply qD|apply qO|refine qS ?_ GE116.out|refine qS ?_ GE121.out|refine qS ?_ GE131.out)) hb);clear BK116;clear BK121;clear BK131;clear HB;have BK116:=n0_;have BK121:=n1_;have BK131:=n2_;have HB:=n3_;clear n0_ n1_ n2_ n3_;(try clear hb)))
                    go_roundg k4
                    case measure=>have:=HJ1.out;have:=HK2.out;have:=HJ25.out;have:=HK4.out;omega
                    case rel=>exact ⟨(wrap64 (x87_4 + 1)),(by first|rfl|(simp;done)|(simp [*];done)),H',⟨by have:=HJ1.out;have:=HK2.out;have:=HJ25.out;have:=HK4.out;omega⟩,⟨by (with_reducible repeat (first|refine qN ?_ _|refine qW ?_|refine qL ?_ _));exact BK116.out⟩,⟨by (with_reducible repeat (first|refine qN ?_ _|refine qW ?_|refine qL ?_ _));exact BK121.out⟩,⟨by repeat (first|(with_reducible first|exact HB.out|apply qA|apply qD|apply qO|refine qS ?_ GE116.out|refine qS ?_ GE121.out|refine qS ?_ GE131.out)|exact HB.out)⟩⟩
                  ·rw [if_neg c61] at H;exact absurd H (by simp)
                 ·rw [if_neg c60] at H;exact absurd H (by simp)
                ·rw [if_neg c59] at H;have c59b0:decide (x87_4 < (y126.length:Int))=false:=decide_eq_false c59;clear c59;have H':=qK H;clear H;go_wp2
                 go_roundg k4
                 case measure=>have:=HJ1.out;have:=HK2.out;have:=HJ25.out;have:=HK4.out;omega
                 case rel=>exact ⟨(wrap64 (x33_2 + 1)),(by first|rfl|(simp;done)|(simp [*];done)),H',⟨by have:=HJ1.out;have:=HK2.out;have:=HJ25.out;have:=HK4.out;omega⟩,⟨by (with_reducible repeat (first|refine qN ?_ _|refine qW ?_|refine qL ?_ _));exact BK116.out⟩,⟨by repeat (first|(with_reducible first|exact HB.out|apply qA|apply qD|apply qO|refine qS ?_ GE116.out|refine qS ?_ GE121.out)|exact HB.out)⟩⟩
             ·rw [if_neg c55] at H;exact absurd H (by simp)
            ·rw [if_neg c54] at H;exact absurd H (by simp)
        ·rw [if_neg c25] at H;exact absurd H (by simp)
       ·rw [if_neg c24] at H;exact absurd H (by simp)
      ·rw [if_neg c23] at H;have c23b0:decide (x33_2 < (l0_0.length:Int))=false:=decide_eq_false c23;clear c23;have H':=qK H;clear H;have hcz78_0:wr.cell? ⟨gb116,0,none⟩=some (.slice A0_0 l0_0.length c0_0):=(qC BK116.out 0).trans rfl;have hcz78_1:wr.cell? ⟨gb116,1,none⟩=some (.slice A0_1 l0_1.length c0_1):=(qC BK116.out 1).trans rfl;have hcz78_2:wr.cell? ⟨gb116,2,none⟩=some (.slice A0_2 l0_2.length c0_2):=(qC BK116.out 2).trans rfl;have hcz78_3:wr.cell? ⟨gb116,3,none⟩=some (.slice A0_3 l0_3.length c0_3):=(qC BK116.out 3).trans rfl;have hcz78_4:wr.cell? ⟨gb116,4,none⟩=some (.slice A0_4 l0_4.length c0_4):=(qC BK116.out 4).trans rfl;have hfz78_0:=qF BK116.out 0;have hfz78_1:=qF BK116.out 1;have hfz78_2:=qF BK116.out 2;have hfz78_3:=qF BK116.out 3;have hfz78_4:=qF BK116.out 4;go_wp2
       go_loopg [99] k2 (fun kq v99 w'=>∃ (x99_3:Int),v99=.int .i64 x99_3∧Aside0 (spec_GoodLocks.l2 kq l0_1 (l0_1.length:Int) x99_3 l0_0 l0_1 l0_2 l0_3 l0_4=some r)∧Aside0 (kq≤k2)∧Aside0 (w'.heap[gb116]?=some (.cells #[(.slice A0_0 l0_0.length c0_0),(.slice A0_1 l0_1.length c0_1),(.slice A0_2 l0_2.length c0_2),(.slice A0_3 l0_3.length c0_3),(.slice A0_4 l0_4.length c0_4)] 31 (0,0)))∧Aside0 (Below w.heap.size w w'))
       case atStart=>exact ⟨(0),(by first|rfl|(simp;done)|(simp [*];done)),H',⟨Nat.le_refl _⟩,⟨by (with_reducible repeat (first|refine qN ?_ _|refine qW ?_|refine qL ?_ _));exact BK116.out⟩,⟨by repeat (first|(with_reducible first|exact HB.out|apply qA|apply qD|apply qO|refine qS ?_ GE116.out)|exact HB.out)⟩⟩
       case round =>
        clear H';try clear p1
        try clear q1
        try clear hx1
        try clear c2
        try clear p2
        try clear c3
        try clear c5
        try clear q5
        try clear c6
        try clear p6
        try clear c7
        try clear p13
        try clear q13
        try clear hx13
        try clear c23
        try clear c23b0
        try clear c24
        try clear c25
        try clear c35
        try clear c35b0
        try clear c37
        try clear c38
        try clear c39
        try clear c53
        try clear c54
        try clear c54b0
        try clear c54b1
        try clear c55
        try clear c55b0
        try clear c55b1
        try clear c56
        try clear q58
        try clear c59
        try clear c59b0
        try clear c60
        try clear c60b0
        try clear c61
        try clear c61b0
        try clear c63
        try clear p64
        try clear c65
        try clear c66
        try clear c68
        try clear c72
        try clear c73
        try clear c75
        try clear hcz57_0
        try clear hcz57_1
        try clear hcz57_2
        try clear hcz57_3
        try clear hcz57_4
        try clear hcz67_0
        try clear hcz67_1
        try clear hcz67_2
        try clear hcz69_0
        try clear hcz69_1
        try clear hcz69_2
        try clear hcz74_0
        try clear hcz74_1
        try clear hcz74_2
        try clear hcz76_0
        try clear hcz76_1
        try clear hcz76_2
        try clear hcz78_0
        try clear hcz78_1
        try clear hcz78_2
        try clear hcz78_3
        try clear hcz78_4
        try clear hfz57_0
        try clear hfz57_1
        try clear hfz57_2
        try clear hfz57_3
        try clear hfz57_4
        try clear hfz67_0
        try clear hfz67_1
        try clear hfz67_2
        try clear hfz69_0
        try clear hfz69_1
        try clear hfz69_2
        try clear hfz74_0
        try clear hfz74_1
        try clear hfz74_2
        try clear hfz76_0
        try clear hfz76_1
        try clear hfz76_2
        try clear hfz78_0
        try clear hfz78_1
        try clear hfz78_2
        try clear hfz78_3
        try clear hfz78_4
        try clear hx130_0
        try clear hx130_1
        try clear hx130_2
        try clear p130
        try clear p2
        try clear q130
        try clear q5
        try clear q58
        obtain ⟨x99_3,rfl,HA,HK3,BK116,HB⟩:=hrel;cases gk with
        | zero=>exact absurd HA.out (by simp [spec_GoodLocks.l2])
        | succ k3 =>
         have H:=HA.out;clear HA;simp only [spec_GoodLocks.l2] at H;by_cases c79:x99_3 < (l0_1.length:Int)
         ·rw [if_pos c79] at H;have c79b0:decide (x99_3 < (l0_1.length:Int))=true:=decide_eq_true c79;clear c79;by_cases c80:0≤x99_3
          ·rw [if_pos c80] at H;have c80b0:decide (0≤x99_3)=true:=decide_eq_true c80;clear c80;by_cases c81:x99_3 < (l0_1.length:Int)
           ·rw [if_pos c81] at H;have c81b0:decide (x99_3 < (l0_1.length:Int))=true:=decide_eq_true c81;clear c81;replace H:=Option.bind_eq_some_iff.mp H;obtain ⟨t135,A820,H⟩:=H;replace H:(if t135=true then (some false) else (if x99_3≤(l0_1.length:Int) then ((some (l0_1.take (x99_3:Int).toNat:List (S47))).bind fun y136=>(spec_GoodLocks.l3 k3 l0_1 (l0_1.length:Int) x99_3 y136 (y136.length:Int) 0 l0_0 l0_1 l0_2 l0_3 l0_4 ((rd_T47 l0_1 x99_3).f0) ((rd_T47 l0_1 x99_3).f1) ((rd_T47 l0_1 x99_3).f2))) else (none)))=some r:=H;have A82:=qK A820;clear A820;by_cases c83:t135=true
            ·subst c83;have H1:(some false)=some r:=by rw [if_pos rfl] at H;exact H
             clear H;have H:=H1;clear H1;obtain rfl:=Option.some.inj H;have p133:0≤(x99_3:Int):=of_decide_eq_true (by first|(with_reducible assumption)|assumption);have q133:x99_3 < (l0_1.length:Int):=of_decide_eq_true (by first|(with_reducible assumption)|assumption);obtain ⟨ad133,e133,hx133_0,hx133_1,hx133_2⟩:=at_T47 HR0_1.out x99_3 p133 q133;cases e133
             replace hx133_0:=(HB.out.cell (World.block_lt_of_cell? w _ hx133_0)).trans hx133_0;replace hx133_1:=(HB.out.cell (World.block_lt_of_cell? w _ hx133_1)).trans hx133_1;replace hx133_2:=(HB.out.cell (World.block_lt_of_cell? w _ hx133_2)).trans hx133_2;replace p133:=eq_true p133;replace q133:=eq_true q133;go_wp2_with (first|((with_reducible refine gate_dst (N:=8) rfl ?_);refine box_event ?hg (N:=8) ?hd (cs:=#[.int .i64 0,.int .i64 0,.int .i64 0]) (t:=47) ?hr ?_;(case hd=>rfl);(case hg=>rfl);(case hr=>(go_simp;try rfl));intro gb134 hg w84 hbox hb;have n0_:=qK (qB (g:=gb116) (o:=_) (by (with_reducible repeat (first|refine qN ?_ _|refine qW ?_|refine qL ?_ _));exact BK116.out) hb);have n1_:=qK (qT (by repeat (with_reducible first|exact HB.out|apply qA|apply qD|apply qO|refine qS ?_ GE116.out)) hb);have n2_:=qK (hbox);have n3_:=qK ((by rw [hg];exact (qZ (by repeat (with_reducible first|exact HB.out|apply qA|apply qD|apply qO|refine qS ?_ GE116.out))):w.heap.size≤gb134));have n4_:=qK ((by rw [hg];exact (qZ (by repeat (with_reducible first|exact HB.out|apply qA|apply qD|apply qO|refine qS ?_ GE116.out))):w.heap.size≤gb134));have n5_:=qK ((by rw [hg];exact Nat.ne_of_lt (blk_lt (g:=gb116) (o:=_) (by (with_reducible repeat (first|refine qN ?_ _|refine qW ?_|refine qL ?_ _));exact BK116.out)):gb116 ≠ gb134));have n6_:=qK ((by rw [hg];exact Nat.ne_of_gt (blk_lt (g:=gb116) (o:=_) (by (with_reducible repeat (first|refine qN ?_ _|refine qW ?_|refine qL ?_ _));exact BK116.out)):gb134 ≠ gb116));clear BK116;clear HB;have BK116:=n0_;have HB:=n1_;have BK134:=n2_;have GW134:=n3_;have GE134:=n4_;have NB116_134:=n5_;have NB134_116:=n6_;clear n0_ n1_ n2_ n3_ n4_ n5_ n6_;clear hb hbox hg;have hnb85:=NB134_116.out;have hnc85:=NB116_134.out;have hcz86_0:w84.cell? ⟨gb134,0,none⟩=some (.int .i64 0):=(qC BK134.out 0).trans rfl;have hcz86_1:w84.cell? ⟨gb134,1,none⟩=some (.int .i64 0):=(qC BK134.out 1).trans rfl;have hcz86_2:w84.cell? ⟨gb134,2,none⟩=some (.int .i64 0):=(qC BK134.out 2).trans rfl;have hfz86_0:=qF BK134.out 0;have hfz86_1:=qF BK134.out 1;have hfz86_2:=qF BK134.out 2;have hcz87_0:w84.cell? ⟨gb116,0,none⟩=some (.slice A0_0 l0_0.length c0_0):=(qC BK116.out 0).trans rfl;have hcz87_1:w84.cell? ⟨gb116,1,none⟩=some (.slice (some ad133) l0_1.length c0_1):=(qC BK116.out 1).trans rfl;have hcz87_2:w84.cell? ⟨gb116,2,none⟩=some (.slice A0_2 l0_2.length c0_2):=(qC BK116.out 2).trans rfl;have hcz87_3:w84.cell? ⟨gb116,3,none⟩=some (.slice A0_3 l0_3.length c0_3):=(qC BK116.out 3).trans rfl;have hcz87_4:w84.cell? ⟨gb116,4,none⟩=some (.slice A0_4 l0_4.length c0_4):=(qC BK116.out 4).trans rfl;have hfz87_0:=qF BK116.out 0;have hfz87_1:=qF BK116.out 1;have hfz87_2:=qF BK116.out 2;have hfz87_3:=qF BK116.out 3;have hfz87_4:=qF BK116.out 4)|((with_reducible refine gate_callee (f:=38) rfl ?_);refine goesL_ (some 107) rfl rfl Try.func38 (by kernel_rfl) rfl #[.agg #[.slice A0_0 l0_0.length c0_0,.slice (some ad133) l0_1.length c0_1,.slice A0_2 l0_2.length c0_2,.slice A0_3 l0_3.length c0_3,.slice A0_4 l0_4.length c0_4],.int .i64 ((rd_T47 l0_1 x99_3).f0)] rfl (by (try simp only [mT,mC,mN]);first|done|rfl|(simp only [lD,lT];rfl)) ?_;(with_reducible refine (spec_l14Ended.calls k3 _ _ l0_0 _ _ l0_1 _ _ l0_2 _ _ l0_3 _ _ l0_4 ((rd_T47 l0_1 x99_3).f0) true _ ?side1 ?side2 ?side3 ?side4 ?side5 ?side6 ?side7 ?side8 ?side9 ?side10 A82.out).mono ?_);(case side1=>exact cB HR0_0.out (by repeat (with_reducible first|exact HB.out|apply qA|apply qD|apply qO|refine qS ?_ GE116.out|refine qS ?_ GE134.out)));(case side2=>exact HC0_0.out);(case side3=>exact cB HR0_1.out (by repeat (with_reducible first|exact HB.out|apply qA|apply qD|apply qO|refine qS ?_ GE116.out|refine qS ?_ GE134.out)));(case side4=>exact HC0_1.out);(case side5=>exact cB HR0_2.out (by repeat (with_reducible first|exact HB.out|apply qA|apply qD|apply qO|refine qS ?_ GE116.out|refine qS ?_ GE134.out)));(case side6=>exact HC0_2.out);(case side7=>exact cB HR0_3.out (by repeat (with_reducible first|exact HB.out|apply qA|apply qD|apply qO|refine qS ?_ GE116.out|refine qS ?_ GE134.out)));(case side8=>exact HC0_3.out);(case side9=>exact cB HR0_4.out (by repeat (with_reducible first|exact HB.out|apply qA|apply qD|apply qO|refine qS ?_ GE116.out|refine qS ?_ GE134.out)));(case side10=>exact HC0_4.out);rintro e w88 ⟨rfl,hb⟩;refine ⟨_,rfl,?_⟩;have n0_:=qK (qB (g:=gb116) (o:=.cells #[.slice A0_0 l0_0.length c0_0,.slice (some ad133) l0_1.length c0_1,.slice A0_2 l0_2.length c0_2,.slice A0_3 l0_3.length c0_3,.slice A0_4 l0_4.length c0_4] 31 (0,0)) (by (with_reducible repeat (first|refine qN ?_ _|refine qW ?_|refine qL ?_ _));refine qR ?_ NB116_134.out _;(with_reducible repeat (first|refine qN ?_ _|refine qW ?_|refine qL ?_ _));refine qR ?_ NB116_134.out _;(with_reducible repeat (first|refine qN ?_ _|refine qW ?_|refine qL ?_ _));refine qR ?_ NB116_134.out _;(with_reducible repeat (first|refine qN ?_ _|refine qW ?_|refine qL ?_ _));exact BK116.out) hb);have n1_:=qK (qB (g:=gb134) (o:=.cells #[.int .i64 ((rd_T47 l0_1 x99_3).f0),.int .i64 ((rd_T47 l0_1 x99_3).f1),.int .i64 ((rd_T47 l0_1 x99_3).f2)] 47 (0,0)) (by (with_reducible repeat (first|refine qN ?_ _|refine qW ?_|refine qL ?_ _));refine qP (cs:=#[.int .i64 ((rd_T47 l0_1 x99_3).f0),.int .i64 ((rd_T47 l0_1 x99_3).f1),.int .i64 0]) ?_ 2 _ rfl;(with_reducible repeat (first|refine qN ?_ _|refine qW ?_|refine qL ?_ _));refine qP (cs:=#[.int .i64 ((rd_T47 l0_1 x99_3).f0),.int .i64 0,.int .i64 0]) ?_ 1 _ rfl;(with_reducible repeat (first|refine qN ?_ _|refine qW ?_|refine qL ?_ _));refine qP (cs:=#[.int .i64 0,.int .i64 0,.int .i64 0]) ?_ 0 _ rfl;(with_reducible repeat (first|refine qN ?_ _|refine qW ?_|refine qL ?_ _));exact BK134.out) hb);have n2_:=qK (qT (by repeat (with_reducible first|exact HB.out|apply qA|apply qD|apply qO|refine qS ?_ GE116.out|refine qS ?_ GE134.out)) hb);clear BK116;clear BK134;clear HB;have BK116:=n0_;have BK134:=n1_;have HB:=n2_;clear n0_ n1_ n2_;(try clear hb)))
             go_ret
             exact ⟨by first|rfl|(simp [errW_none,errW_some] <;> rfl)|(simp [*,errW_none,errW_some] <;> rfl),by repeat (first|(with_reducible first|exact HB.out|apply qA|apply qD|apply qO|refine qS ?_ GE116.out|refine qS ?_ GE134.out)|exact HB.out)⟩
            ·replace c83:=Bool.eq_false_iff.mpr c83;subst c83;have H1:(if x99_3≤(l0_1.length:Int) then ((some (l0_1.take (x99_3:Int).toNat:List (S47))).bind fun y136=>(spec_GoodLocks.l3 k3 l0_1 (l0_1.length:Int) x99_3 y136 (y136.length:Int) 0 l0_0 l0_1 l0_2 l0_3 l0_4 ((rd_T47 l0_1 x99_3).f0) ((rd_T47 l0_1 x99_3).f1) ((rd_T47 l0_1 x99_3).f2))) else (none))=some r:=by rw [if_neg (show ¬ (false=true) by decide)] at H;exact H
             clear H;have H:=H1;clear H1;have c89b0:=eq_true (of_decide_eq_true (by first|(with_reducible assumption)|assumption):0≤x99_3);by_cases c90:x99_3≤(l0_1.length:Int)
             ·rw [if_pos c90] at H;have c90b0:=eq_true c90;have c90b1:decide (x99_3≤(l0_1.length:Int))=true:=decide_eq_true c90;clear c90;obtain ⟨y136,hy136⟩:∃ y_:List (S47),y_=(l0_1.take (x99_3:Int).toNat):=⟨_,rfl⟩;replace H:(spec_GoodLocks.l3 k3 l0_1 (l0_1.length:Int) x99_3 y136 (y136.length:Int) 0 l0_0 l0_1 l0_2 l0_3 l0_4 ((rd_T47 l0_1 x99_3).f0) ((rd_T47 l0_1 x99_3).f1) ((rd_T47 l0_1 x99_3).f2))=some r:=by first|(rw [hy136];with_reducible exact H)|(have H2_:=(Option.bind_some _ _).symm.trans H;rw [hy136];with_reducible exact H2_)|(have H2_:=(Option.bind_some _ _).symm.trans H;with_reducible exact H2_)|with_reducible exact H|(rw [hy136];exact H)|exact H
              have Ny136:=qK hy136;clear hy136;have H':=qK H;clear H;have p133:0≤(x99_3:Int):=of_decide_eq_true (by first|(with_reducible assumption)|assumption);have q133:x99_3 < (l0_1.length:Int):=of_decide_eq_true (by first|(with_reducible assumption)|assumption);obtain ⟨ad133,e133,hx133_0,hx133_1,hx133_2⟩:=at_T47 HR0_1.out x99_3 p133 q133;cases e133
              replace hx133_0:=(HB.out.cell (World.block_lt_of_cell? w _ hx133_0)).trans hx133_0;replace hx133_1:=(HB.out.cell (World.block_lt_of_cell? w _ hx133_1)).trans hx133_1;replace hx133_2:=(HB.out.cell (World.block_lt_of_cell? w _ hx133_2)).trans hx133_2;replace p133:=eq_true p133;replace q133:=eq_true q133;go_wp2_with (first|((with_reducible refine gate_dst (N:=8) rfl ?_);refine box_event ?hg (N:=8) ?hd (cs:=#[.int .i64 0,.int .i64 0,.int .i64 0]) (t:=47) ?hr ?_;(case hd=>rfl);(case hg=>rfl);(case hr=>(go_simp;try rfl));intro gb134 hg w91 hbox hb;have n0_:=qK (qB (g:=gb116) (o:=_) (by (with_reducible repeat (first|refine qN ?_ _|refine qW ?_|refine qL ?_ _));exact BK116.out) hb);have n1_:=qK (qT (by repeat (with_reducible first|exact HB.out|apply qA|apply qD|apply qO|refine qS ?_ GE116.out)) hb);have n2_:=qK (hbox);have n3_:=qK ((by rw [hg];exact (qZ (by repeat (with_reducible first|exact HB.out|apply qA|apply qD|apply qO|refine qS ?_ GE116.out))):w.heap.size≤gb134));have n4_:=qK ((by rw [hg];exact (qZ (by repeat (with_reducible first|exact HB.out|apply qA|apply qD|apply qO|refine qS ?_ GE116.out))):w.heap.size≤gb134));have n5_:=qK ((by rw [hg];exact Nat.ne_of_lt (blk_lt (g:=gb116) (o:=_) (by (with_reducible repeat (first|refine qN ?_ _|refine qW ?_|refine qL ?_ _));exact BK116.out)):gb116 ≠ gb134));have n6_:=qK ((by rw [hg];exact Nat.ne_of_gt (blk_lt (g:=gb116) (o:=_) (by (with_reducible repeat (first|refine qN ?_ _|refine qW ?_|refine qL ?_ _));exact BK116.out)):gb134 ≠ gb116));clear BK116;clear HB;have BK116:=n0_;have HB:=n1_;have BK134:=n2_;have GW134:=n3_;have GE134:=n4_;have NB116_134:=n5_;have NB134_116:=n6_;clear n0_ n1_ n2_ n3_ n4_ n5_ n6_;clear hb hbox hg;have hnb92:=NB134_116.out;have hnc92:=NB116_134.out;have hcz93_0:w91.cell? ⟨gb134,0,none⟩=some (.int .i64 0):=(qC BK134.out 0).trans rfl;have hcz93_1:w91.cell? ⟨gb134,1,none⟩=some (.int .i64 0):=(qC BK134.out 1).trans rfl;have hcz93_2:w91.cell? ⟨gb134,2,none⟩=some (.int .i64 0):=(qC BK134.out 2).trans rfl;have hfz93_0:=qF BK134.out 0;have hfz93_1:=qF BK134.out 1;have hfz93_2:=qF BK134.out 2;have hcz94_0:w91.cell? ⟨gb116,0,none⟩=some (.slice A0_0 l0_0.length c0_0):=(qC BK116.out 0).trans rfl;have hcz94_1:w91.cell? ⟨gb116,1,none⟩=some (.slice (some ad133) l0_1.length c0_1):=(qC BK116.out 1).trans rfl;have hcz94_2:w91.cell? ⟨gb116,2,none⟩=some (.slice A0_2 l0_2.length c0_2):=(qC BK116.out 2).trans rfl;have hcz94_3:w91.cell? ⟨gb116,3,none⟩=some (.slice A0_3 l0_3.length c0_3):=(qC BK116.out 3).trans rfl;have hcz94_4:w91.cell? ⟨gb116,4,none⟩=some (.slice A0_4 l0_4.length c0_4):=(qC BK116.out 4).trans rfl;have hfz94_0:=qF BK116.out 0;have hfz94_1:=qF BK116.out 1;have hfz94_2:=qF BK116.out 2;have hfz94_3:=qF BK116.out 3;have hfz94_4:=qF BK116.out 4)|((with_reducible refine gate_callee (f:=38) rfl ?_);refine goesL_ (some 107) rfl rfl Try.func38 (by kernel_rfl) rfl #[.agg #[.slice A0_0 l0_0.length c0_0,.slice (some ad133) l0_1.length c0_1,.slice A0_2 l0_2.length c0_2,.slice A0_3 l0_3.length c0_3,.slice A0_4 l0_4.length c0_4],.int .i64 ((rd_T47 l0_1 x99_3).f0)] rfl (by (try simp only [mT,mC,mN]);first|done|rfl|(simp only [lD,lT];rfl)) ?_;(with_reducible refine (spec_l14Ended.calls k3 _ _ l0_0 _ _ l0_1 _ _ l0_2 _ _ l0_3 _ _ l0_4 ((rd_T47 l0_1 x99_3).f0) false _ ?side1 ?side2 ?side3 ?side4 ?side5 ?side6 ?side7 ?side8 ?side9 ?side10 A82.out).mono ?_);(case side1=>exact cB HR0_0.out (by repeat (with_reducible first|exact HB.out|apply qA|apply qD|apply qO|refine qS ?_ GE116.out|refine qS ?_ GE134.out)));(case side2=>exact HC0_0.out);(case side3=>exact cB HR0_1.out (by repeat (with_reducible first|exact HB.out|apply qA|apply qD|apply qO|refine qS ?_ GE116.out|refine qS ?_ GE134.out)));(case side4=>exact HC0_1.out);(case side5=>exact cB HR0_2.out (by repeat (with_reducible first|exact HB.out|apply qA|apply qD|apply qO|refine qS ?_ GE116.out|refine qS ?_ GE134.out)));(case side6=>exact HC0_2.out);(case side7=>exact cB HR0_3.out (by repeat (with_reducible first|exact HB.out|apply qA|apply qD|apply qO|refine qS ?_ GE116.out|refine qS ?_ GE134.out)));(case side8=>exact HC0_3.out);(case side9=>exact cB HR0_4.out (by repeat (with_reducible first|exact HB.out|apply qA|apply qD|apply qO|refine qS ?_ GE116.out|refine qS ?_ GE134.out)));(case side10=>exact HC0_4.out);rintro e w95 ⟨rfl,hb⟩;refine ⟨_,rfl,?_⟩;have n0_:=qK (qB (g:=gb116) (o:=.cells #[.slice A0_0 l0_0.length c0_0,.slice (some ad133) l0_1.length c0_1,.slice A0_2 l0_2.length c0_2,.slice A0_3 l0_3.length c0_3,.slice A0_4 l0_4.length c0_4] 31 (0,0)) (by (with_reducible repeat (first|refine qN ?_ _|refine qW ?_|refine qL ?_ _));refine qR ?_ NB116_134.out _;(with_reducible repeat (first|refine qN ?_ _|refine qW ?_|refine qL ?_ _));refine qR ?_ NB116_134.out _;(with_reducible repeat (first|refine qN ?_ _|refine qW ?_|refine qL ?_ _));refine qR ?_ NB116_134.out _;(with_reducible repeat (first|refine qN ?_ _|refine qW ?_|refine qL ?_ _));exact BK116.out) hb);have n1_:=qK (qB (g:=gb134) (o:=.cells #[.int .i64 ((rd_T47 l0_1 x99_3).f0),.int .i64 ((rd_T47 l0_1 x99_3).f1),.int .i64 ((rd_T47 l0_1 x99_3).f2)] 47 (0,0)) (by (with_reducible repeat (first|refine qN ?_ _|refine qW ?_|refine qL ?_ _));refine qP (cs:=#[.int .i64 ((rd_T47 l0_1 x99_3).f0),.int .i64 ((rd_T47 l0_1 x99_3).f1),.int .i64 0]) ?_ 2 _ rfl;(with_reducible repeat (first|refine qN ?_ _|refine qW ?_|refine qL ?_ _));refine qP (cs:=#[.int .i64 ((rd_T47 l0_1 x99_3).f0),.int .i64 0,.int .i64 0]) ?_ 1 _ rfl;(with_reducible repeat (first|refine qN ?_ _|refine qW ?_|refine qL ?_ _));refine qP (cs:=#[.int .i64 0,.int .i64 0,.int .i64 0]) ?_ 0 _ rfl;(with_reducible repeat (first|refine qN ?_ _|refine qW ?_|refine qL ?_ _));exact BK134.out) hb);have n2_:=qK (qT (by repeat (with_reducible first|exact HB.out|apply qA|apply qD|apply qO|refine qS ?_ GE116.out|refine qS ?_ GE134.out)) hb);clear BK116;clear BK134;clear HB;have BK116:=n0_;have BK134:=n1_;have HB:=n2_;clear n0_ n1_ n2_;(try clear hb);have hcz96_0:w95.cell? ⟨gb116,0,none⟩=some (.slice A0_0 l0_0.length c0_0):=(qC BK116.out 0).trans rfl;have hcz96_1:w95.cell? ⟨gb116,1,none⟩=some (.slice (some ad133) l0_1.length c0_1):=(qC BK116.out 1).trans rfl;have hcz96_2:w95.cell? ⟨gb116,2,none⟩=some (.slice A0_2 l0_2.length c0_2):=(qC BK116.out 2).trans rfl;have hcz96_3:w95.cell? ⟨gb116,3,none⟩=some (.slice A0_3 l0_3.length c0_3):=(qC BK116.out 3).trans rfl;have hcz96_4:w95.cell? ⟨gb116,4,none⟩=some (.slice A0_4 l0_4.length c0_4):=(qC BK116.out 4).trans rfl;have hfz96_0:=qF BK116.out 0;have hfz96_1:=qF BK116.out 1;have hfz96_2:=qF BK116.out 2;have hfz96_3:=qF BK116.out 3;have hfz96_4:=qF BK116.out 4;have q97:(x99_3:Int)≤((l0_1.length:Int):Int):=of_decide_eq_true (by first|(with_reducible assumption)|assumption);obtain ⟨i097,hi097,_,hsz97,_⟩:=info_parts info47;have hroom97:l0_1.length≤c0_1:=HC0_1.out;have hC97:Kd.C k47 _ (some ad133) l0_1.length l0_1:=HR0_1.out;have hcut97:=cut_to (P:=Try.prog) 27 47 .i64 Try.underlying27 hi097 (some ad133) l0_1.length c0_1 x99_3 (of_decide_eq_true (by first|(with_reducible assumption)|assumption)) q97 hroom97;have hr97:=Kd.C_take (m:=(x99_3:Int).toNat) hC97 (by omega);have hy97:y136.length=(x99_3:Int).toNat:=(by rw [Ny136.out,lT];omega);rw [← Ny136.out] at hr97;rw [← hy97] at hcut97;have HR139:=qK hr97;have HC139:=qK (show y136.length≤c0_1 from by omega);clear hr97 hC97 hroom97 hi097 hsz97;have KY97:=qK hy97;clear hy97;replace q97:=eq_true q97))
              go_loopg [113] k3 (fun kq v113 w'=>∃ (x113_4:Int),v113=.int .i64 x113_4∧Aside0 (spec_GoodLocks.l3 kq l0_1 (l0_1.length:Int) x99_3 y136 (y136.length:Int) x113_4 l0_0 l0_1 l0_2 l0_3 l0_4 ((rd_T47 l0_1 x99_3).f0) ((rd_T47 l0_1 x99_3).f1) ((rd_T47 l0_1 x99_3).f2)=some r)∧Aside0 (kq≤k3)∧Aside0 (w'.heap[gb116]?=some (.cells #[(.slice A0_0 l0_0.length c0_0),(.slice (some ad133) l0_1.length c0_1),(.slice A0_2 l0_2.length c0_2),(.slice A0_3 l0_3.length c0_3),(.slice A0_4 l0_4.length c0_4)] 31 (0,0)))∧Aside0 (w'.heap[gb134]?=some (.cells #[.int .i64 ((rd_T47 l0_1 x99_3).f0),.int .i64 ((rd_T47 l0_1 x99_3).f1),.int .i64 ((rd_T47 l0_1 x99_3).f2)] 47 (0,0)))∧Aside0 (Below w.heap.size w w'))
              case atStart=>exact ⟨(0),(by first|rfl|(simp;done)|(simp [*];done)),H',⟨Nat.le_refl _⟩,⟨by (with_reducible repeat (first|refine qN ?_ _|refine qW ?_|refine qL ?_ _));exact BK116.out⟩,⟨by (with_reducible repeat (first|refine qN ?_ _|refine qW ?_|refine qL ?_ _));exact BK134.out⟩,⟨by repeat (first|(with_reducible first|exact HB.out|apply qA|apply qD|apply qO|refine qS ?_ GE116.out|refine qS ?_ GE134.out)|exact HB.out)⟩⟩
              case round =>
               clear H';try clear p1
               try clear q1
               try clear hx1
               try clear c2
               try clear p2
               try clear c3
               try clear c5
               try clear q5
               try clear c6
               try clear p6
               try clear c7
               try clear c8
               try clear c9
               try clear q9
               try clear p13
               try clear q13
               try clear hx13
               try clear c23
               try clear c23b0
               try clear c24
               try clear c25
               try clear c35
               try clear c35b0
               try clear c37
               try clear c38
               try clear c39
               try clear c53
               try clear c54
               try clear c54b0
               try clear c54b1
               try clear c55
               try clear c55b0
               try clear c55b1
               try clear c56
               try clear q58
               try clear c59
               try clear c59b0
               try clear c60
               try clear c60b0
               try clear c61
               try clear c61b0
               try clear c63
               try clear p64
               try clear c65
               try clear c66
               try clear c68
               try clear c72
               try clear c73
               try clear c75
               try clear c79
               try clear c79b0
               try clear c80
               try clear c80b0
               try clear c81
               try clear c81b0
               try clear c83
               try clear c85
               try clear c89
               try clear c89b0
               try clear c90
               try clear c90b0
               try clear c90b1
               try clear c92
               try clear q97
               try clear hcz57_0
               try clear hcz57_1
               try clear hcz57_2
               try clear hcz57_3
               try clear hcz57_4
               try clear hcz67_0
               try clear hcz67_1
               try clear hcz67_2
               try clear hcz69_0
               try clear hcz69_1
               try clear hcz69_2
               try clear hcz74_0
               try clear hcz74_1
               try clear hcz74_2
               try clear hcz76_0
               try clear hcz76_1
               try clear hcz76_2
               try clear hcz78_0
               try clear hcz78_1
               try clear hcz78_2
               try clear hcz78_3
               try clear hcz78_4
               try clear hcz86_0
               try clear hcz86_1
               try clear hcz86_2
               try clear hcz87_0
               try clear hcz87_1
               try clear hcz87_2
               try clear hcz87_3
               try clear hcz87_4
               try clear hcz93_0
               try clear hcz93_1
               try clear hcz93_2
               try clear hcz94_0
               try clear hcz94_1
               try clear hcz94_2
               try clear hcz94_3
               try clear hcz94_4
               try clear hcz96_0
               try clear hcz96_1
               try clear hcz96_2
               try clear hcz96_3
               try clear hcz96_4
               try clear hfz57_0
               try clear hfz57_1
               try clear hfz57_2
               try clear hfz57_3
               try clear hfz57_4
               try clear hfz67_0
               try clear hfz67_1
               try clear hfz67_2
               try clear hfz69_0
               try clear hfz69_1
               try clear hfz69_2
               try clear hfz74_0
               try clear hfz74_1
               try clear hfz74_2
               try clear hfz76_0
               try clear hfz76_1
               try clear hfz76_2
               try clear hfz78_0
               try clear hfz78_1
               try clear hfz78_2
               try clear hfz78_3
               try clear hfz78_4
               try clear hfz86_0
               try clear hfz86_1
               try clear hfz86_2
               try clear hfz87_0
               try clear hfz87_1
               try clear hfz87_2
               try clear hfz87_3
               try clear hfz87_4
               try clear hfz93_0
               try clear hfz93_1
               try clear hfz93_2
               try clear hfz94_0
               try clear hfz94_1
               try clear hfz94_2
               try clear hfz94_3
               try clear hfz94_4
               try clear hfz96_0
               try clear hfz96_1
               try clear hfz96_2
               try clear hfz96_3
               try clear hfz96_4
               try clear hx130_0
               try clear hx130_1
               try clear hx130_2
               try clear hx133_0
               try clear hx133_1
               try clear hx133_2
               try clear p1
               try clear p13
               try clear p130
               try clear p133
               try clear p2
               try clear p6
               try clear p64
               try clear q1
               try clear q13
               try clear q130
               try clear q133
               try clear q5
               try clear q58
               try clear q97
               obtain ⟨x113_4,rfl,HA,HK4,BK116,BK134,HB⟩:=hrel;cases gk with
               | zero=>exact absurd HA.out (by simp [spec_GoodLocks.l3])
               | succ k4 =>
                have H:=HA.out;clear HA;simp only [spec_GoodLocks.l3] at H;by_cases c98:x113_4 < (y136.length:Int)
                ·rw [if_pos c98] at H;have c98b0:decide (x113_4 < (y136.length:Int))=true:=decide_eq_true c98;clear c98;by_cases c99:0≤x113_4
                 ·rw [if_pos c99] at H;have c99b0:decide (0≤x113_4)=true:=decide_eq_true c99;clear c99;by_cases c100:x113_4 < (y136.length:Int)
                  ·rw [if_pos c100] at H;have c100b0:decide (x113_4 < (y136.length:Int))=true:=decide_eq_true c100;clear c100;by_cases c101:((rd_T47 l0_1 x99_3).f0)=((rd_T47 y136 x113_4).f0)
                   ·rw [if_pos c101] at H;have c101b0:(((rd_T47 l0_1 x99_3).f0) == ((rd_T47 y136 x113_4).f0))=true:=beq_iff_eq.mpr c101;have c101b1:(((rd_T47 l0_1 x99_3).f0) != ((rd_T47 y136 x113_4).f0))=false:=bne_eq_false_iff_eq.mpr c101;clear c101;obtain rfl:=Option.some.inj H;have p140:0≤(x113_4:Int):=of_decide_eq_true (by first|(with_reducible assumption)|assumption);have q140:x113_4 < (y136.length:Int):=of_decide_eq_true (by first|(with_reducible assumption)|assumption);obtain ⟨ad140,e140,hx140_0,hx140_1,hx140_2⟩:=at_T47 HR139.out x113_4 p140 q140;obtain rfl:ad133=ad140:=(by injection e140);replace hx140_0:=(HB.out.cell (World.block_lt_of_cell? w _ hx140_0)).trans hx140_0;replace hx140_1:=(HB.out.cell (World.block_lt_of_cell? w _ hx140_1)).trans hx140_1;replace hx140_2:=(HB.out.cell (World.block_lt_of_cell? w _ hx140_2)).trans hx140_2;replace p140:=eq_true p140;replace q140:=eq_true q140;go_wp2_with (first|((with_reducible refine gate_dst (N:=10) rfl ?_);refine box_event ?hg (N:=10) ?hd (cs:=#[.int .i64 0,.int .i64 0,.int .i64 0]) (t:=47) ?hr ?_;(case hd=>rfl);(case hg=>rfl);(case hr=>(go_simp;try rfl));intro gb141 hg w102 hbox hb;have n0_:=qK (qB (g:=gb116) (o:=_) (by (with_reducible repeat (first|refine qN ?_ _|refine qW ?_|refine qL ?_ _));exact BK116.out) hb);have n1_:=qK (qB (g:=gb134) (o:=_) (by (with_reducible repeat (first|refine qN ?_ _|refine qW ?_|refine qL ?_ _));exact BK134.out) hb);have n2_:=qK (qT (by repeat (with_reducible first|exact HB.out|apply qA|apply qD|apply qO|refine qS ?_ GE116.out|refine qS ?_ GE134.out)) hb);have n3_:=qK (hbox);have n4_:=qK ((by rw [hg];exact (qZ (by repeat (with_reducible first|exact HB.out|apply qA|apply qD|apply qO|refine qS ?_ GE116.out|refine qS ?_ GE134.out))):w.heap.size≤gb141));have n5_:=qK ((by rw [hg];exact (qZ (by repeat (with_reducible first|exact HB.out|apply qA|apply qD|apply qO|refine qS ?_ GE116.out|refine qS ?_ GE134.out))):w.heap.size≤gb141));have n6_:=qK ((by rw [hg];exact Nat.ne_of_lt (blk_lt (g:=gb116) (o:=_) (by (with_reducible repeat (first|refine qN ?_ _|refine qW ?_|refine qL ?_ _));exact BK116.out)):gb116 ≠ gb141));have n7_:=qK ((by rw [hg];exact Nat.ne_of_gt (blk_lt (g:=gb116) (o:=_) (by (with_reducible repeat (first|refine qN ?_ _|refine qW ?_|refine qL ?_ _));exact BK116.out)):gb141 ≠ gb116));have n8_:=qK ((by rw [hg];exact Nat.ne_of_lt (blk_lt (g:=gb134) (o:=_) (by (with_reducible repeat (first|refine qN ?_ _|refine qW ?_|refine qL ?_ _));exact BK134.out)):gb134 ≠ gb141));have n9_:=qK ((by rw [hg];exact Nat.ne_of_gt (blk_lt (g:=gb134) (o:=_) (by (with_reducible repeat (first|refine qN ?_ _|refine qW ?_|refine qL ?_ _));exact BK134.out)):gb141 ≠ gb134));clear BK116;clear BK134;clear HB;have BK116:=n0_;have BK134:=n1_;have HB:=n2_;have BK141:=n3_;have GW141:=n4_;have GE141:=n5_;have NB116_141:=n6_;have NB141_116:=n7_;have NB134_141:=n8_;have NB141_134:=n9_;clear n0_ n1_ n2_ n3_ n4_ n5_ n6_ n7_ n8_ n9_;clear hb hbox hg;have hnb103:=NB141_116.out;have hnc103:=NB116_141.out;have hnb104:=NB141_134.out;have hnc104:=NB134_141.out;have hcz105_0:w102.cell? ⟨gb141,0,none⟩=some (.int .i64 0):=(qC BK141.out 0).trans rfl;have hcz105_1:w102.cell? ⟨gb141,1,none⟩=some (.int .i64 0):=(qC BK141.out 1).trans rfl;have hcz105_2:w102.cell? ⟨gb141,2,none⟩=some (.int .i64 0):=(qC BK141.out 2).trans rfl;have hfz105_0:=qF BK141.out 0;have hfz105_1:=qF BK141.out 1;have hfz105_2:=qF BK141.out 2;have hnb106:=NB134_116.out;have hnc106:=NB116_134.out;have hcz107_0:w102.cell? ⟨gb134,0,none⟩=some (.int .i64 ((rd_T47 l0_1 x99_3).f0)):=(qC BK134.out 0).trans rfl;have hcz107_1:w102.cell? ⟨gb134,1,none⟩=some (.int .i64 ((rd_T47 l0_1 x99_3).f1)):=(qC BK134.out 1).trans rfl;have hcz107_2:w102.cell? ⟨gb134,2,none⟩=some (.int .i64 ((rd_T47 l0_1 x99_3).f2)):=(qC BK134.out 2).trans rfl;have hfz107_0:=qF BK134.out 0;have hfz107_1:=qF BK134.out 1;have hfz107_2:=qF BK134.out 2))
                    go_ret
                    exact ⟨by first|rfl|(simp [errW_none,errW_some] <;> rfl)|(simp [*,errW_none,errW_some] <;> rfl),by repeat (first|(with_reducible first|exact HB.out|apply qA|apply qD|apply qO|refine qS ?_ GE116.out|refine qS ?_ GE134.out|refine qS ?_ GE141.out)|exact HB.out)⟩
                   ·rw [if_neg c101] at H;have c101b0:(((rd_T47 l0_1 x99_3).f0) == ((rd_T47 y136 x113_4).f0))=false:=beq_eq_false_iff_ne.mpr c101;have c101b1:(((rd_T47 l0_1 x99_3).f0) != ((rd_T47 y136 x113_4).f0))=true:=bne_iff_ne.mpr c101;have H':=qK H;clear H;have p140:0≤(x113_4:Int):=of_decide_eq_true (by first|(with_reducible assumption)|assumption);have q140:x113_4 < (y136.length:Int):=of_decide_eq_true (by first|(with_reducible assumption)|assumption);obtain ⟨ad140,e140,hx140_0,hx140_1,hx140_2⟩:=at_T47 HR139.out x113_4 p140 q140;obtain rfl:ad133=ad140:=(by injection e140);replace hx140_0:=(HB.out.cell (World.block_lt_of_cell? w _ hx140_0)).trans hx140_0;replace hx140_1:=(HB.out.cell (World.block_lt_of_cell? w _ hx140_1)).trans hx140_1;replace hx140_2:=(HB.out.cell (World.block_lt_of_cell? w _ hx140_2)).trans hx140_2;replace p140:=eq_true p140;replace q140:=eq_true q140;go_wp2_with (first|((with_reducible refine gate_dst (N:=10) rfl ?_);refine box_event ?hg (N:=10) ?hd (cs:=#[.int .i64 0,.int .i64 0,.int .i64 0]) (t:=47) ?hr ?_;(case hd=>rfl);(case hg=>rfl);(case hr=>(go_simp;try rfl));intro gb141 hg w108 hbox hb;have n0_:=qK (qB (g:=gb116) (o:=_) (by (with_reducible repeat (first|refine qN ?_ _|refine qW ?_|refine qL ?_ _));exact BK116.out) hb);have n1_:=qK (qB (g:=gb134) (o:=_) (by (with_reducible repeat (first|refine qN ?_ _|refine qW ?_|refine qL ?_ _));exact BK134.out) hb);have n2_:=qK (qT (by repeat (with_reducible first|exact HB.out|apply qA|apply qD|apply qO|refine qS ?_ GE116.out|refine qS ?_ GE134.out)) hb);have n3_:=qK (hbox);have n4_:=qK ((by rw [hg];exact (qZ (by repeat (with_reducible first|exact HB.out|apply qA|apply qD|apply qO|refine qS ?_ GE116.out|refine qS ?_ GE134.out))):w.heap.size≤gb141));have n5_:=qK ((by rw [hg];exact (qZ (by repeat (with_reducible first|exact HB.out|apply qA|apply qD|apply qO|refine qS ?_ GE116.out|refine qS ?_ GE134.out))):w.heap.size≤gb141));have n6_:=qK ((by rw [hg];exact Nat.ne_of_lt (blk_lt (g:=gb116) (o:=_) (by (with_reducible repeat (first|refine qN ?_ _|refine qW ?_|refine qL ?_ _));exact BK116.out)):gb116 ≠ gb141));have n7_:=qK ((by rw [hg];exact Nat.ne_of_gt (blk_lt (g:=gb116) (o:=_) (by (with_reducible repeat (first|refine qN ?_ _|refine qW ?_|refine qL ?_ _));exact BK116.out)):gb141 ≠ gb116));have n8_:=qK ((by rw [hg];exact Nat.ne_of_lt (blk_lt (g:=gb134) (o:=_) (by (with_reducible repeat (first|refine qN ?_ _|refine qW ?_|refine qL ?_ _));exact BK134.out)):gb134 ≠ gb141));have n9_:=qK ((by rw [hg];exact Nat.ne_of_gt (blk_lt (g:=gb134) (o:=_) (by (with_reducible repeat (first|refine qN ?_ _|refine qW ?_|refine qL ?_ _));exact BK134.out)):gb141 ≠ gb134));clear BK116;clear BK134;clear HB;have BK116:=n0_;have BK134:=n1_;have HB:=n2_;have BK141:=n3_;have GW141:=n4_;have GE141:=n5_;have NB116_141:=n6_;have NB141_116:=n7_;have NB134_141:=n8_;have NB141_134:=n9_;clear n0_ n1_ n2_ n3_ n4_ n5_ n6_ n7_ n8_ n9_;clear hb hbox hg;have hnb109:=NB141_116.out;have hnc109:=NB116_141.out;have hnb110:=NB141_134.out;have hnc110:=NB134_141.out;have hcz111_0:w108.cell? ⟨gb141,0,none⟩=some (.int .i64 0):=(qC BK141.out 0).trans rfl;have hcz111_1:w108.cell? ⟨gb141,1,none⟩=some (.int .i64 0):=(qC BK141.out 1).trans rfl;have hcz111_2:w108.cell? ⟨gb141,2,none⟩=some (.int .i64 0):=(qC BK141.out 2).trans rfl;have hfz111_0:=qF BK141.out 0;have hfz111_1:=qF BK141.out 1;have hfz111_2:=qF BK141.out 2;have hnb112:=NB134_116.out;have hnc112:=NB116_134.out;have hcz113_0:w108.cell? ⟨gb134,0,none⟩=some (.int .i64 ((rd_T47 l0_1 x99_3).f0)):=(qC BK134.out 0).trans rfl;have hcz113_1:w108.cell? ⟨gb134,1,none⟩=some (.int .i64 ((rd_T47 l0_1 x99_3).f1)):=(qC BK134.out 1).trans rfl;have hcz113_2:w108.cell? ⟨gb134,2,none⟩=some (.int .i64 ((rd_T47 l0_1 x99_3).f2)):=(qC BK134.out 2).trans rfl;have hfz113_0:=qF BK134.out 0;have hfz113_1:=qF BK134.out 1;have hfz113_2:=qF BK134.out 2))
                    go_roundg k4
                    case measure=>have:=HJ1.out;have:=HK2.out;have:=HK3.out;have:=HK4.out;omega
                    case rel=>exact ⟨(wrap64 (x113_4 + 1)),(by first|rfl|(simp;done)|(simp [*];done)),H',⟨by have:=HJ1.out;have:=HK2.out;have:=HK3.out;have:=HK4.out;omega⟩,⟨by (with_reducible repeat (first|refine qN ?_ _|refine qW ?_|refine qL ?_ _));refine qR ?_ NB116_141.out _;(with_reducible repeat (first|refine qN ?_ _|refine qW ?_|refine qL ?_ _));refine qR ?_ NB116_141.out _;(with_reducible repeat (first|refine qN ?_ _|refine qW ?_|refine qL ?_ _));refine qR ?_ NB116_141.out _;(with_reducible repeat (first|refine qN ?_ _|refine qW ?_|refine qL ?_ _));exact BK116.out⟩,⟨by (with_reducible repeat (first|refine qN ?_ _|refine qW ?_|refine qL ?_ _));refine qR ?_ NB134_141.out _;(with_reducible repeat (first|refine qN ?_ _|refine qW ?_|refine qL ?_ _));refine qR ?_ NB134_141.out _;(with_reducible repeat (first|refine qN ?_ _|refine qW ?_|refine qL ?_ _));refine qR ?_ NB134_141.out _;(with_reducible repeat (first|refine qN ?_ _|refine qW ?_|refine qL ?_ _));exact BK134.out⟩,⟨by repeat (first|(with_reducible first|exact HB.out|apply qA|apply qD|apply qO|refine qS ?_ GE116.out|refine qS ?_ GE134.out|refine qS ?_ GE141.out)|exact HB.out)⟩⟩
                  ·rw [if_neg c100] at H;exact absurd H (by simp)
                 ·rw [if_neg c99] at H;exact absurd H (by simp)
                ·rw [if_neg c98] at H;have c98b0:decide (x113_4 < (y136.length:Int))=false:=decide_eq_false c98;clear c98;have H':=qK H;clear H;go_wp2
                 go_roundg k4
                 case measure=>have:=HJ1.out;have:=HK2.out;have:=HK3.out;have:=HK4.out;omega
                 case rel=>exact ⟨(wrap64 (x99_3 + 1)),(by first|rfl|(simp;done)|(simp [*];done)),H',⟨by have:=HJ1.out;have:=HK2.out;have:=HK3.out;have:=HK4.out;omega⟩,⟨by (with_reducible repeat (first|refine qN ?_ _|refine qW ?_|refine qL ?_ _));exact BK116.out⟩,⟨by repeat (first|(with_reducible first|exact HB.out|apply qA|apply qD|apply qO|refine qS ?_ GE116.out|refine qS ?_ GE134.out)|exact HB.out)⟩⟩
             ·rw [if_neg c90] at H;exact absurd H (by simp)
           ·rw [if_neg c81] at H;exact absurd H (by simp)
          ·rw [if_neg c80] at H;exact absurd H (by simp)
         ·rw [if_neg c79] at H;have c79b0:decide (x99_3 < (l0_1.length:Int))=false:=decide_eq_false c79;clear c79;obtain ⟨y142,hy142⟩:∃ y_:List Int,y_=(([]:List Int)):=⟨_,rfl⟩;replace H:(if y142.length + l0_3.length < 17592186044416 then ((some (y142 ++ l0_3:List Int)).bind fun y145=>(if y145.length + l0_4.length < 17592186044416 then ((some (y145 ++ l0_4:List Int)).bind fun y148=>(spec_GoodLocks.l4 k3 y148 y148 (y148.length:Int) 0 l0_0 l0_1 l0_2 l0_3 l0_4)) else (none))) else (none))=some r:=by first|(rw [hy142];with_reducible exact H)|(have H2_:=(Option.bind_some _ _).symm.trans H;rw [hy142];with_reducible exact H2_)|(have H2_:=(Option.bind_some _ _).symm.trans H;with_reducible exact H2_)|with_reducible exact H|(rw [hy142];exact H)|exact H
          have Ny142:=qK hy142;clear hy142;by_cases c114:y142.length + l0_3.length < 17592186044416
          ·rw [if_pos c114] at H;have LMc114:=qK c114;clear c114;obtain ⟨y145,hy145⟩:∃ y_:List Int,y_=(y142 ++ l0_3):=⟨_,rfl⟩;replace H:(if y145.length + l0_4.length < 17592186044416 then ((some (y145 ++ l0_4:List Int)).bind fun y148=>(spec_GoodLocks.l4 k3 y148 y148 (y148.length:Int) 0 l0_0 l0_1 l0_2 l0_3 l0_4)) else (none))=some r:=by first|(rw [hy145];with_reducible exact H)|(have H2_:=(Option.bind_some _ _).symm.trans H;rw [hy145];with_reducible exact H2_)|(have H2_:=(Option.bind_some _ _).symm.trans H;with_reducible exact H2_)|with_reducible exact H|(rw [hy145];exact H)|exact H
           have Ny145:=qK hy145;clear hy145;by_cases c115:y145.length + l0_4.length < 17592186044416
           ·rw [if_pos c115] at H;have LMc115:=qK c115;clear c115;obtain ⟨y148,hy148⟩:∃ y_:List Int,y_=(y145 ++ l0_4):=⟨_,rfl⟩;replace H:(spec_GoodLocks.l4 k3 y148 y148 (y148.length:Int) 0 l0_0 l0_1 l0_2 l0_3 l0_4)=some r:=by first|(rw [hy148];with_reducible exact H)|(have H2_:=(Option.bind_some _ _).symm.trans H;rw [hy148];with_reducible exact H2_)|(have H2_:=(Option.bind_some _ _).symm.trans H;with_reducible exact H2_)|with_reducible exact H|(rw [hy148];exact H)|exact H
            have Ny148:=qK hy148;clear hy148;have H':=qK H;clear H;try go_wp2
            (try (rw [drewN_self wr];generalize hq_:World.drewN wr _=wr;have n0_:Aside0 (wr.heap[gb116]?=some (.cells #[.slice A0_0 l0_0.length c0_0,.slice A0_1 l0_1.length c0_1,.slice A0_2 l0_2.length c0_2,.slice A0_3 l0_3.length c0_3,.slice A0_4 l0_4.length c0_4] 31 (0,0))):=⟨by rw [← hq_];exact (by (with_reducible repeat (first|refine qN ?_ _|refine qW ?_|refine qL ?_ _));exact BK116.out)⟩;have n1_:Aside0 (Below w.heap.size w wr):=⟨by rw [← hq_];exact (by repeat (with_reducible first|exact HB.out|apply qA|apply qD|apply qO|refine qS ?_ GE116.out))⟩;clear BK116 HB hq_;have BK116:=n0_;have HB:=n1_;clear n0_ n1_));have n0_:=qK (qW BK116.out);have n1_:=qK (qO HB.out);clear BK116;clear HB;have BK116:=n0_;have HB:=n1_;clear n0_ n1_;refine start_ (n:=8) (S:=fun w'=>w'.cell? ⟨gb116,0,none⟩=some (.slice A0_0 l0_0.length c0_0)∧w'.cell? ⟨gb116,1,none⟩=some (.slice A0_1 l0_1.length c0_1)∧w'.cell? ⟨gb116,2,none⟩=some (.slice A0_2 l0_2.length c0_2)∧w'.cell? ⟨gb116,3,none⟩=some (.slice A0_3 l0_3.length c0_3)∧w'.cell? ⟨gb116,4,none⟩=some (.slice A0_4 l0_4.length c0_4)) (ds:=[]) #[Z,Z,Z,Z,Z,Z,Z,Z] (by kernel_rfl) rfl rfl ⟨(qC BK116.out 0).trans rfl,(qC BK116.out 1).trans rfl,(qC BK116.out 2).trans rfl,(qC BK116.out 3).trans rfl,(qC BK116.out 4).trans rfl⟩ (fun hHeld=>?_);refine with_tabW spec_GoodLocks.tab27 spec_GoodLocks.bits27 (fun HT_ HW_=>?_);generalize wr.drew=w116 at BK116 HB hHeld ⊢
            refine pure_ (i:=1) (N:=some 125) (v:=?_) (a':=?_) #[Z,Y,Z,Z,Z,Z,Z,Z] rfl rfl (any_of HT_.out (by kernel_rfl)) (fun _ _ _ h=>h) (Or.inl ⟨by rfl,?_⟩) ?_ ?_;rotate_left
            ·intro w';go_simp;with_reducible rfl
            rotate_left
            ·simp only [Act.put,sIb,sZ,sS,i64_w,i32_w];rfl
            refine pure_ (i:=4) (N:=some 128) (v:=?_) (a':=?_) #[Z,Y,Z,Z,Y,Z,Z,Z] rfl rfl (any_of HT_.out (by kernel_rfl)) (fun _ _ _ h=>h) (Or.inl ⟨by rfl,?_⟩) ?_ ?_;rotate_left
            ·intro w';go_simp;with_reducible rfl
            rotate_left
            ·simp only [Act.put,sIb,sZ,sS,i64_w,i32_w];rfl
            refine take_ (i:=2) (N:=some 126) (v:=?_) (a':=?_) #[Z,Y,Y,Z,Y,Z,Z,Z] rfl rfl (take_ofW HT_.out HW_.out (by kernel_rfl)) (fun _ _ _ h=>h) (Or.inl ⟨by rfl,?_⟩) hHeld ?_ ?_;rotate_left
            ·rintro w' ⟨s0,s1,s2,s3,s4⟩;go_simp;with_reducible rfl
            rotate_left
            ·simp only [Act.put,sIb,sZ,sS,i64_w,i32_w];rfl
            refine take_ (i:=5) (N:=some 129) (v:=?_) (a':=?_) #[Z,Y,Y,Z,Y,Y,Z,Z] rfl rfl (take_ofW HT_.out HW_.out (by kernel_rfl)) (fun _ _ _ h=>h) (Or.inl ⟨by rfl,?_⟩) hHeld ?_ ?_;rotate_left
            ·rintro w' ⟨s0,s1,s2,s3,s4⟩;go_simp;with_reducible rfl
            rotate_left
            ·simp only [Act.put,sIb,sZ,sS,i64_w,i32_w];rfl
            refine one_ (i:=0) (N:=some 124) #[Y,Y,Y,Z,Y,Y,Z,Z] rfl rfl (one_of HT_.out (by kernel_rfl)) (by decide) (fun K hK=>?_);refine Kd.R_lit_step (Kd.int .i64) _ 3 ?hg (N:=124) ?hd (xs:=([]:List Int)) (inner:=[]) (ok:=fun _=>True) (okp:=fun _=>True) ?hr ?hp (fun _ hk=>hk) trivial (Below.refl _ _) (Nat.le_refl _) (by simp) ?_;(case hd=>rfl);(case hg=>rfl);(case hr=>(go_simp;try rfl));(case hp=>exact (Reps.none _ _));intro v143 w117 ho118 hb hg_ hnew_;clear hg_ hnew_;(first|rw [← Ny142.out] at ho118|(simp only [Int.reduceToNat] at ho118;rw [← Ny142.out] at ho118));have n0_:=qK (Kd.R_lower ho118 (qZ (by repeat (with_reducible first|exact HB.out|apply qA|apply qD|apply qO|refine qS ?_ GE116.out))));have n1_:=qK (qB (g:=gb116) (o:=_) (by (with_reducible repeat (first|refine qN ?_ _|refine qW ?_|refine qL ?_ _));exact BK116.out) hb);have n2_:=qK (qT (by repeat (with_reducible first|exact HB.out|apply qA|apply qD|apply qO|refine qS ?_ GE116.out)) hb);clear BK116;clear HB;have HO144:=n0_;have BK116:=n1_;have HB:=n2_;clear n0_ n1_ n2_;clear hb ho118;refine hK.out _ _ ⟨(qC BK116.out 0).trans rfl,(qC BK116.out 1).trans rfl,(qC BK116.out 2).trans rfl,(qC BK116.out 3).trans rfl,(qC BK116.out 4).trans rfl⟩ (fun hHeld=>?_);clear hK K;refine norm_ (a':=?_) ?_ ?_;rotate_left
            ·show Act.put _ (some 124) _=_
             simp only [Act.put,sIb,sZ,sS,i64_w,i32_w];rfl
            refine one_ (i:=3) (N:=some 127) #[Y,Y,Y,Y,Y,Y,Z,Z] rfl rfl (one_of HT_.out (by kernel_rfl)) (by decide) (fun K hK=>?_);refine Kd.R_append_rows_step (Kd.int .i64) (w0:=w) w.heap.size (by rfl) (.tmp 124) (.tmp 126) 23 3 (.int .i64 0) 8 rfl Try.underlying23 info3 rfl (by decide) (by omega) v143 y142 l0_3 _ _ _ (fun _=>True) (fun _=>False) rfl rfl ?aO ?aR (fun _ _ h=>h) (fun _ h=>h.elim) ?aF ?aB ?aS ?aL ?_;(case aR=>repeat (first|exact (cB HR0_3.out HB.out)|(with_reducible first|refine cL ?_ _|refine cN ?_ _|refine cW ?_)));(case aB=>exact (by repeat (with_reducible first|exact HB.out|apply qA|apply qD|apply qO|refine qS ?_ GE116.out)));(case aF=>exact (fun _ _=>trivial));(case aO=>exact (by (with_reducible repeat (first|apply rL|apply rN|apply rW));exact HO144.out));(case aS=>exact (qZ (by repeat (with_reducible first|exact HB.out|apply qA|apply qD|apply qO|refine qS ?_ GE116.out))));(case aL=>have:=LMc114.out;omega);intro v146 w119 ho hb hg hat;rw [← Ny145.out] at ho;have n0_:=qK (blk_grown (g:=gb116) (o:=_) (by (with_reducible repeat (first|refine qN ?_ _|refine qW ?_|refine qL ?_ _));exact BK116.out) hg (Kd.R_ne HO144.out BK116.out (by decide)));have n1_:=qK (hb);have n2_:=qK (ho);clear BK116;clear HB;clear HO144;have BK116:=n0_;have HB:=n1_;have HO147:=n2_;clear n0_ n1_ n2_;clear ho hb hg hat;refine hK.out _ _ ⟨(qC BK116.out 0).trans rfl,(qC BK116.out 1).trans rfl,(qC BK116.out 2).trans rfl,(qC BK116.out 3).trans rfl,(qC BK116.out 4).trans rfl⟩ (fun hHeld=>?_);clear hK K;refine norm_ (a':=?_) ?_ ?_;rotate_left
            ·show Act.put _ (some 127) _=_
             simp only [Act.put,sIb,sZ,sS,i64_w,i32_w];rfl
            refine one_ (i:=6) (N:=some 130) #[Y,Y,Y,Y,Y,Y,Y,Z] rfl rfl (one_of HT_.out (by kernel_rfl)) (by decide) (fun K hK=>?_);refine Kd.R_append_rows_step (Kd.int .i64) (w0:=w) w.heap.size (by rfl) (.tmp 127) (.tmp 129) 23 3 (.int .i64 0) 8 rfl Try.underlying23 info3 rfl (by decide) (by omega) v146 y145 l0_4 _ _ _ (fun _=>True) (fun _=>False) rfl rfl ?aO ?aR (fun _ _ h=>h) (fun _ h=>h.elim) ?aF ?aB ?aS ?aL ?_;(case aR=>repeat (first|exact (cB HR0_4.out HB.out)|(with_reducible first|refine cL ?_ _|refine cN ?_ _|refine cW ?_)));(case aB=>exact (by repeat (with_reducible first|exact HB.out|apply qA|apply qD|apply qO|refine qS ?_ GE116.out)));(case aF=>exact (fun _ _=>trivial));(case aO=>exact (by (with_reducible repeat (first|apply rL|apply rN|apply rW));exact HO147.out));(case aS=>exact (qZ (by repeat (with_reducible first|exact HB.out|apply qA|apply qD|apply qO|refine qS ?_ GE116.out))));(case aL=>have:=LMc115.out;omega);intro v149 w120 ho hb hg hat;rw [← Ny148.out] at ho;have n0_:=qK (blk_grown (g:=gb116) (o:=_) (by (with_reducible repeat (first|refine qN ?_ _|refine qW ?_|refine qL ?_ _));exact BK116.out) hg (Kd.R_ne HO147.out BK116.out (by decide)));have n1_:=qK (hb);have n2_:=qK (ho);clear BK116;clear HB;clear HO147;have BK116:=n0_;have HB:=n1_;have HO150:=n2_;clear n0_ n1_ n2_;clear ho hb hg hat;refine hK.out _ _ ⟨(qC BK116.out 0).trans rfl,(qC BK116.out 1).trans rfl,(qC BK116.out 2).trans rfl,(qC BK116.out 3).trans rfl,(qC BK116.out 4).trans rfl⟩ (fun hHeld=>?_);clear hK K;refine norm_ (a':=?_) ?_ ?_;rotate_left
            ·show Act.put _ (some 130) _=_
             simp only [Act.put,sIb,sZ,sS,i64_w,i32_w];rfl
            refine pure_ (i:=7) (N:=some 11) (v:=?_) (a':=?_) #[Y,Y,Y,Y,Y,Y,Y,Y] rfl rfl (any_of HT_.out (by kernel_rfl)) (fun _ _ _ h=>h) (Or.inl ⟨by rfl,?_⟩) ?_ ?_;rotate_left
            ·intro w';go_simp;with_reducible rfl
            rotate_left
            ·simp only [Act.put,sIb,sZ,sS,i64_w,i32_w];rfl
            refine done_ (done_of HT_.out (by kernel_rfl)) ?_;obtain ⟨Ao121,co121,eo121⟩:=Kd.R_slice HO150.out;subst eo121;try go_wp2
            go_loopg [133] k3 (fun kq v133 w'=>∃ (x133_4:Int),v133=.int .i64 x133_4∧Aside0 (spec_GoodLocks.l4 kq y148 y148 (y148.length:Int) x133_4 l0_0 l0_1 l0_2 l0_3 l0_4=some r)∧Aside0 (kq≤k3)∧Aside0 (Kd.R (Kd.int .i64) 3 w' w.heap.size (fun _=>True) (.slice Ao121 y148.length co121) y148)∧Aside0 (Kd.R (Kd.int .i64) 3 w' w.heap.size (fun _=>True) (.slice Ao121 y148.length co121) y148)∧Aside0 (w'.heap[gb116]?=some (.cells #[(.slice A0_0 l0_0.length c0_0),(.slice A0_1 l0_1.length c0_1),(.slice A0_2 l0_2.length c0_2),(.slice A0_3 l0_3.length c0_3),(.slice A0_4 l0_4.length c0_4)] 31 (0,0)))∧Aside0 (Below w.heap.size w w'))
            case atStart=>exact ⟨(0),(by first|rfl|(simp;done)|(simp [*];done)),H',⟨Nat.le_refl _⟩,⟨by (with_reducible repeat (first|apply rL|apply rN|apply rW));exact HO150.out⟩,⟨by (with_reducible repeat (first|apply rL|apply rN|apply rW));exact HO150.out⟩,⟨by (with_reducible repeat (first|refine qN ?_ _|refine qW ?_|refine qL ?_ _));exact BK116.out⟩,⟨by repeat (first|(with_reducible first|exact HB.out|apply qA|apply qD|apply qO|refine qS ?_ GE116.out)|exact HB.out)⟩⟩
            case round =>
             clear H';try clear c1
             try clear p1
             try clear q1
             try clear hx1
             try clear c2
             try clear p2
             try clear c3
             try clear c5
             try clear q5
             try clear c6
             try clear p6
             try clear c7
             try clear c8
             try clear c9
             try clear q9
             try clear c10
             try clear c11
             try clear p13
             try clear q13
             try clear hx13
             try clear p14
             try clear q14
             try clear hx14
             try clear c23
             try clear c23b0
             try clear c24
             try clear c25
             try clear c35
             try clear c35b0
             try clear c37
             try clear c38
             try clear c39
             try clear c53
             try clear c54
             try clear c54b0
             try clear c54b1
             try clear c55
             try clear c55b0
             try clear c55b1
             try clear c56
             try clear q58
             try clear c59
             try clear c59b0
             try clear c60
             try clear c60b0
             try clear c61
             try clear c61b0
             try clear c63
             try clear p64
             try clear c65
             try clear c66
             try clear c68
             try clear c72
             try clear c73
             try clear c75
             try clear c79
             try clear c79b0
             try clear c80
             try clear c80b0
             try clear c81
             try clear c81b0
             try clear c83
             try clear c85
             try clear c89
             try clear c89b0
             try clear c90
             try clear c90b0
             try clear c90b1
             try clear c92
             try clear q97
             try clear c98
             try clear c98b0
             try clear c99
             try clear c99b0
             try clear c100
             try clear c100b0
             try clear c101
             try clear c101b0
             try clear c101b1
             try clear c103
             try clear c104
             try clear c106
             try clear c109
             try clear c110
             try clear c112
             try clear c114
             try clear c115
             try clear hcz105_0
             try clear hcz105_1
             try clear hcz105_2
             try clear hcz107_0
             try clear hcz107_1
             try clear hcz107_2
             try clear hcz111_0
             try clear hcz111_1
             try clear hcz111_2
             try clear hcz113_0
             try clear hcz113_1
             try clear hcz113_2
             try clear hcz57_0
             try clear hcz57_1
             try clear hcz57_2
             try clear hcz57_3
             try clear hcz57_4
             try clear hcz67_0
             try clear hcz67_1
             try clear hcz67_2
             try clear hcz69_0
             try clear hcz69_1
             try clear hcz69_2
             try clear hcz74_0
             try clear hcz74_1
             try clear hcz74_2
             try clear hcz76_0
             try clear hcz76_1
             try clear hcz76_2
             try clear hcz78_0
             try clear hcz78_1
             try clear hcz78_2
             try clear hcz78_3
             try clear hcz78_4
             try clear hcz86_0
             try clear hcz86_1
             try clear hcz86_2
             try clear hcz87_0
             try clear hcz87_1
             try clear hcz87_2
             try clear hcz87_3
             try clear hcz87_4
             try clear hcz93_0
             try clear hcz93_1
             try clear hcz93_2
             try clear hcz94_0
             try clear hcz94_1
             try clear hcz94_2
             try clear hcz94_3
             try clear hcz94_4
             try clear hcz96_0
             try clear hcz96_1
             try clear hcz96_2
             try clear hcz96_3
             try clear hcz96_4
             try clear hfz105_0
             try clear hfz105_1
             try clear hfz105_2
             try clear hfz107_0
             try clear hfz107_1
             try clear hfz107_2
             try clear hfz111_0
             try clear hfz111_1
             try clear hfz111_2
             try clear hfz113_0
             try clear hfz113_1
             try clear hfz113_2
             try clear hfz57_0
             try clear hfz57_1
             try clear hfz57_2
             try clear hfz57_3
             try clear hfz57_4
             try clear hfz67_0
             try clear hfz67_1
             try clear hfz67_2
             try clear hfz69_0
             try clear hfz69_1
             try clear hfz69_2
             try clear hfz74_0
             try clear hfz74_1
             try clear hfz74_2
             try clear hfz76_0
             try clear hfz76_1
             try clear hfz76_2
             try clear hfz78_0
             try clear hfz78_1
             try clear hfz78_2
             try clear hfz78_3
             try clear hfz78_4
             try clear hfz86_0
             try clear hfz86_1
             try clear hfz86_2
             try clear hfz87_0
             try clear hfz87_1
             try clear hfz87_2
             try clear hfz87_3
             try clear hfz87_4
             try clear hfz93_0
             try clear hfz93_1
             try clear hfz93_2
             try clear hfz94_0
             try clear hfz94_1
             try clear hfz94_2
             try clear hfz94_3
             try clear hfz94_4
             try clear hfz96_0
             try clear hfz96_1
             try clear hfz96_2
             try clear hfz96_3
             try clear hfz96_4
             try clear hx130_0
             try clear hx130_1
             try clear hx130_2
             try clear hx133_0
             try clear hx133_1
             try clear hx133_2
             try clear hx140_0
             try clear hx140_1
             try clear hx140_2
             try clear p1
             try clear p13
             try clear p130
             try clear p133
             try clear p140
             try clear p2
             try clear p6
             try clear p64
             try clear q1
             try clear q13
             try clear q130
             try clear q133
             try clear q140
             try clear q5
             try clear q58
             try clear q9
             try clear q97
             obtain ⟨x133_4,rfl,HA,HK4,HO_11,HO_131,BK116,HB⟩:=hrel;cases gk with
             | zero=>exact absurd HA.out (by simp [spec_GoodLocks.l4])
             | succ k4 =>
              have H:=HA.out;clear HA;simp only [spec_GoodLocks.l4] at H;by_cases c122:x133_4 < (y148.length:Int)
              ·rw [if_pos c122] at H;have c122b0:decide (x133_4 < (y148.length:Int))=true:=decide_eq_true c122;clear c122;by_cases c123:0≤x133_4
               ·rw [if_pos c123] at H;have c123b0:decide (0≤x133_4)=true:=decide_eq_true c123;clear c123;by_cases c124:x133_4 < (y148.length:Int)
                ·rw [if_pos c124] at H;have c124b0:decide (x133_4 < (y148.length:Int))=true:=decide_eq_true c124;clear c124;by_cases c125:(rd y148 x133_4) < 0
                 ·rw [if_pos c125] at H;have c125b0:decide ((rd y148 x133_4) < 0)=true:=decide_eq_true c125;clear c125;obtain rfl:=Option.some.inj H;have p151:0≤(x133_4:Int):=of_decide_eq_true (by first|(with_reducible assumption)|assumption);have q151:x133_4 < (y148.length:Int):=of_decide_eq_true (by first|(with_reducible assumption)|assumption);obtain ⟨ad151,e151,hx151_0⟩:=Kd.at_int (Kd.R_reads' HO_131.out).2.2 x133_4 p151 q151;cases e151
                  replace p151:=eq_true p151;replace q151:=eq_true q151;go_wp2
                  go_ret
                  exact ⟨by first|rfl|(simp [errW_none,errW_some] <;> rfl)|(simp [*,errW_none,errW_some] <;> rfl),by repeat (first|(with_reducible first|exact HB.out|apply qA|apply qD|apply qO|refine qS ?_ GE116.out)|exact HB.out)⟩
                 ·rw [if_neg c125] at H;have c125b0:decide ((rd y148 x133_4) < 0)=false:=decide_eq_false c125;clear c125;by_cases c126:(rd y148 x133_4) ≥ 6
                  ·rw [if_pos c126] at H;have c126b0:decide (6≤(rd y148 x133_4))=true:=decide_eq_true c126;clear c126;obtain rfl:=Option.some.inj H;have p151:0≤(x133_4:Int):=of_decide_eq_true (by first|(with_reducible assumption)|assumption);have q151:x133_4 < (y148.length:Int):=of_decide_eq_true (by first|(with_reducible assumption)|assumption);obtain ⟨ad151,e151,hx151_0⟩:=Kd.at_int (Kd.R_reads' HO_131.out).2.2 x133_4 p151 q151;cases e151
                   replace p151:=eq_true p151;replace q151:=eq_true q151;go_wp2
                   go_ret
                   exact ⟨by first|rfl|(simp [errW_none,errW_some] <;> rfl)|(simp [*,errW_none,errW_some] <;> rfl),by repeat (first|(with_reducible first|exact HB.out|apply qA|apply qD|apply qO|refine qS ?_ GE116.out)|exact HB.out)⟩
                  ·rw [if_neg c126] at H;have c126b0:decide (6≤(rd y148 x133_4))=false:=decide_eq_false c126;clear c126;have c127b0:=eq_true (of_decide_eq_true (by first|(with_reducible assumption)|assumption):0≤x133_4);by_cases c128:x133_4≤(y148.length:Int)
                   ·rw [if_pos c128] at H;have c128b0:=eq_true c128;have c128b1:decide (x133_4≤(y148.length:Int))=true:=decide_eq_true c128;clear c128;obtain ⟨y152,hy152⟩:∃ y_:List Int,y_=(y148.take (x133_4:Int).toNat):=⟨_,rfl⟩;replace H:((spec_l1Has.f k4 y152 (rd y148 x133_4)).bind fun t156=>(if t156=true then (some false) else (spec_GoodLocks.l4 k4 y148 y148 (y148.length:Int) (wrap64 (x133_4 + 1)) l0_0 l0_1 l0_2 l0_3 l0_4)))=some r:=by first|(rw [hy152];with_reducible exact H)|(have H2_:=(Option.bind_some _ _).symm.trans H;rw [hy152];with_reducible exact H2_)|(have H2_:=(Option.bind_some _ _).symm.trans H;with_reducible exact H2_)|with_reducible exact H|(rw [hy152];exact H)|exact H
                    have Ny152:=qK hy152;clear hy152;replace H:=Option.bind_eq_some_iff.mp H;obtain ⟨t156,A1290,H⟩:=H;replace H:(if t156=true then (some false) else (spec_GoodLocks.l4 k4 y148 y148 (y148.length:Int) (wrap64 (x133_4 + 1)) l0_0 l0_1 l0_2 l0_3 l0_4))=some r:=H;have A129:=qK A1290;clear A1290;by_cases c130:t156=true
                    ·subst c130;have H1:(some false)=some r:=by rw [if_pos rfl] at H;exact H
                     clear H;have H:=H1;clear H1;obtain rfl:=Option.some.inj H;have p151:0≤(x133_4:Int):=of_decide_eq_true (by first|(with_reducible assumption)|assumption);have q151:x133_4 < (y148.length:Int):=of_decide_eq_true (by first|(with_reducible assumption)|assumption);obtain ⟨ad151,e151,hx151_0⟩:=Kd.at_int (Kd.R_reads' HO_131.out).2.2 x133_4 p151 q151;cases e151
                     replace p151:=eq_true p151;replace q151:=eq_true q151;have q131:(x133_4:Int)≤((y148.length:Int):Int):=of_decide_eq_true (by first|(with_reducible assumption)|assumption);obtain ⟨i0131,hi0131,_,hsz131,_⟩:=info_parts info3;have hroom131:y148.length≤co121:=(Kd.R_reads' HO_11.out).2.1;have hC131:Kd.C (Kd.int .i64) _ (some ad151) y148.length y148:=(Kd.R_reads' HO_11.out).2.2;have hcut131:=cut_to (P:=Try.prog) 23 3 .i64 Try.underlying23 hi0131 (some ad151) y148.length co121 x133_4 (of_decide_eq_true (by first|(with_reducible assumption)|assumption)) q131 hroom131;have hr131:=Kd.C_take (m:=(x133_4:Int).toNat) hC131 (by omega);have hy131:y152.length=(x133_4:Int).toNat:=(by rw [Ny152.out,lT];omega);rw [← Ny152.out] at hr131;rw [← hy131] at hcut131;have HR155:=qK hr131;have HC155:=qK (show y152.length≤co121 from by omega);clear hr131 hC131 hroom131 hi0131 hsz131;have KY131:=qK hy131;clear hy131;have KL131:=qK (show (x133_4:Int).toNat≤y148.length from by omega);replace q131:=eq_true q131;go_wp2_with (first|(go_at_call 22;(with_reducible refine (spec_l1Has.calls k4 _ _ y152 (rd y148 x133_4) true _ ?side1 ?side2 A129.out).mono ?_);(case side1=>repeat (first|exact (by repeat (first|(with_reducible exact HR155.out)|(with_reducible first|refine cL ?_ _|refine cN ?_ _|refine cW ?_)|exact HR155.out))|(with_reducible first|refine cL ?_ _|refine cN ?_ _|refine cW ?_)));(case side2=>exact HC155.out);rintro e w' ⟨rfl,⟨nd,rfl⟩⟩))
                     go_ret
                     exact ⟨by first|rfl|(simp [errW_none,errW_some] <;> rfl)|(simp [*,errW_none,errW_some] <;> rfl),by repeat (first|(with_reducible first|exact HB.out|apply qA|apply qD|apply qO|refine qS ?_ GE116.out)|exact HB.out)⟩
                    ·replace c130:=Bool.eq_false_iff.mpr c130;subst c130;have H1:(spec_GoodLocks.l4 k4 y148 y148 (y148.length:Int) (wrap64 (x133_4 + 1)) l0_0 l0_1 l0_2 l0_3 l0_4)=some r:=by rw [if_neg (show ¬ (false=true) by decide)] at H;exact H
                     clear H;have H:=H1;clear H1;have H':=qK H;clear H;have p151:0≤(x133_4:Int):=of_decide_eq_true (by first|(with_reducible assumption)|assumption);have q151:x133_4 < (y148.length:Int):=of_decide_eq_true (by first|(with_reducible assumption)|assumption);obtain ⟨ad151,e151,hx151_0⟩:=Kd.at_int (Kd.R_reads' HO_131.out).2.2 x133_4 p151 q151;cases e151
                     replace p151:=eq_true p151;replace q151:=eq_true q151;have q132:(x133_4:Int)≤((y148.length:Int):Int):=of_decide_eq_true (by first|(with_reducible assumption)|assumption);obtain ⟨i0132,hi0132,_,hsz132,_⟩:=info_parts info3;have hroom132:y148.length≤co121:=(Kd.R_reads' HO_11.out).2.1;have hC132:Kd.C (Kd.int .i64) _ (some ad151) y148.length y148:=(Kd.R_reads' HO_11.out).2.2;have hcut132:=cut_to (P:=Try.prog) 23 3 .i64 Try.underlying23 hi0132 (some ad151) y148.length co121 x133_4 (of_decide_eq_true (by first|(with_reducible assumption)|assumption)) q132 hroom132;have hr132:=Kd.C_take (m:=(x133_4:Int).toNat) hC132 (by omega);have hy132:y152.length=(x133_4:Int).toNat:=(by rw [Ny152.out,lT];omega);rw [← Ny152.out] at hr132;rw [← hy132] at hcut132;have HR155:=qK hr132;have HC155:=qK (show y152.length≤co121 from by omega);clear hr132 hC132 hroom132 hi0132 hsz132;have KY132:=qK hy132;clear hy132;have KL132:=qK (show (x133_4:Int).toNat≤y148.length from by omega);replace q132:=eq_true q132;go_wp2_with (first|(go_at_call 22;(with_reducible refine (spec_l1Has.calls k4 _ _ y152 (rd y148 x133_4) false _ ?side1 ?side2 A129.out).mono ?_);(case side1=>repeat (first|exact (by repeat (first|(with_reducible exact HR155.out)|(with_reducible first|refine cL ?_ _|refine cN ?_ _|refine cW ?_)|exact HR155.out))|(with_reducible first|refine cL ?_ _|refine cN ?_ _|refine cW ?_)));(case side2=>exact HC155.out);rintro e w' ⟨rfl,⟨nd,rfl⟩⟩))
                     go_roundg k4
                     case measure=>have:=HJ1.out;have:=HK2.out;have:=HK3.out;have:=HK4.out;omega
                     case rel=>exact ⟨(wrap64 (x133_4 + 1)),(by first|rfl|(simp;done)|(simp [*];done)),H',⟨by have:=HJ1.out;have:=HK2.out;have:=HK3.out;have:=HK4.out;omega⟩,⟨by (with_reducible repeat (first|apply rL|apply rN|apply rW));exact HO_11.out⟩,⟨by (with_reducible repeat (first|apply rL|apply rN|apply rW));exact HO_131.out⟩,⟨by (with_reducible repeat (first|refine qN ?_ _|refine qW ?_|refine qL ?_ _));exact BK116.out⟩,⟨by repeat (first|(with_reducible first|exact HB.out|apply qA|apply qD|apply qO|refine qS ?_ GE116.out)|exact HB.out)⟩⟩
                   ·rw [if_neg c128] at H;exact absurd H (by simp)
                ·rw [if_neg c124] at H;exact absurd H (by simp)
               ·rw [if_neg c123] at H;exact absurd H (by simp)
              ·rw [if_neg c122] at H;have c122b0:decide (x133_4 < (y148.length:Int))=false:=decide_eq_false c122;clear c122;obtain rfl:=Option.some.inj H;have hcz133_0:wr.cell? ⟨gb116,0,none⟩=some (.slice A0_0 l0_0.length c0_0):=(qC BK116.out 0).trans rfl;have hcz133_1:wr.cell? ⟨gb116,1,none⟩=some (.slice A0_1 l0_1.length c0_1):=(qC BK116.out 1).trans rfl;have hcz133_2:wr.cell? ⟨gb116,2,none⟩=some (.slice A0_2 l0_2.length c0_2):=(qC BK116.out 2).trans rfl;have hcz133_3:wr.cell? ⟨gb116,3,none⟩=some (.slice A0_3 l0_3.length c0_3):=(qC BK116.out 3).trans rfl;have hcz133_4:wr.cell? ⟨gb116,4,none⟩=some (.slice A0_4 l0_4.length c0_4):=(qC BK116.out 4).trans rfl;have hfz133_0:=qF BK116.out 0;have hfz133_1:=qF BK116.out 1;have hfz133_2:=qF BK116.out 2;have hfz133_3:=qF BK116.out 3;have hfz133_4:=qF BK116.out 4;go_wp2
               go_ret
               exact ⟨by first|rfl|(simp [errW_none,errW_some] <;> rfl)|(simp [*,errW_none,errW_some] <;> rfl),by repeat (first|(with_reducible first|exact HB.out|apply qA|apply qD|apply qO|refine qS ?_ GE116.out)|exact HB.out)⟩
           ·rw [if_neg c115] at H;exact absurd H (by simp)
          ·rw [if_neg c114] at H;exact absurd H (by simp)

end Go.Proofs.Ytfnaclgiggkbmaa.PFnExactRunDone
