/-
  A text of this claim's own, printed by a program of the session (wip/tools/xprint.py): functions of the program as Lean functions, each with what its call comes to.
-/
import Derived.Test.YtboligpcbndkjaaPFnExactIsContainedx0
import Derived.Test.YtboligpcbndkjaaPFnExactIsContainedx2
namespace Go.Proofs.Ytboligpcbndkjaa.PFnExactIsContained
open Go.Proofs.YtboligpcbndkjaaW.PrintWords renaming pw_below_drewN → qD, blk_cell → qC, below_drew1 → qO, below_alloc → qA, blk_frozen → qF, below_set → qS, blk_drewN → qN, blk_alloc → qL, blk_drew → qW, below_size → qZ, below_step → qT, blk_below → qB, blk_far → qR, blk_put → qP
open Go.Proofs.YtboligpcbndkjaaW.PrintWords.Aside0 renaming mk → qK
open Bool renaming true → Y, false → Z
open List renaming setIfInBounds_toArray → sIb, set_cons_zero → sZ, set_cons_succ → sS, map_toArray → mT, map_cons → mC, map_nil → mN, length_drop → lD, length_take → lT
open Go.Proofs.YtboligpcbndkjaaW.PrintWords.Kd renaming C_alloc → cL, C_drewN → cN, C_drew → cW, C_below → cB, R_alloc → rL, R_drewN → rN, R_drew → rW, R_below → rB
open Go.RowKit Go.Proofs.YtboligpcbndkjaaW.PrintWords Go.Proofs.YtboligpcbndkjaaW.PrintLast Go.Proofs.YtboligpcbndkjaaW.PrintMore
attribute [local go_sem] max2_int min2_int max_two min_two max_three min_three max_four min_four   -- for this text's walks alone
set_option linter.unusedVariables false
set_option linter.unusedSimpArgs false

/-! ### spec_GoodQuery: function 75 -/
mutual
def spec_GoodQuery.j0 : Nat→List Int→Bool→List Int→List (S97)→Option (Bool)
 | 0,_,_,_,_=>none
 | k + 1,x1,x24,x205000,x205001=>if x24=true then (some false) else (spec_GoodQuery.l0 k x1 x205001 (x205001.length:Int) 0 x205000 x205001)
def spec_GoodQuery.l0 : Nat→List Int→List (S97)→Int→Int→List Int→List (S97)→Option (Bool)
 | 0,_,_,_,_,_,_=>none
 | k + 1,x1,x26,x27,x28,x205000,x205001=>if x28 < x27 then (if 0≤x28 then (if x28 < (x26.length:Int) then (if ((rd_T97 x26 x28).f0) < 0 then (spec_GoodQuery.j2 k x1 x26 x27 x28 true x205000 x205001 ((rd_T97 x26 x28).f0) ((rd_T97 x26 x28).f1)) else (if ((rd_T97 x26 x28).f0) ≥ (x1.length:Int) then (spec_GoodQuery.j2 k x1 x26 x27 x28 true x205000 x205001 ((rd_T97 x26 x28).f0) ((rd_T97 x26 x28).f1)) else (if 0≤((rd_T97 x26 x28).f0) then (if ((rd_T97 x26 x28).f0) < (x1.length:Int) then (spec_GoodQuery.j2 k x1 x26 x27 x28 ((((rd_T97 x26 x28).f1).length:Int) != (rd x1 ((rd_T97 x26 x28).f0))) x205000 x205001 ((rd_T97 x26 x28).f0) ((rd_T97 x26 x28).f1)) else (none)) else (none)))) else (none)) else (none)) else ((spec_l10Vars.f k x205000 x205001).bind fun t207=>((spec_l7All.f k t207 x205000).bind fun t210=>(some t210)))
def spec_GoodQuery.j2 : Nat→List Int→List (S97)→Int→Int→Bool→List Int→List (S97)→Int→List Int→Option (Bool)
 | 0,_,_,_,_,_,_,_,_,_=>none
 | k + 1,x1,x26,x27,x28,x52,x205000,x205001,x213000,x213001=>if x52=true then (some false) else (spec_GoodQuery.l1 k x1 x26 x27 x28 x213001 (x213001.length:Int) 0 x205000 x205001)
def spec_GoodQuery.l1 : Nat→List Int→List (S97)→Int→Int→List Int→Int→Int→List Int→List (S97)→Option (Bool)
 | 0,_,_,_,_,_,_,_,_,_=>none
 | k + 1,x1,x26,x27,x28,x54,x55,x56,x205000,x205001=>if x56 < x55 then (if 0≤x56 then (if x56 < (x54.length:Int) then ((spec_l10Var.f (rd x54 x56)).bind fun t215=>(if t215=true then (spec_GoodQuery.l1 k x1 x26 x27 x28 x54 x55 (wrap64 (x56 + 1)) x205000 x205001) else (some false))) else (none)) else (none)) else (spec_GoodQuery.l0 k x1 x26 x27 (wrap64 (x28 + 1)) x205000 x205001)
end
def spec_GoodQuery.f (k:Nat) (l0_0:List Int) (l0_1:List (S97)) (l1:List Int):Option (Bool):=(spec_l10Tables.f k l1).bind fun t205=>(if t205=true then ((spec_l1In.f (l0_1.length:Int) 1 5).bind fun t206=>(if t206=true then (spec_GoodQuery.j0 k l1 (decide ((l0_0.length:Int) > 6)) l0_0 l0_1) else (spec_GoodQuery.j0 k l1 true l0_0 l0_1))) else (spec_GoodQuery.j0 k l1 true l0_0 l0_1))
theorem spec_GoodQuery.mono_l : ∀ k,(∀ y0 y1 y2 y3,LeO (spec_GoodQuery.j0 k y0 y1 y2 y3) (spec_GoodQuery.j0 (k + 1) y0 y1 y2 y3))∧(∀ y0 y1 y2 y3 y4 y5,LeO (spec_GoodQuery.l0 k y0 y1 y2 y3 y4 y5) (spec_GoodQuery.l0 (k + 1) y0 y1 y2 y3 y4 y5))∧(∀ y0 y1 y2 y3 y4 y5 y6 y7 y8,LeO (spec_GoodQuery.j2 k y0 y1 y2 y3 y4 y5 y6 y7 y8) (spec_GoodQuery.j2 (k + 1) y0 y1 y2 y3 y4 y5 y6 y7 y8))∧(∀ y0 y1 y2 y3 y4 y5 y6 y7 y8,LeO (spec_GoodQuery.l1 k y0 y1 y2 y3 y4 y5 y6 y7 y8) (spec_GoodQuery.l1 (k + 1) y0 y1 y2 y3 y4 y5 y6 y7 y8))
 | 0=>⟨fun _ _ _ _ r h=>by simp [spec_GoodQuery.j0] at h,fun _ _ _ _ _ _ r h=>by simp [spec_GoodQuery.l0] at h,fun _ _ _ _ _ _ _ _ _ r h=>by simp [spec_GoodQuery.j2] at h,fun _ _ _ _ _ _ _ _ _ r h=>by simp [spec_GoodQuery.l1] at h⟩
 | k + 1=>by
  obtain ⟨ih0,ih1,ih2,ih3⟩:=spec_GoodQuery.mono_l k;refine ⟨?_,?_,?_,?_⟩
  ·intro y0 y1 y2 y3;unfold spec_GoodQuery.j0
   repeat' first
   | (with_reducible exact ih0 _ _ _ _)
   | (with_reducible exact ih1 _ _ _ _ _ _)
   | (with_reducible exact ih2 _ _ _ _ _ _ _ _ _)
   | (with_reducible exact ih3 _ _ _ _ _ _ _ _ _)
   | (with_reducible exact spec_l10Tables.mono _ _)
   | (with_reducible exact spec_l10Vars.mono _ _ _)
   | (with_reducible exact spec_l7All.mono _ _ _)
   | (with_reducible exact LeO.refl _)
   | (with_reducible exact LeO.none _)
   | (with_reducible refine LeO.ite ?_ ?_)
   | (with_reducible refine LeO.bind ?_ (fun _=>?_))
   | exact ih0 _ _ _ _
   | exact ih1 _ _ _ _ _ _
   | exact ih2 _ _ _ _ _ _ _ _ _
   | exact ih3 _ _ _ _ _ _ _ _ _
   | exact spec_l10Tables.mono _ _
   | exact spec_l10Vars.mono _ _ _
   | exact spec_l7All.mono _ _ _
   | exact LeO.none _
   | refine LeO.ite ?_ ?_
   | refine LeO.bind ?_ (fun _=>?_)
  ·intro y0 y1 y2 y3 y4 y5;unfold spec_GoodQuery.l0
   repeat' first
   | (with_reducible exact ih0 _ _ _ _)
   | (with_reducible exact ih1 _ _ _ _ _ _)
   | (with_reducible exact ih2 _ _ _ _ _ _ _ _ _)
   | (with_reducible exact ih3 _ _ _ _ _ _ _ _ _)
   | (with_reducible exact spec_l10Tables.mono _ _)
   | (with_reducible exact spec_l10Vars.mono _ _ _)
   | (with_reducible exact spec_l7All.mono _ _ _)
   | (with_reducible exact LeO.refl _)
   | (with_reducible exact LeO.none _)
   | (with_reducible refine LeO.ite ?_ ?_)
   | (with_reducible refine LeO.bind ?_ (fun _=>?_))
   | exact ih0 _ _ _ _
   | exact ih1 _ _ _ _ _ _
   | exact ih2 _ _ _ _ _ _ _ _ _
   | exact ih3 _ _ _ _ _ _ _ _ _
   | exact spec_l10Tables.mono _ _
   | exact spec_l10Vars.mono _ _ _
   | exact spec_l7All.mono _ _ _
   | exact LeO.none _
   | refine LeO.ite ?_ ?_
   | refine LeO.bind ?_ (fun _=>?_)
  ·intro y0 y1 y2 y3 y4 y5 y6 y7 y8;unfold spec_GoodQuery.j2
   repeat' first
   | (with_reducible exact ih0 _ _ _ _)
   | (with_reducible exact ih1 _ _ _ _ _ _)
   | (with_reducible exact ih2 _ _ _ _ _ _ _ _ _)
   | (with_reducible exact ih3 _ _ _ _ _ _ _ _ _)
   | (with_reducible exact spec_l10Tables.mono _ _)
   | (with_reducible exact spec_l10Vars.mono _ _ _)
   | (with_reducible exact spec_l7All.mono _ _ _)
   | (with_reducible exact LeO.refl _)
   | (with_reducible exact LeO.none _)
   | (with_reducible refine LeO.ite ?_ ?_)
   | (with_reducible refine LeO.bind ?_ (fun _=>?_))
   | exact ih0 _ _ _ _
   | exact ih1 _ _ _ _ _ _
   | exact ih2 _ _ _ _ _ _ _ _ _
   | exact ih3 _ _ _ _ _ _ _ _ _
   | exact spec_l10Tables.mono _ _
   | exact spec_l10Vars.mono _ _ _
   | exact spec_l7All.mono _ _ _
   | exact LeO.none _
   | refine LeO.ite ?_ ?_
   | refine LeO.bind ?_ (fun _=>?_)
  ·intro y0 y1 y2 y3 y4 y5 y6 y7 y8;unfold spec_GoodQuery.l1
   repeat' first
   | (with_reducible exact ih0 _ _ _ _)
   | (with_reducible exact ih1 _ _ _ _ _ _)
   | (with_reducible exact ih2 _ _ _ _ _ _ _ _ _)
   | (with_reducible exact ih3 _ _ _ _ _ _ _ _ _)
   | (with_reducible exact spec_l10Tables.mono _ _)
   | (with_reducible exact spec_l10Vars.mono _ _ _)
   | (with_reducible exact spec_l7All.mono _ _ _)
   | (with_reducible exact LeO.refl _)
   | (with_reducible exact LeO.none _)
   | (with_reducible refine LeO.ite ?_ ?_)
   | (with_reducible refine LeO.bind ?_ (fun _=>?_))
   | exact ih0 _ _ _ _
   | exact ih1 _ _ _ _ _ _
   | exact ih2 _ _ _ _ _ _ _ _ _
   | exact ih3 _ _ _ _ _ _ _ _ _
   | exact spec_l10Tables.mono _ _
   | exact spec_l10Vars.mono _ _ _
   | exact spec_l7All.mono _ _ _
   | exact LeO.none _
   | refine LeO.ite ?_ ?_
   | refine LeO.bind ?_ (fun _=>?_)
theorem spec_GoodQuery.mono : ∀ a0 a1 a2 k,LeO (spec_GoodQuery.f k a0 a1 a2) (spec_GoodQuery.f (k + 1) a0 a1 a2):=by
 intro a0 a1 a2 k;obtain ⟨ih0,ih1,ih2,ih3⟩:=spec_GoodQuery.mono_l k;unfold spec_GoodQuery.f
 repeat' first
   | (with_reducible exact ih0 _ _ _ _)
   | (with_reducible exact ih1 _ _ _ _ _ _)
   | (with_reducible exact ih2 _ _ _ _ _ _ _ _ _)
   | (with_reducible exact ih3 _ _ _ _ _ _ _ _ _)
   | (with_reducible exact spec_l10Tables.mono _ _)
   | (with_reducible exact spec_l10Vars.mono _ _ _)
   | (with_reducible exact spec_l7All.mono _ _ _)
   | (with_reducible exact LeO.refl _)
   | (with_reducible exact LeO.none _)
   | (with_reducible refine LeO.ite ?_ ?_)
   | (with_reducible refine LeO.bind ?_ (fun _=>?_))
   | exact ih0 _ _ _ _
   | exact ih1 _ _ _ _ _ _
   | exact ih2 _ _ _ _ _ _ _ _ _
   | exact ih3 _ _ _ _ _ _ _ _ _
   | exact spec_l10Tables.mono _ _
   | exact spec_l10Vars.mono _ _ _
   | exact spec_l7All.mono _ _ _
   | exact LeO.none _
   | refine LeO.ite ?_ ?_
   | refine LeO.bind ?_ (fun _=>?_)
def spec_GoodQuery.T6 : Bool × List (List Nat × List Nat):=(true,[([],[]),([0],[0]),([1],[1]),([2],[2]),([3],[3]),([4,3],[3,4]),([3],[3]),([6,3],[3,6]),([5,7,3],[3,5,7]),([3,8],[3,8]),([9,3],[9]),([10],[10]),([11,10],[10,11]),([12,10],[10,12]),([10],[10]),([10],[10]),([15,10],[10,15]),([14,16,10],[10,14,16]),([17,10],[10,17]),([13,18,10],[10,13,18]),([10,19],[10,19])])
def spec_GoodQuery.B6 : List Nat:=[0,1,3,7,15,31,15,79,255,511,1023,2047,4095,8191,2047,2047,34815,116735,247807,524287,1048575]
theorem spec_GoodQuery.tab6 : rtab .any (opsOf Try.f75 6)=spec_GoodQuery.T6:=by kernel_rfl
theorem spec_GoodQuery.bits6 : waitsOk spec_GoodQuery.T6.2 spec_GoodQuery.B6=true:=by kernel_rfl
set_option maxHeartbeats 8000000 in
set_option maxRecDepth 100000 in
theorem spec_GoodQuery.calls (k:Nat) (A0_0:Option Addr) (c0_0:Nat) (l0_0:List Int) (A0_1:Option Addr) (c0_1:Nat) (l0_1:List (S97)) (A1:Option Addr) (c1:Nat) (l1:List Int) (r:Bool) (w:World) (hr0_0:Kd.C (Kd.int .i64) w A0_0 l0_0.length l0_0) (hc0_0:l0_0.length≤c0_0) (hr0_1:Kd.C k97 w A0_1 l0_1.length l0_1) (hc0_1:l0_1.length≤c0_1) (hr1:Kd.C (Kd.int .i64) w A1 l1.length l1) (hc1:l1.length≤c1) (h:spec_GoodQuery.f k l0_0 l0_1 l1=some r) :
  Calls Try.prog 75 #[.agg #[.slice A0_0 l0_0.length c0_0,.slice A0_1 l0_1.length c0_1],.slice A1 l1.length c1] w fun e w'=>e=.returned (.bool r)∧Below w.heap.size w w':=by
 have hu32:=Try.underlying32;have hu97:=Try.underlying97;have HR0_0:=qK hr0_0;have HC0_0:=qK hc0_0;clear hr0_0 hc0_0;have HR0_1:=qK hr0_1;have HC0_1:=qK hc0_1;clear hr0_1 hc0_1;have HR1:=qK hr1;have HC1:=qK hc1;clear hr1 hc1;have HB:=qK (Below.refl w.heap.size w);have H:((spec_l10Tables.f k l1).bind fun t205=>(if t205=true then ((spec_l1In.f (l0_1.length:Int) 1 5).bind fun t206=>(if t206=true then (spec_GoodQuery.j0 k l1 (decide ((l0_0.length:Int) > 6)) l0_0 l0_1) else (spec_GoodQuery.j0 k l1 true l0_0 l0_1))) else (spec_GoodQuery.j0 k l1 true l0_0 l0_1)))=some r:=h;clear h;have HC3:=qK H;clear H;go_enter Try.func75,Try.ntmps75
 go_upto_region 1 with (first|((with_reducible refine gate_dst (N:=2) rfl ?_);(try (refine gate_guard (by rfl) ?_;dsimp only));refine box_event ?hg (N:=2) ?hd (cs:=#[.slice A0_0 l0_0.length c0_0,.slice A0_1 l0_1.length c0_1]) (t:=32) ?hr ?_;(case hd=>rfl);(case hg=>rfl);(case hr=>(go_simp;try rfl));intro gb204 hg w4 hbox hb;have n0_:=qK (qT (by repeat (with_reducible first|exact HB.out|apply qA|apply qD|apply qO)) hb);have n1_:=qK (hbox);have n2_:=qK ((by rw [hg];exact (qZ (by repeat (with_reducible first|exact HB.out|apply qA|apply qD|apply qO))):w.heap.size≤gb204));have n3_:=qK ((by rw [hg];exact (qZ (by repeat (with_reducible first|exact HB.out|apply qA|apply qD|apply qO))):w.heap.size≤gb204));clear HB;have HB:=n0_;have BK204:=n1_;have GW204:=n2_;have GE204:=n3_;clear n0_ n1_ n2_ n3_;clear hb hbox hg))
 (try simp only [Act.put,List.setIfInBounds_toArray,List.set_cons_zero,List.set_cons_succ]);go_cut [24] (fun v24 wc=>∃ (kq:Nat) (x24_2:Bool),v24=.bool x24_2∧Aside0 (spec_GoodQuery.j0 kq l1 x24_2 l0_0 l0_1=some r)∧Aside0 (kq≤k)∧Aside0 (wc.heap[gb204]?=some (.cells #[(.slice A0_0 l0_0.length c0_0),(.slice A0_1 l0_1.length c0_1)] 32 (0,0)))∧Aside0 (Below w.heap.size w wc))
 case first =>
  have H:=HC3.out;clear HC3;replace H:=Option.bind_eq_some_iff.mp H;obtain ⟨t205,A50,H⟩:=H;replace H:(if t205=true then ((spec_l1In.f (l0_1.length:Int) 1 5).bind fun t206=>(if t206=true then (spec_GoodQuery.j0 k l1 (decide ((l0_0.length:Int) > 6)) l0_0 l0_1) else (spec_GoodQuery.j0 k l1 true l0_0 l0_1))) else (spec_GoodQuery.j0 k l1 true l0_0 l0_1))=some r:=H;have A5:=qK A50;clear A50;by_cases c6:t205=true
  ·subst c6;have H1:((spec_l1In.f (l0_1.length:Int) 1 5).bind fun t206=>(if t206=true then (spec_GoodQuery.j0 k l1 (decide ((l0_0.length:Int) > 6)) l0_0 l0_1) else (spec_GoodQuery.j0 k l1 true l0_0 l0_1)))=some r:=by rw [if_pos rfl] at H;exact H
   clear H;have H:=H1;clear H1;replace H:=Option.bind_eq_some_iff.mp H;obtain ⟨t206,A70,H⟩:=H;replace H:(if t206=true then (spec_GoodQuery.j0 k l1 (decide ((l0_0.length:Int) > 6)) l0_0 l0_1) else (spec_GoodQuery.j0 k l1 true l0_0 l0_1))=some r:=H;have A7:=qK A70;clear A70;by_cases c8:t206=true
   ·subst c8;have H1:(spec_GoodQuery.j0 k l1 (decide ((l0_0.length:Int) > 6)) l0_0 l0_1)=some r:=by rw [if_pos rfl] at H;exact H
    clear H;have H:=H1;clear H1;have H':=qK H;clear H;go_wp2_with (first|((with_reducible refine gate_callee (f:=138) rfl ?_);refine goesL_ (some 10) rfl rfl Try.func138 (by kernel_rfl) rfl #[.slice A1 l1.length c1] rfl (by (try simp only [mT,mC,mN]);first|done|rfl|(simp only [lD,lT];rfl)) ?_;(with_reducible refine (spec_l10Tables.calls k _ _ l1 true _ ?side1 ?side2 A5.out).mono ?_);(case side1=>repeat (first|exact (cB HR1.out (by repeat (with_reducible first|exact HB.out|apply qA|apply qD|apply qO|refine qS ?_ GE204.out)))|(with_reducible first|refine cL ?_ _|refine cN ?_ _|refine cW ?_)));(case side2=>exact HC1.out);rintro e w' ⟨rfl,⟨nd,rfl⟩⟩;refine ⟨_,rfl,?_⟩;have hcz9_0:w4.cell? ⟨gb204,0,none⟩=some (.slice A0_0 l0_0.length c0_0):=(qC BK204.out 0).trans rfl;have hcz9_1:w4.cell? ⟨gb204,1,none⟩=some (.slice A0_1 l0_1.length c0_1):=(qC BK204.out 1).trans rfl;have hfz9_0:=qF BK204.out 0;have hfz9_1:=qF BK204.out 1)|(go_at_call 109;(with_reducible refine (spec_l1In.calls (l0_1.length:Int) 1 5 true _ A7.out).mono ?_);rintro e w' ⟨rfl,⟨nd,rfl⟩⟩))
    go_meet
    case rel=>exact ⟨_,(decide ((l0_0.length:Int) > 6)),(by first|rfl|(simp;done)|(simp [*];done)),H',⟨by first|omega|exact Nat.le_refl _⟩,⟨by (with_reducible repeat (first|refine qN ?_ _|refine qW ?_|refine qL ?_ _));exact BK204.out⟩,⟨by repeat (first|(with_reducible first|exact HB.out|apply qA|apply qD|apply qO|refine qS ?_ GE204.out)|exact HB.out)⟩⟩
   ·replace c8:=Bool.eq_false_iff.mpr c8;subst c8;have H1:(spec_GoodQuery.j0 k l1 true l0_0 l0_1)=some r:=by rw [if_neg (show ¬ (false=true) by decide)] at H;exact H
    clear H;have H:=H1;clear H1;have H':=qK H;clear H;go_wp2_with (first|((with_reducible refine gate_callee (f:=138) rfl ?_);refine goesL_ (some 10) rfl rfl Try.func138 (by kernel_rfl) rfl #[.slice A1 l1.length c1] rfl (by (try simp only [mT,mC,mN]);first|done|rfl|(simp only [lD,lT];rfl)) ?_;(with_reducible refine (spec_l10Tables.calls k _ _ l1 true _ ?side1 ?side2 A5.out).mono ?_);(case side1=>repeat (first|exact (cB HR1.out (by repeat (with_reducible first|exact HB.out|apply qA|apply qD|apply qO|refine qS ?_ GE204.out)))|(with_reducible first|refine cL ?_ _|refine cN ?_ _|refine cW ?_)));(case side2=>exact HC1.out);rintro e w' ⟨rfl,⟨nd,rfl⟩⟩;refine ⟨_,rfl,?_⟩;have hcz10_0:w4.cell? ⟨gb204,0,none⟩=some (.slice A0_0 l0_0.length c0_0):=(qC BK204.out 0).trans rfl;have hcz10_1:w4.cell? ⟨gb204,1,none⟩=some (.slice A0_1 l0_1.length c0_1):=(qC BK204.out 1).trans rfl;have hfz10_0:=qF BK204.out 0;have hfz10_1:=qF BK204.out 1)|(go_at_call 109;(with_reducible refine (spec_l1In.calls (l0_1.length:Int) 1 5 false _ A7.out).mono ?_);rintro e w' ⟨rfl,⟨nd,rfl⟩⟩))
    go_meet
    case rel=>exact ⟨_,(true),(by first|rfl|(simp;done)|(simp [*];done)),H',⟨by first|omega|exact Nat.le_refl _⟩,⟨by (with_reducible repeat (first|refine qN ?_ _|refine qW ?_|refine qL ?_ _));exact BK204.out⟩,⟨by repeat (first|(with_reducible first|exact HB.out|apply qA|apply qD|apply qO|refine qS ?_ GE204.out)|exact HB.out)⟩⟩
  ·replace c6:=Bool.eq_false_iff.mpr c6;subst c6;have H1:(spec_GoodQuery.j0 k l1 true l0_0 l0_1)=some r:=by rw [if_neg (show ¬ (false=true) by decide)] at H;exact H
   clear H;have H:=H1;clear H1;have H':=qK H;clear H;go_wp2_with (first|((with_reducible refine gate_callee (f:=138) rfl ?_);refine goesL_ (some 10) rfl rfl Try.func138 (by kernel_rfl) rfl #[.slice A1 l1.length c1] rfl (by (try simp only [mT,mC,mN]);first|done|rfl|(simp only [lD,lT];rfl)) ?_;(with_reducible refine (spec_l10Tables.calls k _ _ l1 false _ ?side1 ?side2 A5.out).mono ?_);(case side1=>repeat (first|exact (cB HR1.out (by repeat (with_reducible first|exact HB.out|apply qA|apply qD|apply qO|refine qS ?_ GE204.out)))|(with_reducible first|refine cL ?_ _|refine cN ?_ _|refine cW ?_)));(case side2=>exact HC1.out);rintro e w' ⟨rfl,⟨nd,rfl⟩⟩;refine ⟨_,rfl,?_⟩))
   go_meet
   case rel=>exact ⟨_,(true),(by first|rfl|(simp;done)|(simp [*];done)),H',⟨by first|omega|exact Nat.le_refl _⟩,⟨by (with_reducible repeat (first|refine qN ?_ _|refine qW ?_|refine qL ?_ _));exact BK204.out⟩,⟨by repeat (first|(with_reducible first|exact HB.out|apply qA|apply qD|apply qO|refine qS ?_ GE204.out)|exact HB.out)⟩⟩
 case rest =>
  clear HC3;try clear c1
  try clear p2
  try clear c6
  try clear c7
  try clear c8
  try clear hcz10_0
  try clear hcz10_1
  try clear hcz9_0
  try clear hcz9_1
  try clear hfz10_0
  try clear hfz10_1
  try clear hfz9_0
  try clear hfz9_1
  obtain ⟨kq,x24_2,rfl,HA,HJ2,BK204,HB⟩:=hcut;cases kq with
  | zero=>exact absurd HA.out (by simp [spec_GoodQuery.j0])
  | succ kj2 =>
   have H:=HA.out;clear HA;simp only [spec_GoodQuery.j0] at H;by_cases c11:x24_2=true
   ·subst c11;have H1:(some false)=some r:=by rw [if_pos rfl] at H;exact H
    clear H;have H:=H1;clear H1;obtain rfl:=Option.some.inj H;go_wp2
    go_ret
    exact ⟨by first|rfl|(simp [errW_none,errW_some] <;> rfl)|(simp [*,errW_none,errW_some] <;> rfl),by repeat (first|(with_reducible first|exact HB.out|apply qA|apply qD|apply qO|refine qS ?_ GE204.out)|exact HB.out)⟩
   ·replace c11:=Bool.eq_false_iff.mpr c11;subst c11;have H1:(spec_GoodQuery.l0 kj2 l1 l0_1 (l0_1.length:Int) 0 l0_0 l0_1)=some r:=by rw [if_neg (show ¬ (false=true) by decide)] at H;exact H
    clear H;have H:=H1;clear H1;have H':=qK H;clear H;have hcz12_0:wc.cell? ⟨gb204,0,none⟩=some (.slice A0_0 l0_0.length c0_0):=(qC BK204.out 0).trans rfl;have hcz12_1:wc.cell? ⟨gb204,1,none⟩=some (.slice A0_1 l0_1.length c0_1):=(qC BK204.out 1).trans rfl;have hfz12_0:=qF BK204.out 0;have hfz12_1:=qF BK204.out 1;go_wp2
    go_loopg [28] kj2 (fun kq v28 w'=>∃ (x28_2:Int),v28=.int .i64 x28_2∧Aside0 (spec_GoodQuery.l0 kq l1 l0_1 (l0_1.length:Int) x28_2 l0_0 l0_1=some r)∧Aside0 (kq≤kj2)∧Aside0 (w'.heap[gb204]?=some (.cells #[(.slice A0_0 l0_0.length c0_0),(.slice A0_1 l0_1.length c0_1)] 32 (0,0)))∧Aside0 (Below w.heap.size w w'))
    case atStart=>exact ⟨(0),(by first|rfl|(simp;done)|(simp [*];done)),H',⟨Nat.le_refl _⟩,⟨by (with_reducible repeat (first|refine qN ?_ _|refine qW ?_|refine qL ?_ _));exact BK204.out⟩,⟨by repeat (first|(with_reducible first|exact HB.out|apply qA|apply qD|apply qO|refine qS ?_ GE204.out)|exact HB.out)⟩⟩
    case round =>
     clear H';try clear c1
     try clear p2
     try clear c6
     try clear c7
     try clear c8
     try clear c11
     try clear hcz10_0
     try clear hcz10_1
     try clear hcz12_0
     try clear hcz12_1
     try clear hcz9_0
     try clear hcz9_1
     try clear hfz10_0
     try clear hfz10_1
     try clear hfz12_0
     try clear hfz12_1
     try clear hfz9_0
     try clear hfz9_1
     try clear p2
     obtain ⟨x28_2,rfl,HA,HK2,BK204,HB⟩:=hrel;cases gk with
     | zero=>exact absurd HA.out (by simp [spec_GoodQuery.l0])
     | succ k2 =>
      have H:=HA.out;clear HA;simp only [spec_GoodQuery.l0] at H;by_cases c13:x28_2 < (l0_1.length:Int)
      ·rw [if_pos c13] at H;have c13b0:decide (x28_2 < (l0_1.length:Int))=true:=decide_eq_true c13;clear c13;by_cases c14:0≤x28_2
       ·rw [if_pos c14] at H;have c14b0:decide (0≤x28_2)=true:=decide_eq_true c14;clear c14;by_cases c15:x28_2 < (l0_1.length:Int)
        ·rw [if_pos c15] at H;have c15b0:decide (x28_2 < (l0_1.length:Int))=true:=decide_eq_true c15;clear c15;have HC16:=qK H;clear H;have p211:0≤(x28_2:Int):=of_decide_eq_true (by first|(with_reducible assumption)|assumption);have q211:x28_2 < (l0_1.length:Int):=of_decide_eq_true (by first|(with_reducible assumption)|assumption);obtain ⟨ad211,A211_1,c211_1,e211,hx211_0,hx211_1,hl211_1,hi211_1⟩:=at_T97 HR0_1.out x28_2 p211 q211;cases e211
         replace hx211_0:=(HB.out.cell (World.block_lt_of_cell? w _ hx211_0)).trans hx211_0;replace hx211_1:=(HB.out.cell (World.block_lt_of_cell? w _ hx211_1)).trans hx211_1;have HR211_1:=qK hi211_1;have HC211_1:=qK hl211_1;clear hi211_1 hl211_1;replace p211:=eq_true p211;replace q211:=eq_true q211;go_upto_region 6 with (first|((with_reducible refine gate_dst (N:=6) rfl ?_);(try (refine gate_guard (by rfl) ?_;dsimp only));refine box_event ?hg (N:=6) ?hd (cs:=#[.int .i64 0,.slice none 0 0]) (t:=97) ?hr ?_;(case hd=>rfl);(case hg=>rfl);(case hr=>(go_simp;try rfl));intro gb212 hg w17 hbox hb;have n0_:=qK (qB (g:=gb204) (o:=_) (by (with_reducible repeat (first|refine qN ?_ _|refine qW ?_|refine qL ?_ _));exact BK204.out) hb);have n1_:=qK (qT (by repeat (with_reducible first|exact HB.out|apply qA|apply qD|apply qO|refine qS ?_ GE204.out)) hb);have n2_:=qK (hbox);have n3_:=qK ((by rw [hg];exact (qZ (by repeat (with_reducible first|exact HB.out|apply qA|apply qD|apply qO|refine qS ?_ GE204.out))):w.heap.size≤gb212));have n4_:=qK ((by rw [hg];exact (qZ (by repeat (with_reducible first|exact HB.out|apply qA|apply qD|apply qO|refine qS ?_ GE204.out))):w.heap.size≤gb212));have n5_:=qK ((by rw [hg];exact Nat.ne_of_lt (blk_lt (g:=gb204) (o:=_) (by (with_reducible repeat (first|refine qN ?_ _|refine qW ?_|refine qL ?_ _));exact BK204.out)):gb204 ≠ gb212));have n6_:=qK ((by rw [hg];exact Nat.ne_of_gt (blk_lt (g:=gb204) (o:=_) (by (with_reducible repeat (first|refine qN ?_ _|refine qW ?_|refine qL ?_ _));exact BK204.out)):gb212 ≠ gb204));clear BK204;clear HB;have BK204:=n0_;have HB:=n1_;have BK212:=n2_;have GW212:=n3_;have GE212:=n4_;have NB204_212:=n5_;have NB212_204:=n6_;clear n0_ n1_ n2_ n3_ n4_ n5_ n6_;clear hb hbox hg;have hnb18:=NB212_204.out;have hnc18:=NB204_212.out;have hcz19_0:w17.cell? ⟨gb212,0,none⟩=some (.int .i64 0):=(qC BK212.out 0).trans rfl;have hcz19_1:w17.cell? ⟨gb212,1,none⟩=some (.slice none 0 0):=(qC BK212.out 1).trans rfl;have hfz19_0:=qF BK212.out 0;have hfz19_1:=qF BK212.out 1))
         (try simp only [Act.put,List.setIfInBounds_toArray,List.set_cons_zero,List.set_cons_succ]);go_cut [52] (fun v52 wc=>∃ (kq:Nat) (x52_15:Bool),v52=.bool x52_15∧Aside0 (spec_GoodQuery.j2 kq l1 l0_1 (l0_1.length:Int) x28_2 x52_15 l0_0 l0_1 ((rd_T97 l0_1 x28_2).f0) ((rd_T97 l0_1 x28_2).f1)=some r)∧Aside0 (kq≤k2)∧Aside0 (wc.heap[gb204]?=some (.cells #[(.slice A0_0 l0_0.length c0_0),(.slice (some ad211) l0_1.length c0_1)] 32 (0,0)))∧Aside0 (wc.heap[gb212]?=some (.cells #[.int .i64 ((rd_T97 l0_1 x28_2).f0),(.slice A211_1 ((rd_T97 l0_1 x28_2).f1).length c211_1)] 97 (0,0)))∧Aside0 (Below w.heap.size w wc))
         case first =>
          have H:=HC16.out;clear HC16;by_cases c20:((rd_T97 l0_1 x28_2).f0) < 0
          ·rw [if_pos c20] at H;have c20b0:decide (((rd_T97 l0_1 x28_2).f0) < 0)=true:=decide_eq_true c20;clear c20;(first|rw [c20b0]|(simp only [i64_w,i32_w];rw [c20b0])|skip);have H':=qK H;clear H;try go_wp2
           have n0_:Aside0 (((w17.setCell ⟨gb212,0,none⟩ (.int .i64 ((rd_T97 l0_1 x28_2).f0))).setCell ⟨gb212,1,none⟩ (.slice A211_1 ((rd_T97 l0_1 x28_2).f1).length c211_1)).heap[gb204]?=some (.cells #[.slice A0_0 l0_0.length c0_0,.slice (some ad211) l0_1.length c0_1] 32 (0,0))):=⟨by (with_reducible repeat (first|refine qN ?_ _|refine qW ?_|refine qL ?_ _));refine qR ?_ NB204_212.out _;(with_reducible repeat (first|refine qN ?_ _|refine qW ?_|refine qL ?_ _));refine qR ?_ NB204_212.out _;(with_reducible repeat (first|refine qN ?_ _|refine qW ?_|refine qL ?_ _));exact BK204.out⟩;have n1_:Aside0 (((w17.setCell ⟨gb212,0,none⟩ (.int .i64 ((rd_T97 l0_1 x28_2).f0))).setCell ⟨gb212,1,none⟩ (.slice A211_1 ((rd_T97 l0_1 x28_2).f1).length c211_1)).heap[gb212]?=some (.cells #[.int .i64 ((rd_T97 l0_1 x28_2).f0),.slice A211_1 ((rd_T97 l0_1 x28_2).f1).length c211_1] 97 (0,0))):=⟨by (with_reducible repeat (first|refine qN ?_ _|refine qW ?_|refine qL ?_ _));refine qP (cs:=#[.int .i64 ((rd_T97 l0_1 x28_2).f0),.slice none 0 0]) ?_ 1 _ rfl;(with_reducible repeat (first|refine qN ?_ _|refine qW ?_|refine qL ?_ _));refine qP (cs:=#[.int .i64 0,.slice none 0 0]) ?_ 0 _ rfl;(with_reducible repeat (first|refine qN ?_ _|refine qW ?_|refine qL ?_ _));exact BK212.out⟩;have n2_:Aside0 (Below w.heap.size w ((w17.setCell ⟨gb212,0,none⟩ (.int .i64 ((rd_T97 l0_1 x28_2).f0))).setCell ⟨gb212,1,none⟩ (.slice A211_1 ((rd_T97 l0_1 x28_2).f1).length c211_1))):=⟨by repeat (first|(with_reducible first|exact HB.out|apply qA|apply qD|apply qO|refine qS ?_ GE204.out|refine qS ?_ GE212.out)|exact HB.out)⟩;(try clear BK204);(try clear BK212);(try clear HB);generalize ((w17.setCell ⟨gb212,0,none⟩ (.int .i64 ((rd_T97 l0_1 x28_2).f0))).setCell ⟨gb212,1,none⟩ (.slice A211_1 ((rd_T97 l0_1 x28_2).f1).length c211_1))=w21 at n0_ n1_ n2_ ⊢
           have BK204:=n0_;have BK212:=n1_;have HB:=n2_;clear n0_ n1_ n2_;(try (rw [drewN_self w21];generalize hq_:World.drewN w21 _=w21;have n0_:Aside0 (w21.heap[gb204]?=some (.cells #[.slice A0_0 l0_0.length c0_0,.slice (some ad211) l0_1.length c0_1] 32 (0,0))):=⟨by rw [← hq_];exact (by (with_reducible repeat (first|refine qN ?_ _|refine qW ?_|refine qL ?_ _));exact BK204.out)⟩;have n1_:Aside0 (w21.heap[gb212]?=some (.cells #[.int .i64 ((rd_T97 l0_1 x28_2).f0),.slice A211_1 ((rd_T97 l0_1 x28_2).f1).length c211_1] 97 (0,0))):=⟨by rw [← hq_];exact (by (with_reducible repeat (first|refine qN ?_ _|refine qW ?_|refine qL ?_ _));exact BK212.out)⟩;have n2_:Aside0 (Below w.heap.size w w21):=⟨by rw [← hq_];exact (by repeat (with_reducible first|exact HB.out|apply qA|apply qD|apply qO|refine qS ?_ GE204.out|refine qS ?_ GE212.out))⟩;clear BK204 BK212 HB hq_;have BK204:=n0_;have BK212:=n1_;have HB:=n2_;clear n0_ n1_ n2_));have n0_:=qK (qW BK204.out);have n1_:=qK (qW BK212.out);have n2_:=qK (qO HB.out);clear BK204;clear BK212;clear HB;have BK204:=n0_;have BK212:=n1_;have HB:=n2_;clear n0_ n1_ n2_;refine start_ (n:=21) (S:=fun w'=>w'.cell? ⟨gb212,0,none⟩=some (.int .i64 ((rd_T97 l0_1 x28_2).f0))∧w'.cell? ⟨gb212,1,none⟩=some (.slice A211_1 ((rd_T97 l0_1 x28_2).f1).length c211_1)) (ds:=[]) #[Z,Z,Z,Z,Z,Z,Z,Z,Z,Z,Z,Z,Z,Z,Z,Z,Z,Z,Z,Z,Z] (by kernel_rfl) rfl rfl ⟨(qC BK212.out 0).trans rfl,(qC BK212.out 1).trans rfl⟩ (fun hHeld=>?_);refine with_tabW spec_GoodQuery.tab6 spec_GoodQuery.bits6 (fun HT_ HW_=>?_);generalize w21.drew=w22 at BK204 BK212 HB hHeld ⊢
           refine pure_ (i:=0) (N:=some 32) (v:=?_) (a':=?_) #[Y,Z,Z,Z,Z,Z,Z,Z,Z,Z,Z,Z,Z,Z,Z,Z,Z,Z,Z,Z,Z] rfl rfl (any_of HT_.out (by kernel_rfl)) (fun _ _ _ h=>h) (Or.inl ⟨by rfl,?_⟩) ?_ ?_;rotate_left
           ·intro w';go_simp;with_reducible rfl
           rotate_left
           ·simp only [Act.put,sIb,sZ,sS,i64_w,i32_w];rfl
           refine take_ (i:=1) (N:=some 33) (v:=?_) (a':=?_) #[Y,Y,Z,Z,Z,Z,Z,Z,Z,Z,Z,Z,Z,Z,Z,Z,Z,Z,Z,Z,Z] rfl rfl (take_ofW HT_.out HW_.out (by kernel_rfl)) (fun _ _ _ h=>h) (Or.inl ⟨by rfl,?_⟩) hHeld ?_ ?_;rotate_left
           ·rintro w' ⟨s0,s1⟩;go_simp;with_reducible rfl
           rotate_left
           ·simp only [Act.put,sIb,sZ,sS,i64_w,i32_w];rfl
           refine pure_ (i:=2) (N:=some 34) (v:=?_) (a':=?_) #[Y,Y,Y,Z,Z,Z,Z,Z,Z,Z,Z,Z,Z,Z,Z,Z,Z,Z,Z,Z,Z] rfl rfl (any_of HT_.out (by kernel_rfl)) (fun _ _ _ h=>h) (Or.inl ⟨by rfl,?_⟩) ?_ ?_;rotate_left
           ·intro w';go_simp;with_reducible rfl
           rotate_left
           ·simp only [Act.put,sIb,sZ,sS,i64_w,i32_w];rfl
           refine pure_ (i:=3) (N:=some 35) (v:=?_) (a':=?_) #[Y,Y,Y,Y,Z,Z,Z,Z,Z,Z,Z,Z,Z,Z,Z,Z,Z,Z,Z,Z,Z] rfl rfl (any_of HT_.out (by kernel_rfl)) (fun _ _ _ h=>h) (Or.inl ⟨by rfl,?_⟩) ?_ ?_;rotate_left
           ·intro w';go_simp;with_reducible rfl
           rotate_left
           ·simp only [Act.put,sIb,sZ,sS,i64_w,i32_w];rfl
           refine pure_ (i:=4) (N:=some 36) (v:=undef) (a':=?_) #[Y,Y,Y,Y,Y,Z,Z,Z,Z,Z,Z,Z,Z,Z,Z,Z,Z,Z,Z,Z,Z] rfl rfl (any_of HT_.out (by kernel_rfl)) (fun _ _ _ h=>h) (Or.inr ⟨by rfl,rfl⟩) ?_ ?_;rotate_left
           ·simp only [Act.put,sIb,sZ,sS,i64_w,i32_w];rfl
           refine pure_ (i:=5) (N:=some 37) (v:=undef) (a':=?_) #[Y,Y,Y,Y,Y,Y,Z,Z,Z,Z,Z,Z,Z,Z,Z,Z,Z,Z,Z,Z,Z] rfl rfl (any_of HT_.out (by kernel_rfl)) (fun _ _ _ h=>h) (Or.inr ⟨by rfl,rfl⟩) ?_ ?_;rotate_left
           ·simp only [Act.put,sIb,sZ,sS,i64_w,i32_w];rfl
           refine pure_ (i:=6) (N:=some 38) (v:=undef) (a':=?_) #[Y,Y,Y,Y,Y,Y,Y,Z,Z,Z,Z,Z,Z,Z,Z,Z,Z,Z,Z,Z,Z] rfl rfl (any_of HT_.out (by kernel_rfl)) (fun _ _ _ h=>h) (Or.inr ⟨by rfl,rfl⟩) ?_ ?_;rotate_left
           ·simp only [Act.put,sIb,sZ,sS,i64_w,i32_w];rfl
           refine pure_ (i:=7) (N:=some 39) (v:=undef) (a':=?_) #[Y,Y,Y,Y,Y,Y,Y,Y,Z,Z,Z,Z,Z,Z,Z,Z,Z,Z,Z,Z,Z] rfl rfl (any_of HT_.out (by kernel_rfl)) (fun _ _ _ h=>h) (Or.inr ⟨by rfl,rfl⟩) ?_ ?_;rotate_left
           ·simp only [Act.put,sIb,sZ,sS,i64_w,i32_w];rfl
           refine pure_ (i:=8) (N:=some 40) (v:=undef) (a':=?_) #[Y,Y,Y,Y,Y,Y,Y,Y,Y,Z,Z,Z,Z,Z,Z,Z,Z,Z,Z,Z,Z] rfl rfl (any_of HT_.out (by kernel_rfl)) (fun _ _ _ h=>h) (Or.inr ⟨by rfl,rfl⟩) ?_ ?_;rotate_left
           ·simp only [Act.put,sIb,sZ,sS,i64_w,i32_w];rfl
           refine pure_ (i:=9) (N:=some 41) (v:=?_) (a':=?_) #[Y,Y,Y,Y,Y,Y,Y,Y,Y,Y,Z,Z,Z,Z,Z,Z,Z,Z,Z,Z,Z] rfl rfl (any_of HT_.out (by kernel_rfl)) (fun _ _ _ h=>h) (Or.inl ⟨by rfl,?_⟩) ?_ ?_;rotate_left
           ·intro w';go_simp;with_reducible rfl
           rotate_left
           ·simp only [Act.put,sIb,sZ,sS,i64_w,i32_w];rfl
           refine pure_ (i:=10) (N:=some 42) (v:=?_) (a':=?_) #[Y,Y,Y,Y,Y,Y,Y,Y,Y,Y,Y,Z,Z,Z,Z,Z,Z,Z,Z,Z,Z] rfl rfl (any_of HT_.out (by kernel_rfl)) (fun _ _ _ h=>h) (Or.inl ⟨by rfl,?_⟩) ?_ ?_;rotate_left
           ·intro w';go_simp;with_reducible rfl
           rotate_left
           ·simp only [Act.put,sIb,sZ,sS,i64_w,i32_w];rfl
           refine pure_ (i:=11) (N:=some 43) (v:=undef) (a':=?_) #[Y,Y,Y,Y,Y,Y,Y,Y,Y,Y,Y,Y,Z,Z,Z,Z,Z,Z,Z,Z,Z] rfl rfl (any_of HT_.out (by kernel_rfl)) (fun _ _ _ h=>h) (Or.inr ⟨by rfl,rfl⟩) ?_ ?_;rotate_left
           ·simp only [Act.put,sIb,sZ,sS,i64_w,i32_w];rfl
           refine pure_ (i:=12) (N:=some 44) (v:=undef) (a':=?_) #[Y,Y,Y,Y,Y,Y,Y,Y,Y,Y,Y,Y,Y,Z,Z,Z,Z,Z,Z,Z,Z] rfl rfl (any_of HT_.out (by kernel_rfl)) (fun _ _ _ h=>h) (Or.inr ⟨by rfl,rfl⟩) ?_ ?_;rotate_left
           ·simp only [Act.put,sIb,sZ,sS,i64_w,i32_w];rfl
           refine pure_ (i:=13) (N:=some 45) (v:=undef) (a':=?_) #[Y,Y,Y,Y,Y,Y,Y,Y,Y,Y,Y,Y,Y,Y,Z,Z,Z,Z,Z,Z,Z] rfl rfl (any_of HT_.out (by kernel_rfl)) (fun _ _ _ h=>h) (Or.inr ⟨by rfl,rfl⟩) ?_ ?_;rotate_left
           ·simp only [Act.put,sIb,sZ,sS,i64_w,i32_w];rfl
           refine pure_ (i:=14) (N:=some 46) (v:=undef) (a':=?_) #[Y,Y,Y,Y,Y,Y,Y,Y,Y,Y,Y,Y,Y,Y,Y,Z,Z,Z,Z,Z,Z] rfl rfl (any_of HT_.out (by kernel_rfl)) (fun _ _ _ h=>h) (Or.inr ⟨by rfl,rfl⟩) ?_ ?_;rotate_left
           ·simp only [Act.put,sIb,sZ,sS,i64_w,i32_w];rfl
           refine pure_ (i:=15) (N:=some 47) (v:=undef) (a':=?_) #[Y,Y,Y,Y,Y,Y,Y,Y,Y,Y,Y,Y,Y,Y,Y,Y,Z,Z,Z,Z,Z] rfl rfl (any_of HT_.out (by kernel_rfl)) (fun _ _ _ h=>h) (Or.inr ⟨by rfl,rfl⟩) ?_ ?_;rotate_left
           ·simp only [Act.put,sIb,sZ,sS,i64_w,i32_w];rfl
           refine pure_ (i:=16) (N:=some 48) (v:=undef) (a':=?_) #[Y,Y,Y,Y,Y,Y,Y,Y,Y,Y,Y,Y,Y,Y,Y,Y,Y,Z,Z,Z,Z] rfl rfl (any_of HT_.out (by kernel_rfl)) (fun _ _ _ h=>h) (Or.inr ⟨by rfl,rfl⟩) ?_ ?_;rotate_left
           ·simp only [Act.put,sIb,sZ,sS,i64_w,i32_w];rfl
           refine pure_ (i:=17) (N:=some 49) (v:=undef) (a':=?_) #[Y,Y,Y,Y,Y,Y,Y,Y,Y,Y,Y,Y,Y,Y,Y,Y,Y,Y,Z,Z,Z] rfl rfl (any_of HT_.out (by kernel_rfl)) (fun _ _ _ h=>h) (Or.inr ⟨by rfl,rfl⟩) ?_ ?_;rotate_left
           ·simp only [Act.put,sIb,sZ,sS,i64_w,i32_w];rfl
           refine pure_ (i:=18) (N:=some 50) (v:=undef) (a':=?_) #[Y,Y,Y,Y,Y,Y,Y,Y,Y,Y,Y,Y,Y,Y,Y,Y,Y,Y,Y,Z,Z] rfl rfl (any_of HT_.out (by kernel_rfl)) (fun _ _ _ h=>h) (Or.inr ⟨by rfl,rfl⟩) ?_ ?_;rotate_left
           ·simp only [Act.put,sIb,sZ,sS,i64_w,i32_w];rfl
           refine pure_ (i:=19) (N:=some 51) (v:=undef) (a':=?_) #[Y,Y,Y,Y,Y,Y,Y,Y,Y,Y,Y,Y,Y,Y,Y,Y,Y,Y,Y,Y,Z] rfl rfl (any_of HT_.out (by kernel_rfl)) (fun _ _ _ h=>h) (Or.inr ⟨by rfl,rfl⟩) ?_ ?_;rotate_left
           ·simp only [Act.put,sIb,sZ,sS,i64_w,i32_w];rfl
           refine pure_ (i:=20) (N:=some 52) (v:=?_) (a':=?_) #[Y,Y,Y,Y,Y,Y,Y,Y,Y,Y,Y,Y,Y,Y,Y,Y,Y,Y,Y,Y,Y] rfl rfl (any_of HT_.out (by kernel_rfl)) (fun _ _ _ h=>h) (Or.inl ⟨by rfl,?_⟩) ?_ ?_;rotate_left
           ·intro w';go_simp;with_reducible rfl
           rotate_left
           ·simp only [Act.put,sIb,sZ,sS,i64_w,i32_w];rfl
           refine done_ (done_of HT_.out (by kernel_rfl)) ?_;try go_wp2
           go_meet
           case rel=>exact ⟨_,(true),(by first|rfl|(simp;done)|(simp [*];done)),H',⟨by have:=HJ2.out;have:=HK2.out;first|omega|exact Nat.le_refl _⟩,⟨by (with_reducible repeat (first|refine qN ?_ _|refine qW ?_|refine qL ?_ _));exact BK204.out⟩,⟨by (with_reducible repeat (first|refine qN ?_ _|refine qW ?_|refine qL ?_ _));exact BK212.out⟩,⟨by repeat (first|(with_reducible first|exact HB.out|apply qA|apply qD|apply qO|refine qS ?_ GE204.out|refine qS ?_ GE212.out)|exact HB.out)⟩⟩
          ·rw [if_neg c20] at H;have c20b0:decide (((rd_T97 l0_1 x28_2).f0) < 0)=false:=decide_eq_false c20;clear c20;(first|rw [c20b0]|(simp only [i64_w,i32_w];rw [c20b0])|skip);by_cases c23:((rd_T97 l0_1 x28_2).f0) ≥ (l1.length:Int)
           ·rw [if_pos c23] at H;have c23b0:decide ((l1.length:Int)≤((rd_T97 l0_1 x28_2).f0))=true:=decide_eq_true c23;clear c23;have H':=qK H;clear H;try go_wp2
            have n0_:Aside0 (((w17.setCell ⟨gb212,0,none⟩ (.int .i64 ((rd_T97 l0_1 x28_2).f0))).setCell ⟨gb212,1,none⟩ (.slice A211_1 ((rd_T97 l0_1 x28_2).f1).length c211_1)).heap[gb204]?=some (.cells #[.slice A0_0 l0_0.length c0_0,.slice (some ad211) l0_1.length c0_1] 32 (0,0))):=⟨by (with_reducible repeat (first|refine qN ?_ _|refine qW ?_|refine qL ?_ _));refine qR ?_ NB204_212.out _;(with_reducible repeat (first|refine qN ?_ _|refine qW ?_|refine qL ?_ _));refine qR ?_ NB204_212.out _;(with_reducible repeat (first|refine qN ?_ _|refine qW ?_|refine qL ?_ _));exact BK204.out⟩;have n1_:Aside0 (((w17.setCell ⟨gb212,0,none⟩ (.int .i64 ((rd_T97 l0_1 x28_2).f0))).setCell ⟨gb212,1,none⟩ (.slice A211_1 ((rd_T97 l0_1 x28_2).f1).length c211_1)).heap[gb212]?=some (.cells #[.int .i64 ((rd_T97 l0_1 x28_2).f0),.slice A211_1 ((rd_T97 l0_1 x28_2).f1).length c211_1] 97 (0,0))):=⟨by (with_reducible repeat (first|refine qN ?_ _|refine qW ?_|refine qL ?_ _));refine qP (cs:=#[.int .i64 ((rd_T97 l0_1 x28_2).f0),.slice none 0 0]) ?_ 1 _ rfl;(with_reducible repeat (first|refine qN ?_ _|refine qW ?_|refine qL ?_ _));refine qP (cs:=#[.int .i64 0,.slice none 0 0]) ?_ 0 _ rfl;(with_reducible repeat (first|refine qN ?_ _|refine qW ?_|refine qL ?_ _));exact BK212.out⟩;have n2_:Aside0 (Below w.heap.size w ((w17.setCell ⟨gb212,0,none⟩ (.int .i64 ((rd_T97 l0_1 x28_2).f0))).setCell ⟨gb212,1,none⟩ (.slice A211_1 ((rd_T97 l0_1 x28_2).f1).length c211_1))):=⟨by repeat (first|(with_reducible first|exact HB.out|apply qA|apply qD|apply qO|refine qS ?_ GE204.out|refine qS ?_ GE212.out)|exact HB.out)⟩;(try clear BK204);(try clear BK212);(try clear HB);generalize ((w17.setCell ⟨gb212,0,none⟩ (.int .i64 ((rd_T97 l0_1 x28_2).f0))).setCell ⟨gb212,1,none⟩ (.slice A211_1 ((rd_T97 l0_1 x28_2).f1).length c211_1))=w24 at n0_ n1_ n2_ ⊢
            have BK204:=n0_;have BK212:=n1_;have HB:=n2_;clear n0_ n1_ n2_;(try (rw [drewN_self w24];generalize hq_:World.drewN w24 _=w24;have n0_:Aside0 (w24.heap[gb204]?=some (.cells #[.slice A0_0 l0_0.length c0_0,.slice (some ad211) l0_1.length c0_1] 32 (0,0))):=⟨by rw [← hq_];exact (by (with_reducible repeat (first|refine qN ?_ _|refine qW ?_|refine qL ?_ _));exact BK204.out)⟩;have n1_:Aside0 (w24.heap[gb212]?=some (.cells #[.int .i64 ((rd_T97 l0_1 x28_2).f0),.slice A211_1 ((rd_T97 l0_1 x28_2).f1).length c211_1] 97 (0,0))):=⟨by rw [← hq_];exact (by (with_reducible repeat (first|refine qN ?_ _|refine qW ?_|refine qL ?_ _));exact BK212.out)⟩;have n2_:Aside0 (Below w.heap.size w w24):=⟨by rw [← hq_];exact (by repeat (with_reducible first|exact HB.out|apply qA|apply qD|apply qO|refine qS ?_ GE204.out|refine qS ?_ GE212.out))⟩;clear BK204 BK212 HB hq_;have BK204:=n0_;have BK212:=n1_;have HB:=n2_;clear n0_ n1_ n2_));have n0_:=qK (qW BK204.out);have n1_:=qK (qW BK212.out);have n2_:=qK (qO HB.out);clear BK204;clear BK212;clear HB;have BK204:=n0_;have BK212:=n1_;have HB:=n2_;clear n0_ n1_ n2_;refine start_ (n:=21) (S:=fun w'=>w'.cell? ⟨gb212,0,none⟩=some (.int .i64 ((rd_T97 l0_1 x28_2).f0))∧w'.cell? ⟨gb212,1,none⟩=some (.slice A211_1 ((rd_T97 l0_1 x28_2).f1).length c211_1)) (ds:=[]) #[Z,Z,Z,Z,Z,Z,Z,Z,Z,Z,Z,Z,Z,Z,Z,Z,Z,Z,Z,Z,Z] (by kernel_rfl) rfl rfl ⟨(qC BK212.out 0).trans rfl,(qC BK212.out 1).trans rfl⟩ (fun hHeld=>?_);refine with_tabW spec_GoodQuery.tab6 spec_GoodQuery.bits6 (fun HT_ HW_=>?_);generalize w24.drew=w25 at BK204 BK212 HB hHeld ⊢
            refine pure_ (i:=0) (N:=some 32) (v:=?_) (a':=?_) #[Y,Z,Z,Z,Z,Z,Z,Z,Z,Z,Z,Z,Z,Z,Z,Z,Z,Z,Z,Z,Z] rfl rfl (any_of HT_.out (by kernel_rfl)) (fun _ _ _ h=>h) (Or.inl ⟨by rfl,?_⟩) ?_ ?_;rotate_left
            ·intro w';go_simp;with_reducible rfl
            rotate_left
            ·simp only [Act.put,sIb,sZ,sS,i64_w,i32_w];rfl
            refine take_ (i:=1) (N:=some 33) (v:=?_) (a':=?_) #[Y,Y,Z,Z,Z,Z,Z,Z,Z,Z,Z,Z,Z,Z,Z,Z,Z,Z,Z,Z,Z] rfl rfl (take_ofW HT_.out HW_.out (by kernel_rfl)) (fun _ _ _ h=>h) (Or.inl ⟨by rfl,?_⟩) hHeld ?_ ?_;rotate_left
            ·rintro w' ⟨s0,s1⟩;go_simp;with_reducible rfl
            rotate_left
            ·simp only [Act.put,sIb,sZ,sS,i64_w,i32_w];rfl
            refine pure_ (i:=2) (N:=some 34) (v:=?_) (a':=?_) #[Y,Y,Y,Z,Z,Z,Z,Z,Z,Z,Z,Z,Z,Z,Z,Z,Z,Z,Z,Z,Z] rfl rfl (any_of HT_.out (by kernel_rfl)) (fun _ _ _ h=>h) (Or.inl ⟨by rfl,?_⟩) ?_ ?_;rotate_left
            ·intro w';go_simp;with_reducible rfl
            rotate_left
            ·simp only [Act.put,sIb,sZ,sS,i64_w,i32_w];rfl
            refine pure_ (i:=3) (N:=some 35) (v:=?_) (a':=?_) #[Y,Y,Y,Y,Z,Z,Z,Z,Z,Z,Z,Z,Z,Z,Z,Z,Z,Z,Z,Z,Z] rfl rfl (any_of HT_.out (by kernel_rfl)) (fun _ _ _ h=>h) (Or.inl ⟨by rfl,?_⟩) ?_ ?_;rotate_left
            ·intro w';go_simp;with_reducible rfl
            rotate_left
            ·simp only [Act.put,sIb,sZ,sS,i64_w,i32_w];rfl
            refine pure_ (i:=4) (N:=some 36) (v:=?_) (a':=?_) #[Y,Y,Y,Y,Y,Z,Z,Z,Z,Z,Z,Z,Z,Z,Z,Z,Z,Z,Z,Z,Z] rfl rfl (any_of HT_.out (by kernel_rfl)) (fun _ _ _ h=>h) (Or.inl ⟨by rfl,?_⟩) ?_ ?_;rotate_left
            ·intro w';go_simp;with_reducible rfl
            rotate_left
            ·simp only [Act.put,sIb,sZ,sS,i64_w,i32_w];rfl
            refine pure_ (i:=6) (N:=some 38) (v:=?_) (a':=?_) #[Y,Y,Y,Y,Y,Z,Y,Z,Z,Z,Z,Z,Z,Z,Z,Z,Z,Z,Z,Z,Z] rfl rfl (any_of HT_.out (by kernel_rfl)) (fun _ _ _ h=>h) (Or.inl ⟨by rfl,?_⟩) ?_ ?_;rotate_left
            ·intro w';go_simp;with_reducible rfl
            rotate_left
            ·simp only [Act.put,sIb,sZ,sS,i64_w,i32_w];rfl
            refine pure_ (i:=7) (N:=some 39) (v:=?_) (a':=?_) #[Y,Y,Y,Y,Y,Z,Y,Y,Z,Z,Z,Z,Z,Z,Z,Z,Z,Z,Z,Z,Z] rfl rfl (any_of HT_.out (by kernel_rfl)) (fun _ _ _ h=>h) (Or.inl ⟨by rfl,?_⟩) ?_ ?_;rotate_left
            ·intro w';go_simp;with_reducible rfl
            rotate_left
            ·simp only [Act.put,sIb,sZ,sS,i64_w,i32_w];rfl
            refine take_ (i:=5) (N:=some 37) (v:=?_) (a':=?_) #[Y,Y,Y,Y,Y,Y,Y,Y,Z,Z,Z,Z,Z,Z,Z,Z,Z,Z,Z,Z,Z] rfl rfl (take_ofW HT_.out HW_.out (by kernel_rfl)) (fun _ _ _ h=>h) (Or.inl ⟨by rfl,?_⟩) hHeld ?_ ?_;rotate_left
            ·rintro w' ⟨s0,s1⟩;go_simp;with_reducible rfl
            rotate_left
            ·simp only [Act.put,sIb,sZ,sS,i64_w,i32_w];rfl
            refine pure_ (i:=8) (N:=some 40) (v:=?_) (a':=?_) #[Y,Y,Y,Y,Y,Y,Y,Y,Y,Z,Z,Z,Z,Z,Z,Z,Z,Z,Z,Z,Z] rfl rfl (any_of HT_.out (by kernel_rfl)) (fun _ _ _ h=>h) (Or.inl ⟨by rfl,?_⟩) ?_ ?_;rotate_left
            ·intro w';go_simp;with_reducible rfl
            rotate_left
            ·simp only [Act.put,sIb,sZ,sS,i64_w,i32_w];rfl
            refine pure_ (i:=9) (N:=some 41) (v:=?_) (a':=?_) #[Y,Y,Y,Y,Y,Y,Y,Y,Y,Y,Z,Z,Z,Z,Z,Z,Z,Z,Z,Z,Z] rfl rfl (any_of HT_.out (by kernel_rfl)) (fun _ _ _ h=>h) (Or.inl ⟨by rfl,?_⟩) ?_ ?_;rotate_left
            ·intro w';go_simp;with_reducible rfl
            rotate_left
            ·simp only [Act.put,sIb,sZ,sS,i64_w,i32_w];rfl
            refine pure_ (i:=10) (N:=some 42) (v:=?_) (a':=?_) #[Y,Y,Y,Y,Y,Y,Y,Y,Y,Y,Y,Z,Z,Z,Z,Z,Z,Z,Z,Z,Z] rfl rfl (any_of HT_.out (by kernel_rfl)) (fun _ _ _ h=>h) (Or.inl ⟨by rfl,?_⟩) ?_ ?_;rotate_left
            ·intro w';go_simp;with_reducible rfl
            rotate_left
            ·simp only [Act.put,sIb,sZ,sS,i64_w,i32_w];rfl
            refine pure_ (i:=11) (N:=some 43) (v:=undef) (a':=?_) #[Y,Y,Y,Y,Y,Y,Y,Y,Y,Y,Y,Y,Z,Z,Z,Z,Z,Z,Z,Z,Z] rfl rfl (any_of HT_.out (by kernel_rfl)) (fun _ _ _ h=>h) (Or.inr ⟨by rfl,rfl⟩) ?_ ?_;rotate_left
            ·simp only [Act.put,sIb,sZ,sS,i64_w,i32_w];rfl
            refine pure_ (i:=12) (N:=some 44) (v:=undef) (a':=?_) #[Y,Y,Y,Y,Y,Y,Y,Y,Y,Y,Y,Y,Y,Z,Z,Z,Z,Z,Z,Z,Z] rfl rfl (any_of HT_.out (by kernel_rfl)) (fun _ _ _ h=>h) (Or.inr ⟨by rfl,rfl⟩) ?_ ?_;rotate_left
            ·simp only [Act.put,sIb,sZ,sS,i64_w,i32_w];rfl
            refine pure_ (i:=13) (N:=some 45) (v:=undef) (a':=?_) #[Y,Y,Y,Y,Y,Y,Y,Y,Y,Y,Y,Y,Y,Y,Z,Z,Z,Z,Z,Z,Z] rfl rfl (any_of HT_.out (by kernel_rfl)) (fun _ _ _ h=>h) (Or.inr ⟨by rfl,rfl⟩) ?_ ?_;rotate_left
            ·simp only [Act.put,sIb,sZ,sS,i64_w,i32_w];rfl
            refine pure_ (i:=14) (N:=some 46) (v:=undef) (a':=?_) #[Y,Y,Y,Y,Y,Y,Y,Y,Y,Y,Y,Y,Y,Y,Y,Z,Z,Z,Z,Z,Z] rfl rfl (any_of HT_.out (by kernel_rfl)) (fun _ _ _ h=>h) (Or.inr ⟨by rfl,rfl⟩) ?_ ?_;rotate_left
            ·simp only [Act.put,sIb,sZ,sS,i64_w,i32_w];rfl
            refine pure_ (i:=15) (N:=some 47) (v:=undef) (a':=?_) #[Y,Y,Y,Y,Y,Y,Y,Y,Y,Y,Y,Y,Y,Y,Y,Y,Z,Z,Z,Z,Z] rfl rfl (any_of HT_.out (by kernel_rfl)) (fun _ _ _ h=>h) (Or.inr ⟨by rfl,rfl⟩) ?_ ?_;rotate_left
            ·simp only [Act.put,sIb,sZ,sS,i64_w,i32_w];rfl
            refine pure_ (i:=16) (N:=some 48) (v:=undef) (a':=?_) #[Y,Y,Y,Y,Y,Y,Y,Y,Y,Y,Y,Y,Y,Y,Y,Y,Y,Z,Z,Z,Z] rfl rfl (any_of HT_.out (by kernel_rfl)) (fun _ _ _ h=>h) (Or.inr ⟨by rfl,rfl⟩) ?_ ?_;rotate_left
            ·simp only [Act.put,sIb,sZ,sS,i64_w,i32_w];rfl
            refine pure_ (i:=17) (N:=some 49) (v:=undef) (a':=?_) #[Y,Y,Y,Y,Y,Y,Y,Y,Y,Y,Y,Y,Y,Y,Y,Y,Y,Y,Z,Z,Z] rfl rfl (any_of HT_.out (by kernel_rfl)) (fun _ _ _ h=>h) (Or.inr ⟨by rfl,rfl⟩) ?_ ?_;rotate_left
            ·simp only [Act.put,sIb,sZ,sS,i64_w,i32_w];rfl
            refine pure_ (i:=18) (N:=some 50) (v:=undef) (a':=?_) #[Y,Y,Y,Y,Y,Y,Y,Y,Y,Y,Y,Y,Y,Y,Y,Y,Y,Y,Y,Z,Z] rfl rfl (any_of HT_.out (by kernel_rfl)) (fun _ _ _ h=>h) (Or.inr ⟨by rfl,rfl⟩) ?_ ?_;rotate_left
            ·simp only [Act.put,sIb,sZ,sS,i64_w,i32_w];rfl
            refine pure_ (i:=19) (N:=some 51) (v:=undef) (a':=?_) #[Y,Y,Y,Y,Y,Y,Y,Y,Y,Y,Y,Y,Y,Y,Y,Y,Y,Y,Y,Y,Z] rfl rfl (any_of HT_.out (by kernel_rfl)) (fun _ _ _ h=>h) (Or.inr ⟨by rfl,rfl⟩) ?_ ?_;rotate_left
            ·simp only [Act.put,sIb,sZ,sS,i64_w,i32_w];rfl
            refine pure_ (i:=20) (N:=some 52) (v:=?_) (a':=?_) #[Y,Y,Y,Y,Y,Y,Y,Y,Y,Y,Y,Y,Y,Y,Y,Y,Y,Y,Y,Y,Y] rfl rfl (any_of HT_.out (by kernel_rfl)) (fun _ _ _ h=>h) (Or.inl ⟨by rfl,?_⟩) ?_ ?_;rotate_left
            ·intro w';go_simp;with_reducible rfl
            rotate_left
            ·simp only [Act.put,sIb,sZ,sS,i64_w,i32_w];rfl
            refine done_ (done_of HT_.out (by kernel_rfl)) ?_;try go_wp2
            go_meet
            case rel=>exact ⟨_,(true),(by first|rfl|(simp;done)|(simp [*];done)),H',⟨by have:=HJ2.out;have:=HK2.out;first|omega|exact Nat.le_refl _⟩,⟨by (with_reducible repeat (first|refine qN ?_ _|refine qW ?_|refine qL ?_ _));exact BK204.out⟩,⟨by (with_reducible repeat (first|refine qN ?_ _|refine qW ?_|refine qL ?_ _));exact BK212.out⟩,⟨by repeat (first|(with_reducible first|exact HB.out|apply qA|apply qD|apply qO|refine qS ?_ GE204.out|refine qS ?_ GE212.out)|exact HB.out)⟩⟩
           ·rw [if_neg c23] at H;have c23b0:decide ((l1.length:Int)≤((rd_T97 l0_1 x28_2).f0))=false:=decide_eq_false c23;clear c23;by_cases c26:0≤((rd_T97 l0_1 x28_2).f0)
            ·rw [if_pos c26] at H;have c26b0:decide (0≤((rd_T97 l0_1 x28_2).f0))=true:=decide_eq_true c26;clear c26;by_cases c27:((rd_T97 l0_1 x28_2).f0) < (l1.length:Int)
             ·rw [if_pos c27] at H;have c27b0:decide (((rd_T97 l0_1 x28_2).f0) < (l1.length:Int))=true:=decide_eq_true c27;clear c27;have H':=qK H;clear H;try go_wp2
              have n0_:Aside0 (((w17.setCell ⟨gb212,0,none⟩ (.int .i64 ((rd_T97 l0_1 x28_2).f0))).setCell ⟨gb212,1,none⟩ (.slice A211_1 ((rd_T97 l0_1 x28_2).f1).length c211_1)).heap[gb204]?=some (.cells #[.slice A0_0 l0_0.length c0_0,.slice (some ad211) l0_1.length c0_1] 32 (0,0))):=⟨by (with_reducible repeat (first|refine qN ?_ _|refine qW ?_|refine qL ?_ _));refine qR ?_ NB204_212.out _;(with_reducible repeat (first|refine qN ?_ _|refine qW ?_|refine qL ?_ _));refine qR ?_ NB204_212.out _;(with_reducible repeat (first|refine qN ?_ _|refine qW ?_|refine qL ?_ _));exact BK204.out⟩;have n1_:Aside0 (((w17.setCell ⟨gb212,0,none⟩ (.int .i64 ((rd_T97 l0_1 x28_2).f0))).setCell ⟨gb212,1,none⟩ (.slice A211_1 ((rd_T97 l0_1 x28_2).f1).length c211_1)).heap[gb212]?=some (.cells #[.int .i64 ((rd_T97 l0_1 x28_2).f0),.slice A211_1 ((rd_T97 l0_1 x28_2).f1).length c211_1] 97 (0,0))):=⟨by (with_reducible repeat (first|refine qN ?_ _|refine qW ?_|refine qL ?_ _));refine qP (cs:=#[.int .i64 ((rd_T97 l0_1 x28_2).f0),.slice none 0 0]) ?_ 1 _ rfl;(with_reducible repeat (first|refine qN ?_ _|refine qW ?_|refine qL ?_ _));refine qP (cs:=#[.int .i64 0,.slice none 0 0]) ?_ 0 _ rfl;(with_reducible repeat (first|refine qN ?_ _|refine qW ?_|refine qL ?_ _));exact BK212.out⟩;have n2_:Aside0 (Below w.heap.size w ((w17.setCell ⟨gb212,0,none⟩ (.int .i64 ((rd_T97 l0_1 x28_2).f0))).setCell ⟨gb212,1,none⟩ (.slice A211_1 ((rd_T97 l0_1 x28_2).f1).length c211_1))):=⟨by repeat (first|(with_reducible first|exact HB.out|apply qA|apply qD|apply qO|refine qS ?_ GE204.out|refine qS ?_ GE212.out)|exact HB.out)⟩;(try clear BK204);(try clear BK212);(try clear HB);generalize ((w17.setCell ⟨gb212,0,none⟩ (.int .i64 ((rd_T97 l0_1 x28_2).f0))).setCell ⟨gb212,1,none⟩ (.slice A211_1 ((rd_T97 l0_1 x28_2).f1).length c211_1))=w28 at n0_ n1_ n2_ ⊢
              have BK204:=n0_;have BK212:=n1_;have HB:=n2_;clear n0_ n1_ n2_;(try (rw [drewN_self w28];generalize hq_:World.drewN w28 _=w28;have n0_:Aside0 (w28.heap[gb204]?=some (.cells #[.slice A0_0 l0_0.length c0_0,.slice (some ad211) l0_1.length c0_1] 32 (0,0))):=⟨by rw [← hq_];exact (by (with_reducible repeat (first|refine qN ?_ _|refine qW ?_|refine qL ?_ _));exact BK204.out)⟩;have n1_:Aside0 (w28.heap[gb212]?=some (.cells #[.int .i64 ((rd_T97 l0_1 x28_2).f0),.slice A211_1 ((rd_T97 l0_1 x28_2).f1).length c211_1] 97 (0,0))):=⟨by rw [← hq_];exact (by (with_reducible repeat (first|refine qN ?_ _|refine qW ?_|refine qL ?_ _));exact BK212.out)⟩;have n2_:Aside0 (Below w.heap.size w w28):=⟨by rw [← hq_];exact (by repeat (with_reducible first|exact HB.out|apply qA|apply qD|apply qO|refine qS ?_ GE204.out|refine qS ?_ GE212.out))⟩;clear BK204 BK212 HB hq_;have BK204:=n0_;have BK212:=n1_;have HB:=n2_;clear n0_ n1_ n2_));have n0_:=qK (qW BK204.out);have n1_:=qK (qW BK212.out);have n2_:=qK (qO HB.out);clear BK204;clear BK212;clear HB;have BK204:=n0_;have BK212:=n1_;have HB:=n2_;clear n0_ n1_ n2_;have p213:0≤(((rd_T97 l0_1 x28_2).f0):Int):=of_decide_eq_true (by first|(with_reducible assumption)|assumption);have q213:((rd_T97 l0_1 x28_2).f0) < (l1.length:Int):=of_decide_eq_true (by first|(with_reducible assumption)|assumption);obtain ⟨ad213,e213,hx213_0⟩:=Kd.at_int HR1.out ((rd_T97 l0_1 x28_2).f0) p213 q213;have hw213_0:=hx213_0;cases e213
              replace hx213_0:=(HB.out.cell (World.block_lt_of_cell? w _ hx213_0)).trans hx213_0;replace p213:=eq_true p213;replace q213:=eq_true q213;refine start_ (n:=21) (S:=fun w'=>w'.cell? ⟨gb212,0,none⟩=some (.int .i64 ((rd_T97 l0_1 x28_2).f0))∧w'.cell? ⟨gb212,1,none⟩=some (.slice A211_1 ((rd_T97 l0_1 x28_2).f1).length c211_1)∧w'.cell? (ad213.add (((rd_T97 l0_1 x28_2).f0)).toNat)=some (.int .i64 (rd l1 ((rd_T97 l0_1 x28_2).f0)))) (ds:=[]) #[Z,Z,Z,Z,Z,Z,Z,Z,Z,Z,Z,Z,Z,Z,Z,Z,Z,Z,Z,Z,Z] (by kernel_rfl) rfl rfl ⟨(qC BK212.out 0).trans rfl,(qC BK212.out 1).trans rfl,((HB.out.cell (World.block_lt_of_cell? w _ hw213_0)).trans hw213_0)⟩ (fun hHeld=>?_);refine with_tabW spec_GoodQuery.tab6 spec_GoodQuery.bits6 (fun HT_ HW_=>?_);generalize w28.drew=w29 at BK204 BK212 HB hx213_0 hHeld ⊢
              refine pure_ (i:=0) (N:=some 32) (v:=?_) (a':=?_) #[Y,Z,Z,Z,Z,Z,Z,Z,Z,Z,Z,Z,Z,Z,Z,Z,Z,Z,Z,Z,Z] rfl rfl (any_of HT_.out (by kernel_rfl)) (fun _ _ _ h=>h) (Or.inl ⟨by rfl,?_⟩) ?_ ?_;rotate_left
              ·intro w';go_simp;with_reducible rfl
              rotate_left
              ·simp only [Act.put,sIb,sZ,sS,i64_w,i32_w];rfl
              refine take_ (i:=1) (N:=some 33) (v:=?_) (a':=?_) #[Y,Y,Z,Z,Z,Z,Z,Z,Z,Z,Z,Z,Z,Z,Z,Z,Z,Z,Z,Z,Z] rfl rfl (take_ofW HT_.out HW_.out (by kernel_rfl)) (fun _ _ _ h=>h) (Or.inl ⟨by rfl,?_⟩) hHeld ?_ ?_;rotate_left
              ·rintro w' ⟨s0,s1,s2⟩;go_simp;with_reducible rfl
              rotate_left
              ·simp only [Act.put,sIb,sZ,sS,i64_w,i32_w];rfl
              refine pure_ (i:=2) (N:=some 34) (v:=?_) (a':=?_) #[Y,Y,Y,Z,Z,Z,Z,Z,Z,Z,Z,Z,Z,Z,Z,Z,Z,Z,Z,Z,Z] rfl rfl (any_of HT_.out (by kernel_rfl)) (fun _ _ _ h=>h) (Or.inl ⟨by rfl,?_⟩) ?_ ?_;rotate_left
              ·intro w';go_simp;with_reducible rfl
              rotate_left
              ·simp only [Act.put,sIb,sZ,sS,i64_w,i32_w];rfl
              refine pure_ (i:=3) (N:=some 35) (v:=?_) (a':=?_) #[Y,Y,Y,Y,Z,Z,Z,Z,Z,Z,Z,Z,Z,Z,Z,Z,Z,Z,Z,Z,Z] rfl rfl (any_of HT_.out (by kernel_rfl)) (fun _ _ _ h=>h) (Or.inl ⟨by rfl,?_⟩) ?_ ?_;rotate_left
              ·intro w';go_simp;with_reducible rfl
              rotate_left
              ·simp only [Act.put,sIb,sZ,sS,i64_w,i32_w];rfl
              refine pure_ (i:=4) (N:=some 36) (v:=?_) (a':=?_) #[Y,Y,Y,Y,Y,Z,Z,Z,Z,Z,Z,Z,Z,Z,Z,Z,Z,Z,Z,Z,Z] rfl rfl (any_of HT_.out (by kernel_rfl)) (fun _ _ _ h=>h) (Or.inl ⟨by rfl,?_⟩) ?_ ?_;rotate_left
              ·intro w';go_simp;with_reducible rfl
              rotate_left
              ·simp only [Act.put,sIb,sZ,sS,i64_w,i32_w];rfl
              refine pure_ (i:=6) (N:=some 38) (v:=?_) (a':=?_) #[Y,Y,Y,Y,Y,Z,Y,Z,Z,Z,Z,Z,Z,Z,Z,Z,Z,Z,Z,Z,Z] rfl rfl (any_of HT_.out (by kernel_rfl)) (fun _ _ _ h=>h) (Or.inl ⟨by rfl,?_⟩) ?_ ?_;rotate_left
              ·intro w';go_simp;with_reducible rfl
              rotate_left
              ·simp only [Act.put,sIb,sZ,sS,i64_w,i32_w];rfl
              refine pure_ (i:=7) (N:=some 39) (v:=?_) (a':=?_) #[Y,Y,Y,Y,Y,Z,Y,Y,Z,Z,Z,Z,Z,Z,Z,Z,Z,Z,Z,Z,Z] rfl rfl (any_of HT_.out (by kernel_rfl)) (fun _ _ _ h=>h) (Or.inl ⟨by rfl,?_⟩) ?_ ?_;rotate_left
              ·intro w';go_simp;with_reducible rfl
              rotate_left
              ·simp only [Act.put,sIb,sZ,sS,i64_w,i32_w];rfl
              refine take_ (i:=5) (N:=some 37) (v:=?_) (a':=?_) #[Y,Y,Y,Y,Y,Y,Y,Y,Z,Z,Z,Z,Z,Z,Z,Z,Z,Z,Z,Z,Z] rfl rfl (take_ofW HT_.out HW_.out (by kernel_rfl)) (fun _ _ _ h=>h) (Or.inl ⟨by rfl,?_⟩) hHeld ?_ ?_;rotate_left
              ·rintro w' ⟨s0,s1,s2⟩;go_simp;with_reducible rfl
              rotate_left
              ·simp only [Act.put,sIb,sZ,sS,i64_w,i32_w];rfl
              refine pure_ (i:=8) (N:=some 40) (v:=?_) (a':=?_) #[Y,Y,Y,Y,Y,Y,Y,Y,Y,Z,Z,Z,Z,Z,Z,Z,Z,Z,Z,Z,Z] rfl rfl (any_of HT_.out (by kernel_rfl)) (fun _ _ _ h=>h) (Or.inl ⟨by rfl,?_⟩) ?_ ?_;rotate_left
              ·intro w';go_simp;with_reducible rfl
              rotate_left
              ·simp only [Act.put,sIb,sZ,sS,i64_w,i32_w];rfl
              refine pure_ (i:=9) (N:=some 41) (v:=?_) (a':=?_) #[Y,Y,Y,Y,Y,Y,Y,Y,Y,Y,Z,Z,Z,Z,Z,Z,Z,Z,Z,Z,Z] rfl rfl (any_of HT_.out (by kernel_rfl)) (fun _ _ _ h=>h) (Or.inl ⟨by rfl,?_⟩) ?_ ?_;rotate_left
              ·intro w';go_simp;with_reducible rfl
              rotate_left
              ·simp only [Act.put,sIb,sZ,sS,i64_w,i32_w];rfl
              refine pure_ (i:=10) (N:=some 42) (v:=?_) (a':=?_) #[Y,Y,Y,Y,Y,Y,Y,Y,Y,Y,Y,Z,Z,Z,Z,Z,Z,Z,Z,Z,Z] rfl rfl (any_of HT_.out (by kernel_rfl)) (fun _ _ _ h=>h) (Or.inl ⟨by rfl,?_⟩) ?_ ?_;rotate_left
              ·intro w';go_simp;with_reducible rfl
              rotate_left
              ·simp only [Act.put,sIb,sZ,sS,i64_w,i32_w];rfl
              refine pure_ (i:=11) (N:=some 43) (v:=?_) (a':=?_) #[Y,Y,Y,Y,Y,Y,Y,Y,Y,Y,Y,Y,Z,Z,Z,Z,Z,Z,Z,Z,Z] rfl rfl (any_of HT_.out (by kernel_rfl)) (fun _ _ _ h=>h) (Or.inl ⟨by rfl,?_⟩) ?_ ?_;rotate_left
              ·intro w';go_simp;with_reducible rfl
              rotate_left
              ·simp only [Act.put,sIb,sZ,sS,i64_w,i32_w];rfl
              refine pure_ (i:=14) (N:=some 46) (v:=?_) (a':=?_) #[Y,Y,Y,Y,Y,Y,Y,Y,Y,Y,Y,Y,Z,Z,Y,Z,Z,Z,Z,Z,Z] rfl rfl (any_of HT_.out (by kernel_rfl)) (fun _ _ _ h=>h) (Or.inl ⟨by rfl,?_⟩) ?_ ?_;rotate_left
              ·intro w';go_simp;with_reducible rfl
              rotate_left
              ·simp only [Act.put,sIb,sZ,sS,i64_w,i32_w];rfl
              refine pure_ (i:=15) (N:=some 47) (v:=?_) (a':=?_) #[Y,Y,Y,Y,Y,Y,Y,Y,Y,Y,Y,Y,Z,Z,Y,Y,Z,Z,Z,Z,Z] rfl rfl (any_of HT_.out (by kernel_rfl)) (fun _ _ _ h=>h) (Or.inl ⟨by rfl,?_⟩) ?_ ?_;rotate_left
              ·intro w';go_simp;with_reducible rfl
              rotate_left
              ·simp only [Act.put,sIb,sZ,sS,i64_w,i32_w];rfl
              refine take_ (i:=12) (N:=some 44) (v:=?_) (a':=?_) #[Y,Y,Y,Y,Y,Y,Y,Y,Y,Y,Y,Y,Y,Z,Y,Y,Z,Z,Z,Z,Z] rfl rfl (take_ofW HT_.out HW_.out (by kernel_rfl)) (fun _ _ _ h=>h) (Or.inl ⟨by rfl,?_⟩) hHeld ?_ ?_;rotate_left
              ·rintro w' ⟨s0,s1,s2⟩;go_simp;with_reducible rfl
              rotate_left
              ·simp only [Act.put,sIb,sZ,sS,i64_w,i32_w];rfl
              refine pure_ (i:=13) (N:=some 45) (v:=?_) (a':=?_) #[Y,Y,Y,Y,Y,Y,Y,Y,Y,Y,Y,Y,Y,Y,Y,Y,Z,Z,Z,Z,Z] rfl rfl (any_of HT_.out (by kernel_rfl)) (fun _ _ _ h=>h) (Or.inl ⟨by rfl,?_⟩) ?_ ?_;rotate_left
              ·intro w';go_simp;with_reducible rfl
              rotate_left
              ·simp only [Act.put,sIb,sZ,sS,i64_w,i32_w];rfl
              refine take_ (i:=16) (N:=some 48) (v:=?_) (a':=?_) #[Y,Y,Y,Y,Y,Y,Y,Y,Y,Y,Y,Y,Y,Y,Y,Y,Y,Z,Z,Z,Z] rfl rfl (take_ofW HT_.out HW_.out (by kernel_rfl)) (fun _ _ _ h=>h) (Or.inl ⟨by rfl,?_⟩) hHeld ?_ ?_;rotate_left
              ·rintro w' ⟨s0,s1,s2⟩;go_simp;with_reducible rfl
              rotate_left
              ·simp only [Act.put,sIb,sZ,sS,i64_w,i32_w];rfl
              refine pure_ (i:=17) (N:=some 49) (v:=?_) (a':=?_) #[Y,Y,Y,Y,Y,Y,Y,Y,Y,Y,Y,Y,Y,Y,Y,Y,Y,Y,Z,Z,Z] rfl rfl (any_of HT_.out (by kernel_rfl)) (fun _ _ _ h=>h) (Or.inl ⟨by rfl,?_⟩) ?_ ?_;rotate_left
              ·intro w';go_simp;with_reducible rfl
              rotate_left
              ·simp only [Act.put,sIb,sZ,sS,i64_w,i32_w];rfl
              refine take_ (i:=18) (N:=some 50) (v:=?_) (a':=?_) #[Y,Y,Y,Y,Y,Y,Y,Y,Y,Y,Y,Y,Y,Y,Y,Y,Y,Y,Y,Z,Z] rfl rfl (take_ofW HT_.out HW_.out (by kernel_rfl)) (fun _ _ _ h=>h) (Or.inl ⟨by rfl,?_⟩) hHeld ?_ ?_;rotate_left
              ·rintro w' ⟨s0,s1,s2⟩;go_simp;with_reducible rfl
              rotate_left
              ·simp only [Act.put,sIb,sZ,sS,i64_w,i32_w];rfl
              refine pure_ (i:=19) (N:=some 51) (v:=?_) (a':=?_) #[Y,Y,Y,Y,Y,Y,Y,Y,Y,Y,Y,Y,Y,Y,Y,Y,Y,Y,Y,Y,Z] rfl rfl (any_of HT_.out (by kernel_rfl)) (fun _ _ _ h=>h) (Or.inl ⟨by rfl,?_⟩) ?_ ?_;rotate_left
              ·intro w';go_simp;with_reducible rfl
              rotate_left
              ·simp only [Act.put,sIb,sZ,sS,i64_w,i32_w];rfl
              refine pure_ (i:=20) (N:=some 52) (v:=?_) (a':=?_) #[Y,Y,Y,Y,Y,Y,Y,Y,Y,Y,Y,Y,Y,Y,Y,Y,Y,Y,Y,Y,Y] rfl rfl (any_of HT_.out (by kernel_rfl)) (fun _ _ _ h=>h) (Or.inl ⟨by rfl,?_⟩) ?_ ?_;rotate_left
              ·intro w';go_simp;with_reducible rfl
              rotate_left
              ·simp only [Act.put,sIb,sZ,sS,i64_w,i32_w];rfl
              refine done_ (done_of HT_.out (by kernel_rfl)) ?_;try go_wp2
              go_meet
              case rel=>exact ⟨_,(((((rd_T97 l0_1 x28_2).f1).length:Int) != (rd l1 ((rd_T97 l0_1 x28_2).f0)))),(by first|rfl|(simp;done)|(simp [*];done)),H',⟨by have:=HJ2.out;have:=HK2.out;first|omega|exact Nat.le_refl _⟩,⟨by (with_reducible repeat (first|refine qN ?_ _|refine qW ?_|refine qL ?_ _));exact BK204.out⟩,⟨by (with_reducible repeat (first|refine qN ?_ _|refine qW ?_|refine qL ?_ _));exact BK212.out⟩,⟨by repeat (first|(with_reducible first|exact HB.out|apply qA|apply qD|apply qO|refine qS ?_ GE204.out|refine qS ?_ GE212.out)|exact HB.out)⟩⟩
             ·rw [if_neg c27] at H;exact absurd H (by simp)
            ·rw [if_neg c26] at H;exact absurd H (by simp)
         case rest =>
          clear HC16;try clear c1
          try clear c2
          try clear p2
          try clear q2
          try clear hx2
          try clear c6
          try clear c7
          try clear c8
          try clear c11
          try clear c13
          try clear c13b0
          try clear c14
          try clear c14b0
          try clear c15
          try clear c15b0
          try clear c18
          try clear c20
          try clear c20b0
          try clear c21
          try clear p21
          try clear q21
          try clear hx21
          try clear c23
          try clear c23b0
          try clear c26
          try clear c26b0
          try clear c27
          try clear c27b0
          try clear hcz10_0
          try clear hcz10_1
          try clear hcz12_0
          try clear hcz12_1
          try clear hcz19_0
          try clear hcz19_1
          try clear hcz9_0
          try clear hcz9_1
          try clear hfz10_0
          try clear hfz10_1
          try clear hfz12_0
          try clear hfz12_1
          try clear hfz19_0
          try clear hfz19_1
          try clear hfz9_0
          try clear hfz9_1
          try clear hx211_0
          try clear hx211_1
          try clear hx213_0
          try clear p2
          try clear p211
          try clear p213
          try clear q211
          try clear q213
          obtain ⟨kq,x52_15,rfl,HA,HJ15,BK204,BK212,HB⟩:=hcut;cases kq with
          | zero=>exact absurd HA.out (by simp [spec_GoodQuery.j2])
          | succ kj15 =>
           have H:=HA.out;clear HA;simp only [spec_GoodQuery.j2] at H;by_cases c30:x52_15=true
           ·subst c30;have H1:(some false)=some r:=by rw [if_pos rfl] at H;exact H
            clear H;have H:=H1;clear H1;obtain rfl:=Option.some.inj H;go_wp2
            go_ret
            exact ⟨by first|rfl|(simp [errW_none,errW_some] <;> rfl)|(simp [*,errW_none,errW_some] <;> rfl),by repeat (first|(with_reducible first|exact HB.out|apply qA|apply qD|apply qO|refine qS ?_ GE204.out|refine qS ?_ GE212.out)|exact HB.out)⟩
           ·replace c30:=Bool.eq_false_iff.mpr c30;subst c30;have H1:(spec_GoodQuery.l1 kj15 l1 l0_1 (l0_1.length:Int) x28_2 ((rd_T97 l0_1 x28_2).f1) (((rd_T97 l0_1 x28_2).f1).length:Int) 0 l0_0 l0_1)=some r:=by rw [if_neg (show ¬ (false=true) by decide)] at H;exact H
            clear H;have H:=H1;clear H1;have H':=qK H;clear H;have hnb31:=NB212_204.out;have hnc31:=NB204_212.out;have hcz32_0:wc.cell? ⟨gb212,0,none⟩=some (.int .i64 ((rd_T97 l0_1 x28_2).f0)):=(qC BK212.out 0).trans rfl;have hcz32_1:wc.cell? ⟨gb212,1,none⟩=some (.slice A211_1 ((rd_T97 l0_1 x28_2).f1).length c211_1):=(qC BK212.out 1).trans rfl;have hfz32_0:=qF BK212.out 0;have hfz32_1:=qF BK212.out 1;go_wp2
            go_loopg [56] kj15 (fun kq v56 w'=>∃ (x56_4:Int),v56=.int .i64 x56_4∧Aside0 (spec_GoodQuery.l1 kq l1 l0_1 (l0_1.length:Int) x28_2 ((rd_T97 l0_1 x28_2).f1) (((rd_T97 l0_1 x28_2).f1).length:Int) x56_4 l0_0 l0_1=some r)∧Aside0 (kq≤kj15)∧Aside0 (w'.heap[gb204]?=some (.cells #[(.slice A0_0 l0_0.length c0_0),(.slice (some ad211) l0_1.length c0_1)] 32 (0,0)))∧Aside0 (w'.heap[gb212]?=some (.cells #[.int .i64 ((rd_T97 l0_1 x28_2).f0),(.slice A211_1 ((rd_T97 l0_1 x28_2).f1).length c211_1)] 97 (0,0)))∧Aside0 (Below w.heap.size w w'))
            case atStart=>exact ⟨(0),(by first|rfl|(simp;done)|(simp [*];done)),H',⟨Nat.le_refl _⟩,⟨by (with_reducible repeat (first|refine qN ?_ _|refine qW ?_|refine qL ?_ _));exact BK204.out⟩,⟨by (with_reducible repeat (first|refine qN ?_ _|refine qW ?_|refine qL ?_ _));exact BK212.out⟩,⟨by repeat (first|(with_reducible first|exact HB.out|apply qA|apply qD|apply qO|refine qS ?_ GE204.out|refine qS ?_ GE212.out)|exact HB.out)⟩⟩
            case round =>
             clear H';try clear c1
             try clear c2
             try clear p2
             try clear q2
             try clear hx2
             try clear c3
             try clear c6
             try clear c7
             try clear c8
             try clear c11
             try clear c13
             try clear c13b0
             try clear c14
             try clear c14b0
             try clear c15
             try clear c15b0
             try clear c18
             try clear c20
             try clear c20b0
             try clear c21
             try clear p21
             try clear q21
             try clear hx21
             try clear c23
             try clear c23b0
             try clear c26
             try clear c26b0
             try clear c27
             try clear c27b0
             try clear c30
             try clear c31
             try clear hcz10_0
             try clear hcz10_1
             try clear hcz12_0
             try clear hcz12_1
             try clear hcz19_0
             try clear hcz19_1
             try clear hcz32_0
             try clear hcz32_1
             try clear hcz9_0
             try clear hcz9_1
             try clear hfz10_0
             try clear hfz10_1
             try clear hfz12_0
             try clear hfz12_1
             try clear hfz19_0
             try clear hfz19_1
             try clear hfz32_0
             try clear hfz32_1
             try clear hfz9_0
             try clear hfz9_1
             try clear hx211_0
             try clear hx211_1
             try clear hx213_0
             try clear p2
             try clear p21
             try clear p211
             try clear p213
             try clear q2
             try clear q21
             try clear q211
             try clear q213
             obtain ⟨x56_4,rfl,HA,HK4,BK204,BK212,HB⟩:=hrel;cases gk with
             | zero=>exact absurd HA.out (by simp [spec_GoodQuery.l1])
             | succ k4 =>
              have H:=HA.out;clear HA;simp only [spec_GoodQuery.l1] at H;by_cases c33:x56_4 < (((rd_T97 l0_1 x28_2).f1).length:Int)
              ·rw [if_pos c33] at H;have c33b0:decide (x56_4 < (((rd_T97 l0_1 x28_2).f1).length:Int))=true:=decide_eq_true c33;clear c33;by_cases c34:0≤x56_4
               ·rw [if_pos c34] at H;have c34b0:decide (0≤x56_4)=true:=decide_eq_true c34;clear c34;by_cases c35:x56_4 < (((rd_T97 l0_1 x28_2).f1).length:Int)
                ·rw [if_pos c35] at H;have c35b0:decide (x56_4 < (((rd_T97 l0_1 x28_2).f1).length:Int))=true:=decide_eq_true c35;clear c35;replace H:=Option.bind_eq_some_iff.mp H;obtain ⟨t215,A360,H⟩:=H;replace H:(if t215=true then (spec_GoodQuery.l1 k4 l1 l0_1 (l0_1.length:Int) x28_2 ((rd_T97 l0_1 x28_2).f1) (((rd_T97 l0_1 x28_2).f1).length:Int) (wrap64 (x56_4 + 1)) l0_0 l0_1) else (some false))=some r:=H;have A36:=qK A360;clear A360;by_cases c37:t215=true
                 ·subst c37;have H1:(spec_GoodQuery.l1 k4 l1 l0_1 (l0_1.length:Int) x28_2 ((rd_T97 l0_1 x28_2).f1) (((rd_T97 l0_1 x28_2).f1).length:Int) (wrap64 (x56_4 + 1)) l0_0 l0_1)=some r:=by rw [if_pos rfl] at H;exact H
                  clear H;have H:=H1;clear H1;have H':=qK H;clear H;have p214:0≤(x56_4:Int):=of_decide_eq_true (by first|(with_reducible assumption)|assumption);have q214:x56_4 < (((rd_T97 l0_1 x28_2).f1).length:Int):=of_decide_eq_true (by first|(with_reducible assumption)|assumption);obtain ⟨ad214,e214,hx214_0⟩:=Kd.at_int HR211_1.out x56_4 p214 q214;cases e214
                  replace hx214_0:=(HB.out.cell (World.block_lt_of_cell? w _ hx214_0)).trans hx214_0;replace p214:=eq_true p214;replace q214:=eq_true q214;go_wp2_with (first|((with_reducible refine gate_callee (f:=139) rfl ?_);refine goesL_ (some 61) rfl rfl Try.func139 (by kernel_rfl) rfl #[.int .i64 (rd ((rd_T97 l0_1 x28_2).f1) x56_4)] rfl (by (try simp only [mT,mC,mN]);first|done|rfl|(simp only [lD,lT];rfl)) ?_;(with_reducible refine (spec_l10Var.calls (rd ((rd_T97 l0_1 x28_2).f1) x56_4) true _ A36.out).mono ?_);rintro e w' ⟨rfl,⟨nd,rfl⟩⟩;refine ⟨_,rfl,?_⟩))
                  go_roundg k4
                  case measure=>have:=HJ2.out;have:=HK2.out;have:=HJ15.out;have:=HK4.out;omega
                  case rel=>exact ⟨(wrap64 (x56_4 + 1)),(by first|rfl|(simp;done)|(simp [*];done)),H',⟨by have:=HJ2.out;have:=HK2.out;have:=HJ15.out;have:=HK4.out;omega⟩,⟨by (with_reducible repeat (first|refine qN ?_ _|refine qW ?_|refine qL ?_ _));exact BK204.out⟩,⟨by (with_reducible repeat (first|refine qN ?_ _|refine qW ?_|refine qL ?_ _));exact BK212.out⟩,⟨by repeat (first|(with_reducible first|exact HB.out|apply qA|apply qD|apply qO|refine qS ?_ GE204.out|refine qS ?_ GE212.out)|exact HB.out)⟩⟩
                 ·replace c37:=Bool.eq_false_iff.mpr c37;subst c37;have H1:(some false)=some r:=by rw [if_neg (show ¬ (false=true) by decide)] at H;exact H
                  clear H;have H:=H1;clear H1;obtain rfl:=Option.some.inj H;have p214:0≤(x56_4:Int):=of_decide_eq_true (by first|(with_reducible assumption)|assumption);have q214:x56_4 < (((rd_T97 l0_1 x28_2).f1).length:Int):=of_decide_eq_true (by first|(with_reducible assumption)|assumption);obtain ⟨ad214,e214,hx214_0⟩:=Kd.at_int HR211_1.out x56_4 p214 q214;cases e214
                  replace hx214_0:=(HB.out.cell (World.block_lt_of_cell? w _ hx214_0)).trans hx214_0;replace p214:=eq_true p214;replace q214:=eq_true q214;go_wp2_with (first|((with_reducible refine gate_callee (f:=139) rfl ?_);refine goesL_ (some 61) rfl rfl Try.func139 (by kernel_rfl) rfl #[.int .i64 (rd ((rd_T97 l0_1 x28_2).f1) x56_4)] rfl (by (try simp only [mT,mC,mN]);first|done|rfl|(simp only [lD,lT];rfl)) ?_;(with_reducible refine (spec_l10Var.calls (rd ((rd_T97 l0_1 x28_2).f1) x56_4) false _ A36.out).mono ?_);rintro e w' ⟨rfl,⟨nd,rfl⟩⟩;refine ⟨_,rfl,?_⟩))
                  go_ret
                  exact ⟨by first|rfl|(simp [errW_none,errW_some] <;> rfl)|(simp [*,errW_none,errW_some] <;> rfl),by repeat (first|(with_reducible first|exact HB.out|apply qA|apply qD|apply qO|refine qS ?_ GE204.out|refine qS ?_ GE212.out)|exact HB.out)⟩
                ·rw [if_neg c35] at H;exact absurd H (by simp)
               ·rw [if_neg c34] at H;exact absurd H (by simp)
              ·rw [if_neg c33] at H;have c33b0:decide (x56_4 < (((rd_T97 l0_1 x28_2).f1).length:Int))=false:=decide_eq_false c33;clear c33;have H':=qK H;clear H;go_wp2
               go_roundg k4
               case measure=>have:=HJ2.out;have:=HK2.out;have:=HJ15.out;have:=HK4.out;omega
               case rel=>exact ⟨(wrap64 (x28_2 + 1)),(by first|rfl|(simp;done)|(simp [*];done)),H',⟨by have:=HJ2.out;have:=HK2.out;have:=HJ15.out;have:=HK4.out;omega⟩,⟨by (with_reducible repeat (first|refine qN ?_ _|refine qW ?_|refine qL ?_ _));exact BK204.out⟩,⟨by repeat (first|(with_reducible first|exact HB.out|apply qA|apply qD|apply qO|refine qS ?_ GE204.out|refine qS ?_ GE212.out)|exact HB.out)⟩⟩
        ·rw [if_neg c15] at H;exact absurd H (by simp)
       ·rw [if_neg c14] at H;exact absurd H (by simp)
      ·rw [if_neg c13] at H;have c13b0:decide (x28_2 < (l0_1.length:Int))=false:=decide_eq_false c13;clear c13;replace H:=Option.bind_eq_some_iff.mp H;obtain ⟨t207,A380,H⟩:=H;replace H:((spec_l7All.f k2 t207 l0_0).bind fun t210=>(some t210))=some r:=H;have A38:=qK A380;clear A380;replace H:=Option.bind_eq_some_iff.mp H;obtain ⟨t210,A390,H⟩:=H;replace H:(some t210)=some r:=H;have A39:=qK A390;clear A390;obtain rfl:=Option.some.inj H;try go_wp2
       (try (rw [drewN_self wr];generalize hq_:World.drewN wr _=wr;have n0_:Aside0 (wr.heap[gb204]?=some (.cells #[.slice A0_0 l0_0.length c0_0,.slice A0_1 l0_1.length c0_1] 32 (0,0))):=⟨by rw [← hq_];exact (by (with_reducible repeat (first|refine qN ?_ _|refine qW ?_|refine qL ?_ _));exact BK204.out)⟩;have n1_:Aside0 (Below w.heap.size w wr):=⟨by rw [← hq_];exact (by repeat (with_reducible first|exact HB.out|apply qA|apply qD|apply qO|refine qS ?_ GE204.out))⟩;clear BK204 HB hq_;have BK204:=n0_;have HB:=n1_;clear n0_ n1_));have n0_:=qK (qW BK204.out);have n1_:=qK (qO HB.out);clear BK204;clear HB;have BK204:=n0_;have HB:=n1_;clear n0_ n1_;refine start_ (n:=6) (S:=fun w'=>w'.cell? ⟨gb204,0,none⟩=some (.slice A0_0 l0_0.length c0_0)∧w'.cell? ⟨gb204,1,none⟩=some (.slice A0_1 l0_1.length c0_1)) (ds:=[]) #[Z,Z,Z,Z,Z,Z] (by kernel_rfl) rfl rfl ⟨(qC BK204.out 0).trans rfl,(qC BK204.out 1).trans rfl⟩ (fun hHeld=>?_);generalize wr.drew=w40 at BK204 HB hHeld ⊢
       refine pure_ (i:=2) (N:=some 67) (v:=?_) (a':=?_) #[Z,Z,Y,Z,Z,Z] rfl rfl (by kernel_rfl) (fun _ _ _ h=>h) (Or.inl ⟨by rfl,?_⟩) ?_ ?_;rotate_left
       ·intro w';go_simp;with_reducible rfl
       rotate_left
       ·simp only [Act.put,sIb,sZ,sS,i64_w,i32_w];rfl
       refine take_ (i:=0) (N:=some 65) (v:=?_) (a':=?_) #[Y,Z,Y,Z,Z,Z] rfl rfl (by kernel_rfl) (fun _ _ _ h=>h) (Or.inl ⟨by rfl,?_⟩) hHeld ?_ ?_;rotate_left
       ·rintro w' ⟨s0,s1⟩;go_simp;with_reducible rfl
       rotate_left
       ·simp only [Act.put,sIb,sZ,sS,i64_w,i32_w];rfl
       refine take_ (i:=3) (N:=some 68) (v:=?_) (a':=?_) #[Y,Z,Y,Y,Z,Z] rfl rfl (by kernel_rfl) (fun _ _ _ h=>h) (Or.inl ⟨by rfl,?_⟩) hHeld ?_ ?_;rotate_left
       ·rintro w' ⟨s0,s1⟩;go_simp;with_reducible rfl
       rotate_left
       ·simp only [Act.put,sIb,sZ,sS,i64_w,i32_w];rfl
       refine one_ (i:=1) (N:=some 66) #[Y,Y,Y,Y,Z,Z] rfl rfl (by kernel_rfl) (by decide) (fun K hK=>?_);refine goes_ Try.func140 (by kernel_rfl) rfl #[.agg #[.slice A0_0 l0_0.length c0_0,.slice A0_1 l0_1.length c0_1]] (by rfl) rfl rfl (by (try simp only [mT,mC,mN]);first|done|rfl|(simp only [lD,lT];rfl)) ?_;with_reducible refine (spec_l10Vars.calls k2 _ _ l0_0 _ _ l0_1 t207 _ ?side1 ?side2 ?side3 ?side4 A38.out).mono ?_
       (case side1=>repeat (first|exact (cB HR0_0.out HB.out)|(with_reducible first|refine cL ?_ _|refine cN ?_ _|refine cW ?_)));(case side2=>exact HC0_0.out);(case side3=>repeat (first|exact (cB HR0_1.out HB.out)|(with_reducible first|refine cL ?_ _|refine cN ?_ _|refine cW ?_)));(case side4=>exact HC0_1.out);rintro e w41 ⟨v208,rfl,ho0,hb⟩;refine ⟨_,rfl,?_⟩;have n0_:=qK (Kd.V_lower (Kd.V_mono (ok':=fun k_=>k_ ≠ gb204) ho0 (fun k_ hk_=>(Kd.freshB (g:=gb204) (o:=_) (by (with_reducible repeat (first|refine qN ?_ _|refine qW ?_|refine qL ?_ _));exact BK204.out) k_ hk_))) (qZ (by repeat (with_reducible first|exact HB.out|apply qA|apply qD|apply qO|refine qS ?_ GE204.out))));have n1_:=qK (qB (g:=gb204) (o:=_) (by (with_reducible repeat (first|refine qN ?_ _|refine qW ?_|refine qL ?_ _));exact BK204.out) hb);have n2_:=qK (qT (by repeat (with_reducible first|exact HB.out|apply qA|apply qD|apply qO|refine qS ?_ GE204.out)) hb);clear BK204;clear HB;have HO209:=n0_;have BK204:=n1_;have HB:=n2_;clear n0_ n1_ n2_;(try clear hb);(try clear ho0);obtain ⟨Ao42,co42,eo42⟩:=Kd.V_slice HO209.out;(first|subst eo42|(injection eo42 with f1_ f2_ f3_;have f4_:=f1_.symm;have f5_:=f3_.symm;clear f1_ f2_ f3_;subst f4_;subst f5_));refine hK.out _ _ ⟨(qC BK204.out 0).trans rfl,(qC BK204.out 1).trans rfl⟩ (fun hHeld=>?_);clear hK K;refine norm_ (a':=?_) ?_ ?_;rotate_left
       ·show Act.put _ (some 66) _=_
        simp only [Act.put,sIb,sZ,sS,i64_w,i32_w];rfl
       refine one_ (i:=4) (N:=some 69) #[Y,Y,Y,Y,Y,Z] rfl rfl (by kernel_rfl) (by decide) (fun K hK=>?_);refine goes_ Try.func83 (by kernel_rfl) rfl #[.slice Ao42 t207.length co42,.slice A0_0 l0_0.length c0_0] (by rfl) rfl rfl (by (try simp only [mT,mC,mN]);first|done|rfl|(simp only [lD,lT];rfl)) ?_;with_reducible refine (spec_l7All.calls k2 _ _ t207 _ _ l0_0 t210 _ ?side1 ?side2 ?side3 ?side4 A39.out).mono ?_
       (case side1=>repeat (first|exact (Kd.V_reads' HO209.out).2.2|(with_reducible first|refine cL ?_ _|refine cN ?_ _|refine cW ?_)));(case side2=>exact (Kd.V_reads' HO209.out).2.1);(case side3=>repeat (first|exact (cB HR0_0.out HB.out)|(with_reducible first|refine cL ?_ _|refine cN ?_ _|refine cW ?_)));(case side4=>exact HC0_0.out);rintro e w' ⟨rfl,⟨nd,rfl⟩⟩;refine ⟨_,rfl,?_⟩;refine hK.out _ _ ⟨(qC BK204.out 0).trans rfl,(qC BK204.out 1).trans rfl⟩ (fun hHeld=>?_);clear hK K;refine norm_ (a':=?_) ?_ ?_;rotate_left
       ·show Act.put _ (some 69) _=_
        simp only [Act.put,sIb,sZ,sS,i64_w,i32_w];rfl
       refine pure_ (i:=5) (N:=some 4) (v:=?_) (a':=?_) #[Y,Y,Y,Y,Y,Y] rfl rfl (by kernel_rfl) (fun _ _ _ h=>h) (Or.inl ⟨by rfl,?_⟩) ?_ ?_;rotate_left
       ·intro w';go_simp;with_reducible rfl
       rotate_left
       ·simp only [Act.put,sIb,sZ,sS,i64_w,i32_w];rfl
       refine done_ (by kernel_rfl) ?_;try go_wp2
       go_ret
       exact ⟨by first|rfl|(simp [errW_none,errW_some] <;> rfl)|(simp [*,errW_none,errW_some] <;> rfl),by repeat (first|(with_reducible first|exact HB.out|apply qA|apply qD|apply qO|refine qS ?_ GE204.out)|exact HB.out)⟩

/-! ### spec_l10HasAtom: function 183 -/
mutual
def spec_l10HasAtom.l0 : Nat→List Int→List (S97)→Int→Int→Int→List Int→Option (Bool)
 | 0,_,_,_,_,_,_=>none
 | k + 1,x2,x13,x14,x15,x218000,x218001=>if x15 < x14 then (if 0≤x15 then (if x15 < (x13.length:Int) then (if ((rd_T97 x13 x15).f0)=x218000 then (spec_l10HasAtom.l1 k x2 true x13 x14 x15 x218001 (x218001.length:Int) 0 x218000 x218001 ((rd_T97 x13 x15).f0) ((rd_T97 x13 x15).f1)) else (spec_l10HasAtom.l0 k x2 x13 x14 (wrap64 (x15 + 1)) x218000 x218001)) else (none)) else (none)) else (some false)
def spec_l10HasAtom.l1 : Nat→List Int→Bool→List (S97)→Int→Int→List Int→Int→Int→Int→List Int→Int→List Int→Option (Bool)
 | 0,_,_,_,_,_,_,_,_,_,_,_,_=>none
 | k + 1,x2,x9,x13,x14,x15,x25,x26,x27,x218000,x218001,x220000,x220001=>if x27 < x26 then (if 0≤x27 then (if x27 < (x25.length:Int) then (if (rd x25 x27) < (x2.length:Int) then (if 0≤(rd x25 x27) then (if x27 < (x220001.length:Int) then (if (rd x2 (rd x25 x27))=(rd x220001 x27) then (spec_l10HasAtom.l1 k x2 x9 x13 x14 x15 x25 x26 (wrap64 (x27 + 1)) x218000 x218001 x220000 x220001) else (spec_l10HasAtom.l1 k x2 false x13 x14 x15 x25 x26 (wrap64 (x27 + 1)) x218000 x218001 x220000 x220001)) else (none)) else (none)) else (spec_l10HasAtom.l1 k x2 x9 x13 x14 x15 x25 x26 (wrap64 (x27 + 1)) x218000 x218001 x220000 x220001)) else (none)) else (none)) else (if x9=true then (some true) else (spec_l10HasAtom.l0 k x2 x13 x14 (wrap64 (x15 + 1)) x218000 x218001))
end
def spec_l10HasAtom.f (k:Nat) (l0_0:List Int) (l0_1:List (S97)) (a1_0:Int) (l1_1:List Int) (l2:List Int):Option (Bool):=spec_l10HasAtom.l0 k l2 l0_1 (l0_1.length:Int) 0 a1_0 l1_1
theorem spec_l10HasAtom.mono_l : ∀ k,(∀ y0 y1 y2 y3 y4 y5,LeO (spec_l10HasAtom.l0 k y0 y1 y2 y3 y4 y5) (spec_l10HasAtom.l0 (k + 1) y0 y1 y2 y3 y4 y5))∧(∀ y0 y1 y2 y3 y4 y5 y6 y7 y8 y9 y10 y11,LeO (spec_l10HasAtom.l1 k y0 y1 y2 y3 y4 y5 y6 y7 y8 y9 y10 y11) (spec_l10HasAtom.l1 (k + 1) y0 y1 y2 y3 y4 y5 y6 y7 y8 y9 y10 y11))
 | 0=>⟨fun _ _ _ _ _ _ r h=>by simp [spec_l10HasAtom.l0] at h,fun _ _ _ _ _ _ _ _ _ _ _ _ r h=>by simp [spec_l10HasAtom.l1] at h⟩
 | k + 1=>by
  obtain ⟨ih0,ih1⟩:=spec_l10HasAtom.mono_l k;refine ⟨?_,?_⟩
  ·intro y0 y1 y2 y3 y4 y5;unfold spec_l10HasAtom.l0
   repeat' first
   | (with_reducible exact ih0 _ _ _ _ _ _)
   | (with_reducible exact ih1 _ _ _ _ _ _ _ _ _ _ _ _)
   | (with_reducible exact LeO.refl _)
   | (with_reducible exact LeO.none _)
   | (with_reducible refine LeO.ite ?_ ?_)
   | (with_reducible refine LeO.bind ?_ (fun _=>?_))
   | exact ih0 _ _ _ _ _ _
   | exact ih1 _ _ _ _ _ _ _ _ _ _ _ _
   | exact LeO.none _
   | refine LeO.ite ?_ ?_
   | refine LeO.bind ?_ (fun _=>?_)
  ·intro y0 y1 y2 y3 y4 y5 y6 y7 y8 y9 y10 y11;unfold spec_l10HasAtom.l1
   repeat' first
   | (with_reducible exact ih0 _ _ _ _ _ _)
   | (with_reducible exact ih1 _ _ _ _ _ _ _ _ _ _ _ _)
   | (with_reducible exact LeO.refl _)
   | (with_reducible exact LeO.none _)
   | (with_reducible refine LeO.ite ?_ ?_)
   | (with_reducible refine LeO.bind ?_ (fun _=>?_))
   | exact ih0 _ _ _ _ _ _
   | exact ih1 _ _ _ _ _ _ _ _ _ _ _ _
   | exact LeO.none _
   | refine LeO.ite ?_ ?_
   | refine LeO.bind ?_ (fun _=>?_)
theorem spec_l10HasAtom.mono : ∀ a0 a1 a2 a3 a4 k,LeO (spec_l10HasAtom.f k a0 a1 a2 a3 a4) (spec_l10HasAtom.f (k + 1) a0 a1 a2 a3 a4):=by
 intro a0 a1 a2 a3 a4 k;obtain ⟨ih0,ih1⟩:=spec_l10HasAtom.mono_l k;unfold spec_l10HasAtom.f
 repeat' first
   | (with_reducible exact ih0 _ _ _ _ _ _)
   | (with_reducible exact ih1 _ _ _ _ _ _ _ _ _ _ _ _)
   | (with_reducible exact LeO.refl _)
   | (with_reducible exact LeO.none _)
   | (with_reducible refine LeO.ite ?_ ?_)
   | (with_reducible refine LeO.bind ?_ (fun _=>?_))
   | exact ih0 _ _ _ _ _ _
   | exact ih1 _ _ _ _ _ _ _ _ _ _ _ _
   | exact LeO.none _
   | refine LeO.ite ?_ ?_
   | refine LeO.bind ?_ (fun _=>?_)
set_option maxHeartbeats 8000000 in
set_option maxRecDepth 100000 in
theorem spec_l10HasAtom.calls (k:Nat) (A0_0:Option Addr) (c0_0:Nat) (l0_0:List Int) (A0_1:Option Addr) (c0_1:Nat) (l0_1:List (S97)) (a1_0:Int) (A1_1:Option Addr) (c1_1:Nat) (l1_1:List Int) (A2:Option Addr) (c2:Nat) (l2:List Int) (r:Bool) (w:World) (hr0_0:Kd.C (Kd.int .i64) w A0_0 l0_0.length l0_0) (hc0_0:l0_0.length≤c0_0) (hr0_1:Kd.C k97 w A0_1 l0_1.length l0_1) (hc0_1:l0_1.length≤c0_1) (hr1_1:Kd.C (Kd.int .i64) w A1_1 l1_1.length l1_1) (hc1_1:l1_1.length≤c1_1) (hr2:Kd.C (Kd.int .i64) w A2 l2.length l2) (hc2:l2.length≤c2) (h:spec_l10HasAtom.f k l0_0 l0_1 a1_0 l1_1 l2=some r) :
  Calls Try.prog 183 #[.agg #[.slice A0_0 l0_0.length c0_0,.slice A0_1 l0_1.length c0_1],.agg #[.int .i64 a1_0,.slice A1_1 l1_1.length c1_1],.slice A2 l2.length c2] w fun e w'=>e=.returned (.bool r)∧Below w.heap.size w w':=by
 have hu32:=Try.underlying32;have hu97:=Try.underlying97;have HR0_0:=qK hr0_0;have HC0_0:=qK hc0_0;clear hr0_0 hc0_0;have HR0_1:=qK hr0_1;have HC0_1:=qK hc0_1;clear hr0_1 hc0_1;have HR1_1:=qK hr1_1;have HC1_1:=qK hc1_1;clear hr1_1 hc1_1;have HR2:=qK hr2;have HC2:=qK hc2;clear hr2 hc2;have HB:=qK (Below.refl w.heap.size w);have H:(spec_l10HasAtom.l0 k l2 l0_1 (l0_1.length:Int) 0 a1_0 l1_1)=some r:=h;clear h;have H':=qK H;clear H;go_enter Try.func183,Try.ntmps183
 go_wp2_with (first|((with_reducible refine gate_dst (N:=3) rfl ?_);refine box_event ?hg (N:=3) ?hd (cs:=#[.slice A0_0 l0_0.length c0_0,.slice A0_1 l0_1.length c0_1]) (t:=32) ?hr ?_;(case hd=>rfl);(case hg=>rfl);(case hr=>(go_simp;try rfl));intro gb216 hg w4 hbox hb;have n0_:=qK (qT (by repeat (with_reducible first|exact HB.out|apply qA|apply qD|apply qO)) hb);have n1_:=qK (hbox);have n2_:=qK ((by rw [hg];exact (qZ (by repeat (with_reducible first|exact HB.out|apply qA|apply qD|apply qO))):w.heap.size≤gb216));have n3_:=qK ((by rw [hg];exact (qZ (by repeat (with_reducible first|exact HB.out|apply qA|apply qD|apply qO))):w.heap.size≤gb216));clear HB;have HB:=n0_;have BK216:=n1_;have GW216:=n2_;have GE216:=n3_;clear n0_ n1_ n2_ n3_;clear hb hbox hg)|((with_reducible refine gate_dst (N:=4) rfl ?_);refine box_event ?hg (N:=4) ?hd (cs:=#[.int .i64 a1_0,.slice A1_1 l1_1.length c1_1]) (t:=97) ?hr ?_;(case hd=>rfl);(case hg=>rfl);(case hr=>(go_simp;try rfl));intro gb217 hg w5 hbox hb;have n0_:=qK (qB (g:=gb216) (o:=_) (by (with_reducible repeat (first|refine qN ?_ _|refine qW ?_|refine qL ?_ _));exact BK216.out) hb);have n1_:=qK (qT (by repeat (with_reducible first|exact HB.out|apply qA|apply qD|apply qO|refine qS ?_ GE216.out)) hb);have n2_:=qK (hbox);have n3_:=qK ((by rw [hg];exact (qZ (by repeat (with_reducible first|exact HB.out|apply qA|apply qD|apply qO|refine qS ?_ GE216.out))):w.heap.size≤gb217));have n4_:=qK ((by rw [hg];exact (qZ (by repeat (with_reducible first|exact HB.out|apply qA|apply qD|apply qO|refine qS ?_ GE216.out))):w.heap.size≤gb217));have n5_:=qK ((by rw [hg];exact Nat.ne_of_lt (blk_lt (g:=gb216) (o:=_) (by (with_reducible repeat (first|refine qN ?_ _|refine qW ?_|refine qL ?_ _));exact BK216.out)):gb216 ≠ gb217));have n6_:=qK ((by rw [hg];exact Nat.ne_of_gt (blk_lt (g:=gb216) (o:=_) (by (with_reducible repeat (first|refine qN ?_ _|refine qW ?_|refine qL ?_ _));exact BK216.out)):gb217 ≠ gb216));clear BK216;clear HB;have BK216:=n0_;have HB:=n1_;have BK217:=n2_;have GW217:=n3_;have GE217:=n4_;have NB216_217:=n5_;have NB217_216:=n6_;clear n0_ n1_ n2_ n3_ n4_ n5_ n6_;clear hb hbox hg;have hnb6:=NB216_217.out;have hnc6:=NB217_216.out;have hcz7_0:w5.cell? ⟨gb216,0,none⟩=some (.slice A0_0 l0_0.length c0_0):=(qC BK216.out 0).trans rfl;have hcz7_1:w5.cell? ⟨gb216,1,none⟩=some (.slice A0_1 l0_1.length c0_1):=(qC BK216.out 1).trans rfl;have hfz7_0:=qF BK216.out 0;have hfz7_1:=qF BK216.out 1))
 repeat (go_quiet (first|((with_reducible refine gate_dst (N:=3) rfl ?_);refine box_event ?hg (N:=3) ?hd (cs:=#[.slice A0_0 l0_0.length c0_0,.slice A0_1 l0_1.length c0_1]) (t:=32) ?hr ?_;(case hd=>rfl);(case hg=>rfl);(case hr=>(go_simp;try rfl));intro gb216 hg w4 hbox hb;have n0_:=qK (qT (by repeat (with_reducible first|exact HB.out|apply qA|apply qD|apply qO)) hb);have n1_:=qK (hbox);have n2_:=qK ((by rw [hg];exact (qZ (by repeat (with_reducible first|exact HB.out|apply qA|apply qD|apply qO))):w.heap.size≤gb216));have n3_:=qK ((by rw [hg];exact (qZ (by repeat (with_reducible first|exact HB.out|apply qA|apply qD|apply qO))):w.heap.size≤gb216));clear HB;have HB:=n0_;have BK216:=n1_;have GW216:=n2_;have GE216:=n3_;clear n0_ n1_ n2_ n3_;clear hb hbox hg)|((with_reducible refine gate_dst (N:=4) rfl ?_);refine box_event ?hg (N:=4) ?hd (cs:=#[.int .i64 a1_0,.slice A1_1 l1_1.length c1_1]) (t:=97) ?hr ?_;(case hd=>rfl);(case hg=>rfl);(case hr=>(go_simp;try rfl));intro gb217 hg w5 hbox hb;have n0_:=qK (qB (g:=gb216) (o:=_) (by (with_reducible repeat (first|refine qN ?_ _|refine qW ?_|refine qL ?_ _));exact BK216.out) hb);have n1_:=qK (qT (by repeat (with_reducible first|exact HB.out|apply qA|apply qD|apply qO|refine qS ?_ GE216.out)) hb);have n2_:=qK (hbox);have n3_:=qK ((by rw [hg];exact (qZ (by repeat (with_reducible first|exact HB.out|apply qA|apply qD|apply qO|refine qS ?_ GE216.out))):w.heap.size≤gb217));have n4_:=qK ((by rw [hg];exact (qZ (by repeat (with_reducible first|exact HB.out|apply qA|apply qD|apply qO|refine qS ?_ GE216.out))):w.heap.size≤gb217));have n5_:=qK ((by rw [hg];exact Nat.ne_of_lt (blk_lt (g:=gb216) (o:=_) (by (with_reducible repeat (first|refine qN ?_ _|refine qW ?_|refine qL ?_ _));exact BK216.out)):gb216 ≠ gb217));have n6_:=qK ((by rw [hg];exact Nat.ne_of_gt (blk_lt (g:=gb216) (o:=_) (by (with_reducible repeat (first|refine qN ?_ _|refine qW ?_|refine qL ?_ _));exact BK216.out)):gb217 ≠ gb216));clear BK216;clear HB;have BK216:=n0_;have HB:=n1_;have BK217:=n2_;have GW217:=n3_;have GE217:=n4_;have NB216_217:=n5_;have NB217_216:=n6_;clear n0_ n1_ n2_ n3_ n4_ n5_ n6_;clear hb hbox hg;have hnb6:=NB216_217.out;have hnc6:=NB217_216.out;have hcz7_0:w5.cell? ⟨gb216,0,none⟩=some (.slice A0_0 l0_0.length c0_0):=(qC BK216.out 0).trans rfl;have hcz7_1:w5.cell? ⟨gb216,1,none⟩=some (.slice A0_1 l0_1.length c0_1):=(qC BK216.out 1).trans rfl;have hfz7_0:=qF BK216.out 0;have hfz7_1:=qF BK216.out 1));try go_wp2_with (first|((with_reducible refine gate_dst (N:=3) rfl ?_);refine box_event ?hg (N:=3) ?hd (cs:=#[.slice A0_0 l0_0.length c0_0,.slice A0_1 l0_1.length c0_1]) (t:=32) ?hr ?_;(case hd=>rfl);(case hg=>rfl);(case hr=>(go_simp;try rfl));intro gb216 hg w4 hbox hb;have n0_:=qK (qT (by repeat (with_reducible first|exact HB.out|apply qA|apply qD|apply qO)) hb);have n1_:=qK (hbox);have n2_:=qK ((by rw [hg];exact (qZ (by repeat (with_reducible first|exact HB.out|apply qA|apply qD|apply qO))):w.heap.size≤gb216));have n3_:=qK ((by rw [hg];exact (qZ (by repeat (with_reducible first|exact HB.out|apply qA|apply qD|apply qO))):w.heap.size≤gb216));clear HB;have HB:=n0_;have BK216:=n1_;have GW216:=n2_;have GE216:=n3_;clear n0_ n1_ n2_ n3_;clear hb hbox hg)|((with_reducible refine gate_dst (N:=4) rfl ?_);refine box_event ?hg (N:=4) ?hd (cs:=#[.int .i64 a1_0,.slice A1_1 l1_1.length c1_1]) (t:=97) ?hr ?_;(case hd=>rfl);(case hg=>rfl);(case hr=>(go_simp;try rfl));intro gb217 hg w5 hbox hb;have n0_:=qK (qB (g:=gb216) (o:=_) (by (with_reducible repeat (first|refine qN ?_ _|refine qW ?_|refine qL ?_ _));exact BK216.out) hb);have n1_:=qK (qT (by repeat (with_reducible first|exact HB.out|apply qA|apply qD|apply qO|refine qS ?_ GE216.out)) hb);have n2_:=qK (hbox);have n3_:=qK ((by rw [hg];exact (qZ (by repeat (with_reducible first|exact HB.out|apply qA|apply qD|apply qO|refine qS ?_ GE216.out))):w.heap.size≤gb217));have n4_:=qK ((by rw [hg];exact (qZ (by repeat (with_reducible first|exact HB.out|apply qA|apply qD|apply qO|refine qS ?_ GE216.out))):w.heap.size≤gb217));have n5_:=qK ((by rw [hg];exact Nat.ne_of_lt (blk_lt (g:=gb216) (o:=_) (by (with_reducible repeat (first|refine qN ?_ _|refine qW ?_|refine qL ?_ _));exact BK216.out)):gb216 ≠ gb217));have n6_:=qK ((by rw [hg];exact Nat.ne_of_gt (blk_lt (g:=gb216) (o:=_) (by (with_reducible repeat (first|refine qN ?_ _|refine qW ?_|refine qL ?_ _));exact BK216.out)):gb217 ≠ gb216));clear BK216;clear HB;have BK216:=n0_;have HB:=n1_;have BK217:=n2_;have GW217:=n3_;have GE217:=n4_;have NB216_217:=n5_;have NB217_216:=n6_;clear n0_ n1_ n2_ n3_ n4_ n5_ n6_;clear hb hbox hg;have hnb6:=NB216_217.out;have hnc6:=NB217_216.out;have hcz7_0:w5.cell? ⟨gb216,0,none⟩=some (.slice A0_0 l0_0.length c0_0):=(qC BK216.out 0).trans rfl;have hcz7_1:w5.cell? ⟨gb216,1,none⟩=some (.slice A0_1 l0_1.length c0_1):=(qC BK216.out 1).trans rfl;have hfz7_0:=qF BK216.out 0;have hfz7_1:=qF BK216.out 1)))
 go_loopg [15] k (fun kq v15 w'=>∃ (x15_1:Int),v15=.int .i64 x15_1∧Aside0 (spec_l10HasAtom.l0 kq l2 l0_1 (l0_1.length:Int) x15_1 a1_0 l1_1=some r)∧Aside0 (kq≤k)∧Aside0 (w'.heap[gb216]?=some (.cells #[(.slice A0_0 l0_0.length c0_0),(.slice A0_1 l0_1.length c0_1)] 32 (0,0)))∧Aside0 (w'.heap[gb217]?=some (.cells #[.int .i64 a1_0,(.slice A1_1 l1_1.length c1_1)] 97 (0,0)))∧Aside0 (Below w.heap.size w w'))
 case atStart=>exact ⟨(0),(by first|rfl|(simp;done)|(simp [*];done)),H',⟨Nat.le_refl _⟩,⟨by (with_reducible repeat (first|refine qN ?_ _|refine qW ?_|refine qL ?_ _));exact BK216.out⟩,⟨by (with_reducible repeat (first|refine qN ?_ _|refine qW ?_|refine qL ?_ _));exact BK217.out⟩,⟨by repeat (first|(with_reducible first|exact HB.out|apply qA|apply qD|apply qO|refine qS ?_ GE216.out|refine qS ?_ GE217.out)|exact HB.out)⟩⟩
 case round =>
  clear H';try clear c1
  try clear c2
  try clear p2
  try clear c6
  try clear hcz7_0
  try clear hcz7_1
  try clear hfz7_0
  try clear hfz7_1
  obtain ⟨x15_1,rfl,HA,HK1,BK216,BK217,HB⟩:=hrel;cases gk with
  | zero=>exact absurd HA.out (by simp [spec_l10HasAtom.l0])
  | succ k1 =>
   have H:=HA.out;clear HA;simp only [spec_l10HasAtom.l0] at H;by_cases c8:x15_1 < (l0_1.length:Int)
   ·rw [if_pos c8] at H;have c8b0:decide (x15_1 < (l0_1.length:Int))=true:=decide_eq_true c8;clear c8;by_cases c9:0≤x15_1
    ·rw [if_pos c9] at H;have c9b0:decide (0≤x15_1)=true:=decide_eq_true c9;clear c9;by_cases c10:x15_1 < (l0_1.length:Int)
     ·rw [if_pos c10] at H;have c10b0:decide (x15_1 < (l0_1.length:Int))=true:=decide_eq_true c10;clear c10;by_cases c11:((rd_T97 l0_1 x15_1).f0)=a1_0
      ·rw [if_pos c11] at H;have c11b0:(((rd_T97 l0_1 x15_1).f0) == a1_0)=true:=beq_iff_eq.mpr c11;have c11b1:(((rd_T97 l0_1 x15_1).f0) != a1_0)=false:=bne_eq_false_iff_eq.mpr c11;clear c11;have H':=qK H;clear H;have p218:0≤(x15_1:Int):=of_decide_eq_true (by first|(with_reducible assumption)|assumption);have q218:x15_1 < (l0_1.length:Int):=of_decide_eq_true (by first|(with_reducible assumption)|assumption);obtain ⟨ad218,A218_1,c218_1,e218,hx218_0,hx218_1,hl218_1,hi218_1⟩:=at_T97 HR0_1.out x15_1 p218 q218;cases e218
       replace hx218_0:=(HB.out.cell (World.block_lt_of_cell? w _ hx218_0)).trans hx218_0;replace hx218_1:=(HB.out.cell (World.block_lt_of_cell? w _ hx218_1)).trans hx218_1;have HR218_1:=qK hi218_1;have HC218_1:=qK hl218_1;clear hi218_1 hl218_1;replace p218:=eq_true p218;replace q218:=eq_true q218;go_wp2_with (first|((with_reducible refine gate_dst (N:=8) rfl ?_);refine box_event ?hg (N:=8) ?hd (cs:=#[.int .i64 0,.slice none 0 0]) (t:=97) ?hr ?_;(case hd=>rfl);(case hg=>rfl);(case hr=>(go_simp;try rfl));intro gb219 hg w12 hbox hb;have n0_:=qK (qB (g:=gb216) (o:=_) (by (with_reducible repeat (first|refine qN ?_ _|refine qW ?_|refine qL ?_ _));exact BK216.out) hb);have n1_:=qK (qB (g:=gb217) (o:=_) (by (with_reducible repeat (first|refine qN ?_ _|refine qW ?_|refine qL ?_ _));exact BK217.out) hb);have n2_:=qK (qT (by repeat (with_reducible first|exact HB.out|apply qA|apply qD|apply qO|refine qS ?_ GE216.out|refine qS ?_ GE217.out)) hb);have n3_:=qK (hbox);have n4_:=qK ((by rw [hg];exact (qZ (by repeat (with_reducible first|exact HB.out|apply qA|apply qD|apply qO|refine qS ?_ GE216.out|refine qS ?_ GE217.out))):w.heap.size≤gb219));have n5_:=qK ((by rw [hg];exact (qZ (by repeat (with_reducible first|exact HB.out|apply qA|apply qD|apply qO|refine qS ?_ GE216.out|refine qS ?_ GE217.out))):w.heap.size≤gb219));have n6_:=qK ((by rw [hg];exact Nat.ne_of_lt (blk_lt (g:=gb216) (o:=_) (by (with_reducible repeat (first|refine qN ?_ _|refine qW ?_|refine qL ?_ _));exact BK216.out)):gb216 ≠ gb219));have n7_:=qK ((by rw [hg];exact Nat.ne_of_gt (blk_lt (g:=gb216) (o:=_) (by (with_reducible repeat (first|refine qN ?_ _|refine qW ?_|refine qL ?_ _));exact BK216.out)):gb219 ≠ gb216));have n8_:=qK ((by rw [hg];exact Nat.ne_of_lt (blk_lt (g:=gb217) (o:=_) (by (with_reducible repeat (first|refine qN ?_ _|refine qW ?_|refine qL ?_ _));exact BK217.out)):gb217 ≠ gb219));have n9_:=qK ((by rw [hg];exact Nat.ne_of_gt (blk_lt (g:=gb217) (o:=_) (by (with_reducible repeat (first|refine qN ?_ _|refine qW ?_|refine qL ?_ _));exact BK217.out)):gb219 ≠ gb217));clear BK216;clear BK217;clear HB;have BK216:=n0_;have BK217:=n1_;have HB:=n2_;have BK219:=n3_;have GW219:=n4_;have GE219:=n5_;have NB216_219:=n6_;have NB219_216:=n7_;have NB217_219:=n8_;have NB219_217:=n9_;clear n0_ n1_ n2_ n3_ n4_ n5_ n6_ n7_ n8_ n9_;clear hb hbox hg;have hnb13:=NB219_216.out;have hnc13:=NB216_219.out;have hnb14:=NB219_217.out;have hnc14:=NB217_219.out;have hcz15_0:w12.cell? ⟨gb219,0,none⟩=some (.int .i64 0):=(qC BK219.out 0).trans rfl;have hcz15_1:w12.cell? ⟨gb219,1,none⟩=some (.slice none 0 0):=(qC BK219.out 1).trans rfl;have hfz15_0:=qF BK219.out 0;have hfz15_1:=qF BK219.out 1;have hnb16:=NB217_216.out;have hnc16:=NB216_217.out;have hcz17_0:w12.cell? ⟨gb217,0,none⟩=some (.int .i64 a1_0):=(qC BK217.out 0).trans rfl;have hcz17_1:w12.cell? ⟨gb217,1,none⟩=some (.slice A1_1 l1_1.length c1_1):=(qC BK217.out 1).trans rfl;have hfz17_0:=qF BK217.out 0;have hfz17_1:=qF BK217.out 1))
       repeat (go_quiet (first|((with_reducible refine gate_dst (N:=8) rfl ?_);refine box_event ?hg (N:=8) ?hd (cs:=#[.int .i64 0,.slice none 0 0]) (t:=97) ?hr ?_;(case hd=>rfl);(case hg=>rfl);(case hr=>(go_simp;try rfl));intro gb219 hg w12 hbox hb;have n0_:=qK (qB (g:=gb216) (o:=_) (by (with_reducible repeat (first|refine qN ?_ _|refine qW ?_|refine qL ?_ _));exact BK216.out) hb);have n1_:=qK (qB (g:=gb217) (o:=_) (by (with_reducible repeat (first|refine qN ?_ _|refine qW ?_|refine qL ?_ _));exact BK217.out) hb);have n2_:=qK (qT (by repeat (with_reducible first|exact HB.out|apply qA|apply qD|apply qO|refine qS ?_ GE216.out|refine qS ?_ GE217.out)) hb);have n3_:=qK (hbox);have n4_:=qK ((by rw [hg];exact (qZ (by repeat (with_reducible first|exact HB.out|apply qA|apply qD|apply qO|refine qS ?_ GE216.out|refine qS ?_ GE217.out))):w.heap.size≤gb219));have n5_:=qK ((by rw [hg];exact (qZ (by repeat (with_reducible first|exact HB.out|apply qA|apply qD|apply qO|refine qS ?_ GE216.out|refine qS ?_ GE217.out))):w.heap.size≤gb219));have n6_:=qK ((by rw [hg];exact Nat.ne_of_lt (blk_lt (g:=gb216) (o:=_) (by (with_reducible repeat (first|refine qN ?_ _|refine qW ?_|refine qL ?_ _));exact BK216.out)):gb216 ≠ gb219));have n7_:=qK ((by rw [hg];exact Nat.ne_of_gt (blk_lt (g:=gb216) (o:=_) (by (with_reducible repeat (first|refine qN ?_ _|refine qW ?_|refine qL ?_ _));exact BK216.out)):gb219 ≠ gb216));have n8_:=qK ((by rw [hg];exact Nat.ne_of_lt (blk_lt (g:=gb217) (o:=_) (by (with_reducible repeat (first|refine qN ?_ _|refine qW ?_|refine qL ?_ _));exact BK217.out)):gb217 ≠ gb219));have n9_:=qK ((by rw [hg];exact Nat.ne_of_gt (blk_lt (g:=gb217) (o:=_) (by (with_reducible repeat (first|refine qN ?_ _|refine qW ?_|refine qL ?_ _));exact BK217.out)):gb219 ≠ gb217));clear BK216;clear BK217;clear HB;have BK216:=n0_;have BK217:=n1_;have HB:=n2_;have BK219:=n3_;have GW219:=n4_;have GE219:=n5_;have NB216_219:=n6_;have NB219_216:=n7_;have NB217_219:=n8_;have NB219_217:=n9_;clear n0_ n1_ n2_ n3_ n4_ n5_ n6_ n7_ n8_ n9_;clear hb hbox hg;have hnb13:=NB219_216.out;have hnc13:=NB216_219.out;have hnb14:=NB219_217.out;have hnc14:=NB217_219.out;have hcz15_0:w12.cell? ⟨gb219,0,none⟩=some (.int .i64 0):=(qC BK219.out 0).trans rfl;have hcz15_1:w12.cell? ⟨gb219,1,none⟩=some (.slice none 0 0):=(qC BK219.out 1).trans rfl;have hfz15_0:=qF BK219.out 0;have hfz15_1:=qF BK219.out 1;have hnb16:=NB217_216.out;have hnc16:=NB216_217.out;have hcz17_0:w12.cell? ⟨gb217,0,none⟩=some (.int .i64 a1_0):=(qC BK217.out 0).trans rfl;have hcz17_1:w12.cell? ⟨gb217,1,none⟩=some (.slice A1_1 l1_1.length c1_1):=(qC BK217.out 1).trans rfl;have hfz17_0:=qF BK217.out 0;have hfz17_1:=qF BK217.out 1));try go_wp2_with (first|((with_reducible refine gate_dst (N:=8) rfl ?_);refine box_event ?hg (N:=8) ?hd (cs:=#[.int .i64 0,.slice none 0 0]) (t:=97) ?hr ?_;(case hd=>rfl);(case hg=>rfl);(case hr=>(go_simp;try rfl));intro gb219 hg w12 hbox hb;have n0_:=qK (qB (g:=gb216) (o:=_) (by (with_reducible repeat (first|refine qN ?_ _|refine qW ?_|refine qL ?_ _));exact BK216.out) hb);have n1_:=qK (qB (g:=gb217) (o:=_) (by (with_reducible repeat (first|refine qN ?_ _|refine qW ?_|refine qL ?_ _));exact BK217.out) hb);have n2_:=qK (qT (by repeat (with_reducible first|exact HB.out|apply qA|apply qD|apply qO|refine qS ?_ GE216.out|refine qS ?_ GE217.out)) hb);have n3_:=qK (hbox);have n4_:=qK ((by rw [hg];exact (qZ (by repeat (with_reducible first|exact HB.out|apply qA|apply qD|apply qO|refine qS ?_ GE216.out|refine qS ?_ GE217.out))):w.heap.size≤gb219));have n5_:=qK ((by rw [hg];exact (qZ (by repeat (with_reducible first|exact HB.out|apply qA|apply qD|apply qO|refine qS ?_ GE216.out|refine qS ?_ GE217.out))):w.heap.size≤gb219));have n6_:=qK ((by rw [hg];exact Nat.ne_of_lt (blk_lt (g:=gb216) (o:=_) (by (with_reducible repeat (first|refine qN ?_ _|refine qW ?_|refine qL ?_ _));exact BK216.out)):gb216 ≠ gb219));have n7_:=qK ((by rw [hg];exact Nat.ne_of_gt (blk_lt (g:=gb216) (o:=_) (by (with_reducible repeat (first|refine qN ?_ _|refine qW ?_|refine qL ?_ _));exact BK216.out)):gb219 ≠ gb216));have n8_:=qK ((by rw [hg];exact Nat.ne_of_lt (blk_lt (g:=gb217) (o:=_) (by (with_reducible repeat (first|refine qN ?_ _|refine qW ?_|refine qL ?_ _));exact BK217.out)):gb217 ≠ gb219));have n9_:=qK ((by rw [hg];exact Nat.ne_of_gt (blk_lt (g:=gb217) (o:=_) (by (with_reducible repeat (first|refine qN ?_ _|refine qW ?_|refine qL ?_ _));exact BK217.out)):gb219 ≠ gb217));clear BK216;clear BK217;clear HB;have BK216:=n0_;have BK217:=n1_;have HB:=n2_;have BK219:=n3_;have GW219:=n4_;have GE219:=n5_;have NB216_219:=n6_;have NB219_216:=n7_;have NB217_219:=n8_;have NB219_217:=n9_;clear n0_ n1_ n2_ n3_ n4_ n5_ n6_ n7_ n8_ n9_;clear hb hbox hg;have hnb13:=NB219_216.out;have hnc13:=NB216_219.out;have hnb14:=NB219_217.out;have hnc14:=NB217_219.out;have hcz15_0:w12.cell? ⟨gb219,0,none⟩=some (.int .i64 0):=(qC BK219.out 0).trans rfl;have hcz15_1:w12.cell? ⟨gb219,1,none⟩=some (.slice none 0 0):=(qC BK219.out 1).trans rfl;have hfz15_0:=qF BK219.out 0;have hfz15_1:=qF BK219.out 1;have hnb16:=NB217_216.out;have hnc16:=NB216_217.out;have hcz17_0:w12.cell? ⟨gb217,0,none⟩=some (.int .i64 a1_0):=(qC BK217.out 0).trans rfl;have hcz17_1:w12.cell? ⟨gb217,1,none⟩=some (.slice A1_1 l1_1.length c1_1):=(qC BK217.out 1).trans rfl;have hfz17_0:=qF BK217.out 0;have hfz17_1:=qF BK217.out 1)))
       go_loopg [9,27] k1 (fun kq v9 v27 w'=>∃ (x9_2:Bool) (x27_2:Int),v9=.bool x9_2∧v27=.int .i64 x27_2∧Aside0 (spec_l10HasAtom.l1 kq l2 x9_2 l0_1 (l0_1.length:Int) x15_1 l1_1 (l1_1.length:Int) x27_2 a1_0 l1_1 ((rd_T97 l0_1 x15_1).f0) ((rd_T97 l0_1 x15_1).f1)=some r)∧Aside0 (kq≤k1)∧Aside0 (w'.heap[gb216]?=some (.cells #[(.slice A0_0 l0_0.length c0_0),(.slice (some ad218) l0_1.length c0_1)] 32 (0,0)))∧Aside0 (w'.heap[gb217]?=some (.cells #[.int .i64 a1_0,(.slice A1_1 l1_1.length c1_1)] 97 (0,0)))∧Aside0 (w'.heap[gb219]?=some (.cells #[.int .i64 ((rd_T97 l0_1 x15_1).f0),(.slice A218_1 ((rd_T97 l0_1 x15_1).f1).length c218_1)] 97 (0,0)))∧Aside0 (Below w.heap.size w w'))
       case atStart=>exact ⟨(true),(0),(by first|rfl|(simp;done)|(simp [*];done)),(by first|rfl|(simp;done)|(simp [*];done)),H',⟨Nat.le_refl _⟩,⟨by (with_reducible repeat (first|refine qN ?_ _|refine qW ?_|refine qL ?_ _));refine qR ?_ NB216_219.out _;(with_reducible repeat (first|refine qN ?_ _|refine qW ?_|refine qL ?_ _));refine qR ?_ NB216_219.out _;(with_reducible repeat (first|refine qN ?_ _|refine qW ?_|refine qL ?_ _));exact BK216.out⟩,⟨by (with_reducible repeat (first|refine qN ?_ _|refine qW ?_|refine qL ?_ _));refine qR ?_ NB217_219.out _;(with_reducible repeat (first|refine qN ?_ _|refine qW ?_|refine qL ?_ _));refine qR ?_ NB217_219.out _;(with_reducible repeat (first|refine qN ?_ _|refine qW ?_|refine qL ?_ _));exact BK217.out⟩,⟨by (with_reducible repeat (first|refine qN ?_ _|refine qW ?_|refine qL ?_ _));refine qP (cs:=#[.int .i64 ((rd_T97 l0_1 x15_1).f0),.slice none 0 0]) ?_ 1 _ rfl;(with_reducible repeat (first|refine qN ?_ _|refine qW ?_|refine qL ?_ _));refine qP (cs:=#[.int .i64 0,.slice none 0 0]) ?_ 0 _ rfl;(with_reducible repeat (first|refine qN ?_ _|refine qW ?_|refine qL ?_ _));exact BK219.out⟩,⟨by repeat (first|(with_reducible first|exact HB.out|apply qA|apply qD|apply qO|refine qS ?_ GE216.out|refine qS ?_ GE217.out|refine qS ?_ GE219.out)|exact HB.out)⟩⟩
       case round =>
        clear H';try clear c1
        try clear c2
        try clear p2
        try clear q2
        try clear hx2
        try clear c6
        try clear c8
        try clear c8b0
        try clear c9
        try clear c9b0
        try clear c10
        try clear c10b0
        try clear c11
        try clear c11b0
        try clear c11b1
        try clear c13
        try clear c14
        try clear c16
        try clear hcz15_0
        try clear hcz15_1
        try clear hcz17_0
        try clear hcz17_1
        try clear hcz7_0
        try clear hcz7_1
        try clear hfz15_0
        try clear hfz15_1
        try clear hfz17_0
        try clear hfz17_1
        try clear hfz7_0
        try clear hfz7_1
        try clear hx218_0
        try clear hx218_1
        try clear p2
        try clear p218
        try clear q218
        obtain ⟨x9_2,x27_2,rfl,rfl,HA,HK2,BK216,BK217,BK219,HB⟩:=hrel;cases gk with
        | zero=>exact absurd HA.out (by simp [spec_l10HasAtom.l1])
        | succ k2 =>
         have H:=HA.out;clear HA;simp only [spec_l10HasAtom.l1] at H;by_cases c18:x27_2 < (l1_1.length:Int)
         ·rw [if_pos c18] at H;have c18b0:decide (x27_2 < (l1_1.length:Int))=true:=decide_eq_true c18;clear c18;by_cases c19:0≤x27_2
          ·rw [if_pos c19] at H;have c19b0:decide (0≤x27_2)=true:=decide_eq_true c19;clear c19;by_cases c20:x27_2 < (l1_1.length:Int)
           ·rw [if_pos c20] at H;have c20b0:decide (x27_2 < (l1_1.length:Int))=true:=decide_eq_true c20;clear c20;by_cases c21:(rd l1_1 x27_2) < (l2.length:Int)
            ·rw [if_pos c21] at H;have c21b0:decide ((rd l1_1 x27_2) < (l2.length:Int))=true:=decide_eq_true c21;clear c21;by_cases c22:0≤(rd l1_1 x27_2)
             ·rw [if_pos c22] at H;have c22b0:decide (0≤(rd l1_1 x27_2))=true:=decide_eq_true c22;clear c22;by_cases c23:x27_2 < (((rd_T97 l0_1 x15_1).f1).length:Int)
              ·rw [if_pos c23] at H;have c23b0:decide (x27_2 < (((rd_T97 l0_1 x15_1).f1).length:Int))=true:=decide_eq_true c23;clear c23;by_cases c24:(rd l2 (rd l1_1 x27_2))=(rd ((rd_T97 l0_1 x15_1).f1) x27_2)
               ·rw [if_pos c24] at H;have c24b0:((rd l2 (rd l1_1 x27_2)) == (rd ((rd_T97 l0_1 x15_1).f1) x27_2))=true:=beq_iff_eq.mpr c24;have c24b1:((rd l2 (rd l1_1 x27_2)) != (rd ((rd_T97 l0_1 x15_1).f1) x27_2))=false:=bne_eq_false_iff_eq.mpr c24;clear c24;have H':=qK H;clear H;have p220:0≤(x27_2:Int):=of_decide_eq_true (by first|(with_reducible assumption)|assumption);have q220:x27_2 < (l1_1.length:Int):=of_decide_eq_true (by first|(with_reducible assumption)|assumption);obtain ⟨ad220,e220,hx220_0⟩:=Kd.at_int HR1_1.out x27_2 p220 q220;cases e220
                replace hx220_0:=(HB.out.cell (World.block_lt_of_cell? w _ hx220_0)).trans hx220_0;replace p220:=eq_true p220;replace q220:=eq_true q220;have p221:0≤((rd l1_1 x27_2):Int):=of_decide_eq_true (by first|(with_reducible assumption)|assumption);have q221:(rd l1_1 x27_2) < (l2.length:Int):=of_decide_eq_true (by first|(with_reducible assumption)|assumption);obtain ⟨ad221,e221,hx221_0⟩:=Kd.at_int HR2.out (rd l1_1 x27_2) p221 q221;cases e221
                replace hx221_0:=(HB.out.cell (World.block_lt_of_cell? w _ hx221_0)).trans hx221_0;replace p221:=eq_true p221;replace q221:=eq_true q221;have hnb25:=NB219_216.out;have hnc25:=NB216_219.out;have hnb26:=NB219_217.out;have hnc26:=NB217_219.out;have hcz27_0:wr.cell? ⟨gb219,0,none⟩=some (.int .i64 ((rd_T97 l0_1 x15_1).f0)):=(qC BK219.out 0).trans rfl;have hcz27_1:wr.cell? ⟨gb219,1,none⟩=some (.slice A218_1 ((rd_T97 l0_1 x15_1).f1).length c218_1):=(qC BK219.out 1).trans rfl;have hfz27_0:=qF BK219.out 0;have hfz27_1:=qF BK219.out 1;have p222:0≤(x27_2:Int):=of_decide_eq_true (by first|(with_reducible assumption)|assumption);have q222:x27_2 < (((rd_T97 l0_1 x15_1).f1).length:Int):=of_decide_eq_true (by first|(with_reducible assumption)|assumption);obtain ⟨ad222,e222,hx222_0⟩:=Kd.at_int HR218_1.out x27_2 p222 q222;cases e222
                replace hx222_0:=(HB.out.cell (World.block_lt_of_cell? w _ hx222_0)).trans hx222_0;replace p222:=eq_true p222;replace q222:=eq_true q222;go_wp2
                repeat (go_quiet (fail);try go_wp2)
                go_roundg k2
                case measure=>have:=HK1.out;have:=HK2.out;omega
                case rel=>exact ⟨(x9_2),(wrap64 (x27_2 + 1)),(by first|rfl|(simp;done)|(simp [*];done)),(by first|rfl|(simp;done)|(simp [*];done)),H',⟨by have:=HK1.out;have:=HK2.out;omega⟩,⟨by (with_reducible repeat (first|refine qN ?_ _|refine qW ?_|refine qL ?_ _));exact BK216.out⟩,⟨by (with_reducible repeat (first|refine qN ?_ _|refine qW ?_|refine qL ?_ _));exact BK217.out⟩,⟨by (with_reducible repeat (first|refine qN ?_ _|refine qW ?_|refine qL ?_ _));exact BK219.out⟩,⟨by repeat (first|(with_reducible first|exact HB.out|apply qA|apply qD|apply qO|refine qS ?_ GE216.out|refine qS ?_ GE217.out|refine qS ?_ GE219.out)|exact HB.out)⟩⟩
               ·rw [if_neg c24] at H;have c24b0:((rd l2 (rd l1_1 x27_2)) == (rd ((rd_T97 l0_1 x15_1).f1) x27_2))=false:=beq_eq_false_iff_ne.mpr c24;have c24b1:((rd l2 (rd l1_1 x27_2)) != (rd ((rd_T97 l0_1 x15_1).f1) x27_2))=true:=bne_iff_ne.mpr c24;have H':=qK H;clear H;have p220:0≤(x27_2:Int):=of_decide_eq_true (by first|(with_reducible assumption)|assumption);have q220:x27_2 < (l1_1.length:Int):=of_decide_eq_true (by first|(with_reducible assumption)|assumption);obtain ⟨ad220,e220,hx220_0⟩:=Kd.at_int HR1_1.out x27_2 p220 q220;cases e220
                replace hx220_0:=(HB.out.cell (World.block_lt_of_cell? w _ hx220_0)).trans hx220_0;replace p220:=eq_true p220;replace q220:=eq_true q220;have p221:0≤((rd l1_1 x27_2):Int):=of_decide_eq_true (by first|(with_reducible assumption)|assumption);have q221:(rd l1_1 x27_2) < (l2.length:Int):=of_decide_eq_true (by first|(with_reducible assumption)|assumption);obtain ⟨ad221,e221,hx221_0⟩:=Kd.at_int HR2.out (rd l1_1 x27_2) p221 q221;cases e221
                replace hx221_0:=(HB.out.cell (World.block_lt_of_cell? w _ hx221_0)).trans hx221_0;replace p221:=eq_true p221;replace q221:=eq_true q221;have hnb28:=NB219_216.out;have hnc28:=NB216_219.out;have hnb29:=NB219_217.out;have hnc29:=NB217_219.out;have hcz30_0:wr.cell? ⟨gb219,0,none⟩=some (.int .i64 ((rd_T97 l0_1 x15_1).f0)):=(qC BK219.out 0).trans rfl;have hcz30_1:wr.cell? ⟨gb219,1,none⟩=some (.slice A218_1 ((rd_T97 l0_1 x15_1).f1).length c218_1):=(qC BK219.out 1).trans rfl;have hfz30_0:=qF BK219.out 0;have hfz30_1:=qF BK219.out 1;have p222:0≤(x27_2:Int):=of_decide_eq_true (by first|(with_reducible assumption)|assumption);have q222:x27_2 < (((rd_T97 l0_1 x15_1).f1).length:Int):=of_decide_eq_true (by first|(with_reducible assumption)|assumption);obtain ⟨ad222,e222,hx222_0⟩:=Kd.at_int HR218_1.out x27_2 p222 q222;cases e222
                replace hx222_0:=(HB.out.cell (World.block_lt_of_cell? w _ hx222_0)).trans hx222_0;replace p222:=eq_true p222;replace q222:=eq_true q222;go_wp2
                repeat (go_quiet (fail);try go_wp2)
                go_roundg k2
                case measure=>have:=HK1.out;have:=HK2.out;omega
                case rel=>exact ⟨(false),(wrap64 (x27_2 + 1)),(by first|rfl|(simp;done)|(simp [*];done)),(by first|rfl|(simp;done)|(simp [*];done)),H',⟨by have:=HK1.out;have:=HK2.out;omega⟩,⟨by (with_reducible repeat (first|refine qN ?_ _|refine qW ?_|refine qL ?_ _));exact BK216.out⟩,⟨by (with_reducible repeat (first|refine qN ?_ _|refine qW ?_|refine qL ?_ _));exact BK217.out⟩,⟨by (with_reducible repeat (first|refine qN ?_ _|refine qW ?_|refine qL ?_ _));exact BK219.out⟩,⟨by repeat (first|(with_reducible first|exact HB.out|apply qA|apply qD|apply qO|refine qS ?_ GE216.out|refine qS ?_ GE217.out|refine qS ?_ GE219.out)|exact HB.out)⟩⟩
              ·rw [if_neg c23] at H;exact absurd H (by simp)
             ·rw [if_neg c22] at H;exact absurd H (by simp)
            ·rw [if_neg c21] at H;have c21b0:decide ((rd l1_1 x27_2) < (l2.length:Int))=false:=decide_eq_false c21;clear c21;have H':=qK H;clear H;have p220:0≤(x27_2:Int):=of_decide_eq_true (by first|(with_reducible assumption)|assumption);have q220:x27_2 < (l1_1.length:Int):=of_decide_eq_true (by first|(with_reducible assumption)|assumption);obtain ⟨ad220,e220,hx220_0⟩:=Kd.at_int HR1_1.out x27_2 p220 q220;cases e220
             replace hx220_0:=(HB.out.cell (World.block_lt_of_cell? w _ hx220_0)).trans hx220_0;replace p220:=eq_true p220;replace q220:=eq_true q220;go_wp2
             repeat (go_quiet (fail);try go_wp2)
             go_roundg k2
             case measure=>have:=HK1.out;have:=HK2.out;omega
             case rel=>exact ⟨(x9_2),(wrap64 (x27_2 + 1)),(by first|rfl|(simp;done)|(simp [*];done)),(by first|rfl|(simp;done)|(simp [*];done)),H',⟨by have:=HK1.out;have:=HK2.out;omega⟩,⟨by (with_reducible repeat (first|refine qN ?_ _|refine qW ?_|refine qL ?_ _));exact BK216.out⟩,⟨by (with_reducible repeat (first|refine qN ?_ _|refine qW ?_|refine qL ?_ _));exact BK217.out⟩,⟨by (with_reducible repeat (first|refine qN ?_ _|refine qW ?_|refine qL ?_ _));exact BK219.out⟩,⟨by repeat (first|(with_reducible first|exact HB.out|apply qA|apply qD|apply qO|refine qS ?_ GE216.out|refine qS ?_ GE217.out|refine qS ?_ GE219.out)|exact HB.out)⟩⟩
           ·rw [if_neg c20] at H;exact absurd H (by simp)
          ·rw [if_neg c19] at H;exact absurd H (by simp)
         ·rw [if_neg c18] at H;have c18b0:decide (x27_2 < (l1_1.length:Int))=false:=decide_eq_false c18;clear c18;by_cases c31:x9_2=true
          ·subst c31;have H1:(some true)=some r:=by rw [if_pos rfl] at H;exact H
           clear H;have H:=H1;clear H1;obtain rfl:=Option.some.inj H;go_wp2
           repeat (go_quiet (fail);try go_wp2)
           go_ret
           exact ⟨by first|rfl|(simp [errW_none,errW_some] <;> rfl)|(simp [*,errW_none,errW_some] <;> rfl),by repeat (first|(with_reducible first|exact HB.out|apply qA|apply qD|apply qO|refine qS ?_ GE216.out|refine qS ?_ GE217.out|refine qS ?_ GE219.out)|exact HB.out)⟩
          ·replace c31:=Bool.eq_false_iff.mpr c31;subst c31;have H1:(spec_l10HasAtom.l0 k2 l2 l0_1 (l0_1.length:Int) (wrap64 (x15_1 + 1)) a1_0 l1_1)=some r:=by rw [if_neg (show ¬ (false=true) by decide)] at H;exact H
           clear H;have H:=H1;clear H1;have H':=qK H;clear H;go_wp2
           repeat (go_quiet (fail);try go_wp2)
           go_roundg k2
           case measure=>have:=HK1.out;have:=HK2.out;omega
           case rel=>exact ⟨(wrap64 (x15_1 + 1)),(by first|rfl|(simp;done)|(simp [*];done)),H',⟨by have:=HK1.out;have:=HK2.out;omega⟩,⟨by (with_reducible repeat (first|refine qN ?_ _|refine qW ?_|refine qL ?_ _));exact BK216.out⟩,⟨by (with_reducible repeat (first|refine qN ?_ _|refine qW ?_|refine qL ?_ _));exact BK217.out⟩,⟨by repeat (first|(with_reducible first|exact HB.out|apply qA|apply qD|apply qO|refine qS ?_ GE216.out|refine qS ?_ GE217.out|refine qS ?_ GE219.out)|exact HB.out)⟩⟩
      ·rw [if_neg c11] at H;have c11b0:(((rd_T97 l0_1 x15_1).f0) == a1_0)=false:=beq_eq_false_iff_ne.mpr c11;have c11b1:(((rd_T97 l0_1 x15_1).f0) != a1_0)=true:=bne_iff_ne.mpr c11;have H':=qK H;clear H;have p218:0≤(x15_1:Int):=of_decide_eq_true (by first|(with_reducible assumption)|assumption);have q218:x15_1 < (l0_1.length:Int):=of_decide_eq_true (by first|(with_reducible assumption)|assumption);obtain ⟨ad218,A218_1,c218_1,e218,hx218_0,hx218_1,hl218_1,hi218_1⟩:=at_T97 HR0_1.out x15_1 p218 q218;cases e218
       replace hx218_0:=(HB.out.cell (World.block_lt_of_cell? w _ hx218_0)).trans hx218_0;replace hx218_1:=(HB.out.cell (World.block_lt_of_cell? w _ hx218_1)).trans hx218_1;have HR218_1:=qK hi218_1;have HC218_1:=qK hl218_1;clear hi218_1 hl218_1;replace p218:=eq_true p218;replace q218:=eq_true q218;go_wp2_with (first|((with_reducible refine gate_dst (N:=8) rfl ?_);refine box_event ?hg (N:=8) ?hd (cs:=#[.int .i64 0,.slice none 0 0]) (t:=97) ?hr ?_;(case hd=>rfl);(case hg=>rfl);(case hr=>(go_simp;try rfl));intro gb219 hg w32 hbox hb;have n0_:=qK (qB (g:=gb216) (o:=_) (by (with_reducible repeat (first|refine qN ?_ _|refine qW ?_|refine qL ?_ _));exact BK216.out) hb);have n1_:=qK (qB (g:=gb217) (o:=_) (by (with_reducible repeat (first|refine qN ?_ _|refine qW ?_|refine qL ?_ _));exact BK217.out) hb);have n2_:=qK (qT (by repeat (with_reducible first|exact HB.out|apply qA|apply qD|apply qO|refine qS ?_ GE216.out|refine qS ?_ GE217.out)) hb);have n3_:=qK (hbox);have n4_:=qK ((by rw [hg];exact (qZ (by repeat (with_reducible first|exact HB.out|apply qA|apply qD|apply qO|refine qS ?_ GE216.out|refine qS ?_ GE217.out))):w.heap.size≤gb219));have n5_:=qK ((by rw [hg];exact (qZ (by repeat (with_reducible first|exact HB.out|apply qA|apply qD|apply qO|refine qS ?_ GE216.out|refine qS ?_ GE217.out))):w.heap.size≤gb219));have n6_:=qK ((by rw [hg];exact Nat.ne_of_lt (blk_lt (g:=gb216) (o:=_) (by (with_reducible repeat (first|refine qN ?_ _|refine qW ?_|refine qL ?_ _));exact BK216.out)):gb216 ≠ gb219));have n7_:=qK ((by rw [hg];exact Nat.ne_of_gt (blk_lt (g:=gb216) (o:=_) (by (with_reducible repeat (first|refine qN ?_ _|refine qW ?_|refine qL ?_ _));exact BK216.out)):gb219 ≠ gb216));have n8_:=qK ((by rw [hg];exact Nat.ne_of_lt (blk_lt (g:=gb217) (o:=_) (by (with_reducible repeat (first|refine qN ?_ _|refine qW ?_|refine qL ?_ _));exact BK217.out)):gb217 ≠ gb219));have n9_:=qK ((by rw [hg];exact Nat.ne_of_gt (blk_lt (g:=gb217) (o:=_) (by (with_reducible repeat (first|refine qN ?_ _|refine qW ?_|refine qL ?_ _));exact BK217.out)):gb219 ≠ gb217));clear BK216;clear BK217;clear HB;have BK216:=n0_;have BK217:=n1_;have HB:=n2_;have BK219:=n3_;have GW219:=n4_;have GE219:=n5_;have NB216_219:=n6_;have NB219_216:=n7_;have NB217_219:=n8_;have NB219_217:=n9_;clear n0_ n1_ n2_ n3_ n4_ n5_ n6_ n7_ n8_ n9_;clear hb hbox hg;have hnb33:=NB219_216.out;have hnc33:=NB216_219.out;have hnb34:=NB219_217.out;have hnc34:=NB217_219.out;have hcz35_0:w32.cell? ⟨gb219,0,none⟩=some (.int .i64 0):=(qC BK219.out 0).trans rfl;have hcz35_1:w32.cell? ⟨gb219,1,none⟩=some (.slice none 0 0):=(qC BK219.out 1).trans rfl;have hfz35_0:=qF BK219.out 0;have hfz35_1:=qF BK219.out 1;have hnb36:=NB217_216.out;have hnc36:=NB216_217.out;have hcz37_0:w32.cell? ⟨gb217,0,none⟩=some (.int .i64 a1_0):=(qC BK217.out 0).trans rfl;have hcz37_1:w32.cell? ⟨gb217,1,none⟩=some (.slice A1_1 l1_1.length c1_1):=(qC BK217.out 1).trans rfl;have hfz37_0:=qF BK217.out 0;have hfz37_1:=qF BK217.out 1))
       repeat (go_quiet (first|((with_reducible refine gate_dst (N:=8) rfl ?_);refine box_event ?hg (N:=8) ?hd (cs:=#[.int .i64 0,.slice none 0 0]) (t:=97) ?hr ?_;(case hd=>rfl);(case hg=>rfl);(case hr=>(go_simp;try rfl));intro gb219 hg w32 hbox hb;have n0_:=qK (qB (g:=gb216) (o:=_) (by (with_reducible repeat (first|refine qN ?_ _|refine qW ?_|refine qL ?_ _));exact BK216.out) hb);have n1_:=qK (qB (g:=gb217) (o:=_) (by (with_reducible repeat (first|refine qN ?_ _|refine qW ?_|refine qL ?_ _));exact BK217.out) hb);have n2_:=qK (qT (by repeat (with_reducible first|exact HB.out|apply qA|apply qD|apply qO|refine qS ?_ GE216.out|refine qS ?_ GE217.out)) hb);have n3_:=qK (hbox);have n4_:=qK ((by rw [hg];exact (qZ (by repeat (with_reducible first|exact HB.out|apply qA|apply qD|apply qO|refine qS ?_ GE216.out|refine qS ?_ GE217.out))):w.heap.size≤gb219));have n5_:=qK ((by rw [hg];exact (qZ (by repeat (with_reducible first|exact HB.out|apply qA|apply qD|apply qO|refine qS ?_ GE216.out|refine qS ?_ GE217.out))):w.heap.size≤gb219));have n6_:=qK ((by rw [hg];exact Nat.ne_of_lt (blk_lt (g:=gb216) (o:=_) (by (with_reducible repeat (first|refine qN ?_ _|refine qW ?_|refine qL ?_ _));exact BK216.out)):gb216 ≠ gb219));have n7_:=qK ((by rw [hg];exact Nat.ne_of_gt (blk_lt (g:=gb216) (o:=_) (by (with_reducible repeat (first|refine qN ?_ _|refine qW ?_|refine qL ?_ _));exact BK216.out)):gb219 ≠ gb216));have n8_:=qK ((by rw [hg];exact Nat.ne_of_lt (blk_lt (g:=gb217) (o:=_) (by (with_reducible repeat (first|refine qN ?_ _|refine qW ?_|refine qL ?_ _));exact BK217.out)):gb217 ≠ gb219));have n9_:=qK ((by rw [hg];exact Nat.ne_of_gt (blk_lt (g:=gb217) (o:=_) (by (with_reducible repeat (first|refine qN ?_ _|refine qW ?_|refine qL ?_ _));exact BK217.out)):gb219 ≠ gb217));clear BK216;clear BK217;clear HB;have BK216:=n0_;have BK217:=n1_;have HB:=n2_;have BK219:=n3_;have GW219:=n4_;have GE219:=n5_;have NB216_219:=n6_;have NB219_216:=n7_;have NB217_219:=n8_;have NB219_217:=n9_;clear n0_ n1_ n2_ n3_ n4_ n5_ n6_ n7_ n8_ n9_;clear hb hbox hg;have hnb33:=NB219_216.out;have hnc33:=NB216_219.out;have hnb34:=NB219_217.out;have hnc34:=NB217_219.out;have hcz35_0:w32.cell? ⟨gb219,0,none⟩=some (.int .i64 0):=(qC BK219.out 0).trans rfl;have hcz35_1:w32.cell? ⟨gb219,1,none⟩=some (.slice none 0 0):=(qC BK219.out 1).trans rfl;have hfz35_0:=qF BK219.out 0;have hfz35_1:=qF BK219.out 1;have hnb36:=NB217_216.out;have hnc36:=NB216_217.out;have hcz37_0:w32.cell? ⟨gb217,0,none⟩=some (.int .i64 a1_0):=(qC BK217.out 0).trans rfl;have hcz37_1:w32.cell? ⟨gb217,1,none⟩=some (.slice A1_1 l1_1.length c1_1):=(qC BK217.out 1).trans rfl;have hfz37_0:=qF BK217.out 0;have hfz37_1:=qF BK217.out 1));try go_wp2_with (first|((with_reducible refine gate_dst (N:=8) rfl ?_);refine box_event ?hg (N:=8) ?hd (cs:=#[.int .i64 0,.slice none 0 0]) (t:=97) ?hr ?_;(case hd=>rfl);(case hg=>rfl);(case hr=>(go_simp;try rfl));intro gb219 hg w32 hbox hb;have n0_:=qK (qB (g:=gb216) (o:=_) (by (with_reducible repeat (first|refine qN ?_ _|refine qW ?_|refine qL ?_ _));exact BK216.out) hb);have n1_:=qK (qB (g:=gb217) (o:=_) (by (with_reducible repeat (first|refine qN ?_ _|refine qW ?_|refine qL ?_ _));exact BK217.out) hb);have n2_:=qK (qT (by repeat (with_reducible first|exact HB.out|apply qA|apply qD|apply qO|refine qS ?_ GE216.out|refine qS ?_ GE217.out)) hb);have n3_:=qK (hbox);have n4_:=qK ((by rw [hg];exact (qZ (by repeat (with_reducible first|exact HB.out|apply qA|apply qD|apply qO|refine qS ?_ GE216.out|refine qS ?_ GE217.out))):w.heap.size≤gb219));have n5_:=qK ((by rw [hg];exact (qZ (by repeat (with_reducible first|exact HB.out|apply qA|apply qD|apply qO|refine qS ?_ GE216.out|refine qS ?_ GE217.out))):w.heap.size≤gb219));have n6_:=qK ((by rw [hg];exact Nat.ne_of_lt (blk_lt (g:=gb216) (o:=_) (by (with_reducible repeat (first|refine qN ?_ _|refine qW ?_|refine qL ?_ _));exact BK216.out)):gb216 ≠ gb219));have n7_:=qK ((by rw [hg];exact Nat.ne_of_gt (blk_lt (g:=gb216) (o:=_) (by (with_reducible repeat (first|refine qN ?_ _|refine qW ?_|refine qL ?_ _));exact BK216.out)):gb219 ≠ gb216));have n8_:=qK ((by rw [hg];exact Nat.ne_of_lt (blk_lt (g:=gb217) (o:=_) (by (with_reducible repeat (first|refine qN ?_ _|refine qW ?_|refine qL ?_ _));exact BK217.out)):gb217 ≠ gb219));have n9_:=qK ((by rw [hg];exact Nat.ne_of_gt (blk_lt (g:=gb217) (o:=_) (by (with_reducible repeat (first|refine qN ?_ _|refine qW ?_|refine qL ?_ _));exact BK217.out)):gb219 ≠ gb217));clear BK216;clear BK217;clear HB;have BK216:=n0_;have BK217:=n1_;have HB:=n2_;have BK219:=n3_;have GW219:=n4_;have GE219:=n5_;have NB216_219:=n6_;have NB219_216:=n7_;have NB217_219:=n8_;have NB219_217:=n9_;clear n0_ n1_ n2_ n3_ n4_ n5_ n6_ n7_ n8_ n9_;clear hb hbox hg;have hnb33:=NB219_216.out;have hnc33:=NB216_219.out;have hnb34:=NB219_217.out;have hnc34:=NB217_219.out;have hcz35_0:w32.cell? ⟨gb219,0,none⟩=some (.int .i64 0):=(qC BK219.out 0).trans rfl;have hcz35_1:w32.cell? ⟨gb219,1,none⟩=some (.slice none 0 0):=(qC BK219.out 1).trans rfl;have hfz35_0:=qF BK219.out 0;have hfz35_1:=qF BK219.out 1;have hnb36:=NB217_216.out;have hnc36:=NB216_217.out;have hcz37_0:w32.cell? ⟨gb217,0,none⟩=some (.int .i64 a1_0):=(qC BK217.out 0).trans rfl;have hcz37_1:w32.cell? ⟨gb217,1,none⟩=some (.slice A1_1 l1_1.length c1_1):=(qC BK217.out 1).trans rfl;have hfz37_0:=qF BK217.out 0;have hfz37_1:=qF BK217.out 1)))
       go_roundg k1
       case measure=>have:=HK1.out;omega
       case rel=>exact ⟨(wrap64 (x15_1 + 1)),(by first|rfl|(simp;done)|(simp [*];done)),H',⟨by have:=HK1.out;omega⟩,⟨by (with_reducible repeat (first|refine qN ?_ _|refine qW ?_|refine qL ?_ _));refine qR ?_ NB216_219.out _;(with_reducible repeat (first|refine qN ?_ _|refine qW ?_|refine qL ?_ _));refine qR ?_ NB216_219.out _;(with_reducible repeat (first|refine qN ?_ _|refine qW ?_|refine qL ?_ _));exact BK216.out⟩,⟨by (with_reducible repeat (first|refine qN ?_ _|refine qW ?_|refine qL ?_ _));refine qR ?_ NB217_219.out _;(with_reducible repeat (first|refine qN ?_ _|refine qW ?_|refine qL ?_ _));refine qR ?_ NB217_219.out _;(with_reducible repeat (first|refine qN ?_ _|refine qW ?_|refine qL ?_ _));exact BK217.out⟩,⟨by repeat (first|(with_reducible first|exact HB.out|apply qA|apply qD|apply qO|refine qS ?_ GE216.out|refine qS ?_ GE217.out|refine qS ?_ GE219.out)|exact HB.out)⟩⟩
     ·rw [if_neg c10] at H;exact absurd H (by simp)
    ·rw [if_neg c9] at H;exact absurd H (by simp)
   ·rw [if_neg c8] at H;have c8b0:decide (x15_1 < (l0_1.length:Int))=false:=decide_eq_false c8;clear c8;obtain rfl:=Option.some.inj H;go_wp2
    repeat (go_quiet (fail);try go_wp2)
    go_ret
    exact ⟨by first|rfl|(simp [errW_none,errW_some] <;> rfl)|(simp [*,errW_none,errW_some] <;> rfl),by repeat (first|(with_reducible first|exact HB.out|apply qA|apply qD|apply qO|refine qS ?_ GE216.out|refine qS ?_ GE217.out)|exact HB.out)⟩

end Go.Proofs.Ytboligpcbndkjaa.PFnExactIsContained
