/-
  A text of this claim's own, printed by a program of the session (wip/tools/xprint.py): functions of the program as Lean functions, each with what its call comes to.
-/
import Derived.Test.YtboligpcbndkjaaPFnExactEarsOfx0
import Derived.Test.YtboligpcbndkjaaPFnExactEarsOfx2
namespace Go.Proofs.Ytboligpcbndkjaa.PFnExactEarsOf
open Go.Proofs.YtboligpcbndkjaaW.PrintWords renaming pw_below_drewN → qD, blk_cell → qC, below_drew1 → qO, below_alloc → qA, blk_frozen → qF, below_set → qS, blk_drewN → qN, blk_alloc → qL, blk_drew → qW, below_size → qZ, below_step → qT, blk_below → qB, blk_far → qR, blk_put → qP
open Go.Proofs.YtboligpcbndkjaaW.PrintWords.Aside0 renaming mk → qK
open Bool renaming true → Y, false → Z
open List renaming setIfInBounds_toArray → sIb, set_cons_zero → sZ, set_cons_succ → sS, map_toArray → mT, map_cons → mC, map_nil → mN, length_drop → lD, length_take → lT
open Go.Proofs.YtboligpcbndkjaaW.PrintWords.Kd renaming C_alloc → cL, C_drewN → cN, C_drew → cW, C_below → cB, R_alloc → rL, R_drewN → rN, R_drew → rW, R_below → rB
open Go.RowKit Go.Proofs.YtboligpcbndkjaaW.PrintWords Go.Proofs.YtboligpcbndkjaaW.PrintLast Go.Proofs.YtboligpcbndkjaaW.PrintMore
attribute [local go_sem] max2_int min2_int max_two min_two max_three min_three max_four min_four   -- for this text's walks alone
set_option linter.unusedVariables false
set_option linter.unusedSimpArgs false

/-! ### spec_GoodQuery: function 75 -/
mutual
def spec_GoodQuery.j0 : Nat→List Int→Bool→List Int→List (S97)→Option (Bool)
 | 0,_,_,_,_=>none
 | k + 1,x1,x24,x209000,x209001=>if x24=true then (some false) else (spec_GoodQuery.l0 k x1 x209001 (x209001.length:Int) 0 x209000 x209001)
def spec_GoodQuery.l0 : Nat→List Int→List (S97)→Int→Int→List Int→List (S97)→Option (Bool)
 | 0,_,_,_,_,_,_=>none
 | k + 1,x1,x26,x27,x28,x209000,x209001=>if x28 < x27 then (if 0≤x28 then (if x28 < (x26.length:Int) then (if ((rd_T97 x26 x28).f0) < 0 then (spec_GoodQuery.j2 k x1 x26 x27 x28 true x209000 x209001 ((rd_T97 x26 x28).f0) ((rd_T97 x26 x28).f1)) else (if ((rd_T97 x26 x28).f0) ≥ (x1.length:Int) then (spec_GoodQuery.j2 k x1 x26 x27 x28 true x209000 x209001 ((rd_T97 x26 x28).f0) ((rd_T97 x26 x28).f1)) else (if 0≤((rd_T97 x26 x28).f0) then (if ((rd_T97 x26 x28).f0) < (x1.length:Int) then (spec_GoodQuery.j2 k x1 x26 x27 x28 ((((rd_T97 x26 x28).f1).length:Int) != (rd x1 ((rd_T97 x26 x28).f0))) x209000 x209001 ((rd_T97 x26 x28).f0) ((rd_T97 x26 x28).f1)) else (none)) else (none)))) else (none)) else (none)) else ((spec_l10Vars.f k x209000 x209001).bind fun t211=>((spec_l7All.f k t211 x209000).bind fun t214=>(some t214)))
def spec_GoodQuery.j2 : Nat→List Int→List (S97)→Int→Int→Bool→List Int→List (S97)→Int→List Int→Option (Bool)
 | 0,_,_,_,_,_,_,_,_,_=>none
 | k + 1,x1,x26,x27,x28,x52,x209000,x209001,x217000,x217001=>if x52=true then (some false) else (spec_GoodQuery.l1 k x1 x26 x27 x28 x217001 (x217001.length:Int) 0 x209000 x209001)
def spec_GoodQuery.l1 : Nat→List Int→List (S97)→Int→Int→List Int→Int→Int→List Int→List (S97)→Option (Bool)
 | 0,_,_,_,_,_,_,_,_,_=>none
 | k + 1,x1,x26,x27,x28,x54,x55,x56,x209000,x209001=>if x56 < x55 then (if 0≤x56 then (if x56 < (x54.length:Int) then ((spec_l10Var.f (rd x54 x56)).bind fun t219=>(if t219=true then (spec_GoodQuery.l1 k x1 x26 x27 x28 x54 x55 (wrap64 (x56 + 1)) x209000 x209001) else (some false))) else (none)) else (none)) else (spec_GoodQuery.l0 k x1 x26 x27 (wrap64 (x28 + 1)) x209000 x209001)
end
def spec_GoodQuery.f (k:Nat) (l0_0:List Int) (l0_1:List (S97)) (l1:List Int):Option (Bool):=(spec_l10Tables.f k l1).bind fun t209=>(if t209=true then ((spec_l1In.f (l0_1.length:Int) 1 5).bind fun t210=>(if t210=true then (spec_GoodQuery.j0 k l1 (decide ((l0_0.length:Int) > 6)) l0_0 l0_1) else (spec_GoodQuery.j0 k l1 true l0_0 l0_1))) else (spec_GoodQuery.j0 k l1 true l0_0 l0_1))
theorem spec_GoodQuery.mono_l : ∀ k,(∀ y0 y1 y2 y3,LeO (spec_GoodQuery.j0 k y0 y1 y2 y3) (spec_GoodQuery.j0 (k + 1) y0 y1 y2 y3))∧(∀ y0 y1 y2 y3 y4 y5,LeO (spec_GoodQuery.l0 k y0 y1 y2 y3 y4 y5) (spec_GoodQuery.l0 (k + 1) y0 y1 y2 y3 y4 y5))∧(∀ y0 y1 y2 y3 y4 y5 y6 y7 y8,LeO (spec_GoodQuery.j2 k y0 y1 y2 y3 y4 y5 y6 y7 y8) (spec_GoodQuery.j2 (k + 1) y0 y1 y2 y3 y4 y5 y6 y7 y8))∧(∀ y0 y1 y2 y3 y4 y5 y6 y7 y8,LeO (spec_GoodQuery.l1 k y0 y1 y2 y3 y4 y5 y6 y7 y8) (spec_GoodQuery.l1 (k + 1) y0 y1 y2 y3 y4 y5 y6 y7 y8))
 | 0=>⟨fun _ _ _ _ r h=>by simp [spec_GoodQuery.j0] at h,fun _ _ _ _ _ _ r h=>by simp [spec_GoodQuery.l0] at h,fun _ _ _ _ _ _ _ _ _ r h=>by simp [spec_GoodQuery.j2] at h,fun _ _ _ _ _ _ _ _ _ r h=>by simp [spec_GoodQuery.l1] at h⟩
 | k + 1=>by
  obtain ⟨ih0,ih1,ih2,ih3⟩:=spec_GoodQuery.mono_l k;refine ⟨?_,?_,?_,?_⟩
  ·intro y0 y1 y2 y3;unfold spec_GoodQuery.j0
   repeat' first
   | (with_reducible exact ih0 _ _ _ _)
   | (with_reducible exact ih1 _ _ _ _ _ _)
   | (with_reducible exact ih2 _ _ _ _ _ _ _ _ _)
   | (with_reducible exact ih3 _ _ _ _ _ _ _ _ _)
   | (with_reducible exact spec_l10Tables.mono _ _)
   | (with_reducible exact spec_l10Vars.mono _ _ _)
   | (with_reducible exact spec_l7All.mono _ _ _)
   | (with_reducible exact LeO.refl _)
   | (with_reducible exact LeO.none _)
   | (with_reducible refine LeO.ite ?_ ?_)
   | (with_reducible refine LeO.bind ?_ (fun _=>?_))
   | exact ih0 _ _ _ _
   | exact ih1 _ _ _ _ _ _
   | exact ih2 _ _ _ _ _ _ _ _ _
   | exact ih3 _ _ _ _ _ _ _ _ _
   | exact spec_l10Tables.mono _ _
   | exact spec_l10Vars.mono _ _ _
   | exact spec_l7All.mono _ _ _
   | exact LeO.none _
   | refine LeO.ite ?_ ?_
   | refine LeO.bind ?_ (fun _=>?_)
  ·intro y0 y1 y2 y3 y4 y5;unfold spec_GoodQuery.l0
   repeat' first
   | (with_reducible exact ih0 _ _ _ _)
   | (with_reducible exact ih1 _ _ _ _ _ _)
   | (with_reducible exact ih2 _ _ _ _ _ _ _ _ _)
   | (with_reducible exact ih3 _ _ _ _ _ _ _ _ _)
   | (with_reducible exact spec_l10Tables.mono _ _)
   | (with_reducible exact spec_l10Vars.mono _ _ _)
   | (with_reducible exact spec_l7All.mono _ _ _)
   | (with_reducible exact LeO.refl _)
   | (with_reducible exact LeO.none _)
   | (with_reducible refine LeO.ite ?_ ?_)
   | (with_reducible refine LeO.bind ?_ (fun _=>?_))
   | exact ih0 _ _ _ _
   | exact ih1 _ _ _ _ _ _
   | exact ih2 _ _ _ _ _ _ _ _ _
   | exact ih3 _ _ _ _ _ _ _ _ _
   | exact spec_l10Tables.mono _ _
   | exact spec_l10Vars.mono _ _ _
   | exact spec_l7All.mono _ _ _
   | exact LeO.none _
   | refine LeO.ite ?_ ?_
   | refine LeO.bind ?_ (fun _=>?_)
  ·intro y0 y1 y2 y3 y4 y5 y6 y7 y8;unfold spec_GoodQuery.j2
   repeat' first
   | (with_reducible exact ih0 _ _ _ _)
   | (with_reducible exact ih1 _ _ _ _ _ _)
   | (with_reducible exact ih2 _ _ _ _ _ _ _ _ _)
   | (with_reducible exact ih3 _ _ _ _ _ _ _ _ _)
   | (with_reducible exact spec_l10Tables.mono _ _)
   | (with_reducible exact spec_l10Vars.mono _ _ _)
   | (with_reducible exact spec_l7All.mono _ _ _)
   | (with_reducible exact LeO.refl _)
   | (with_reducible exact LeO.none _)
   | (with_reducible refine LeO.ite ?_ ?_)
   | (with_reducible refine LeO.bind ?_ (fun _=>?_))
   | exact ih0 _ _ _ _
   | exact ih1 _ _ _ _ _ _
   | exact ih2 _ _ _ _ _ _ _ _ _
   | exact ih3 _ _ _ _ _ _ _ _ _
   | exact spec_l10Tables.mono _ _
   | exact spec_l10Vars.mono _ _ _
   | exact spec_l7All.mono _ _ _
   | exact LeO.none _
   | refine LeO.ite ?_ ?_
   | refine LeO.bind ?_ (fun _=>?_)
  ·intro y0 y1 y2 y3 y4 y5 y6 y7 y8;unfold spec_GoodQuery.l1
   repeat' first
   | (with_reducible exact ih0 _ _ _ _)
   | (with_reducible exact ih1 _ _ _ _ _ _)
   | (with_reducible exact ih2 _ _ _ _ _ _ _ _ _)
   | (with_reducible exact ih3 _ _ _ _ _ _ _ _ _)
   | (with_reducible exact spec_l10Tables.mono _ _)
   | (with_reducible exact spec_l10Vars.mono _ _ _)
   | (with_reducible exact spec_l7All.mono _ _ _)
   | (with_reducible exact LeO.refl _)
   | (with_reducible exact LeO.none _)
   | (with_reducible refine LeO.ite ?_ ?_)
   | (with_reducible refine LeO.bind ?_ (fun _=>?_))
   | exact ih0 _ _ _ _
   | exact ih1 _ _ _ _ _ _
   | exact ih2 _ _ _ _ _ _ _ _ _
   | exact ih3 _ _ _ _ _ _ _ _ _
   | exact spec_l10Tables.mono _ _
   | exact spec_l10Vars.mono _ _ _
   | exact spec_l7All.mono _ _ _
   | exact LeO.none _
   | refine LeO.ite ?_ ?_
   | refine LeO.bind ?_ (fun _=>?_)
theorem spec_GoodQuery.mono : ∀ a0 a1 a2 k,LeO (spec_GoodQuery.f k a0 a1 a2) (spec_GoodQuery.f (k + 1) a0 a1 a2):=by
 intro a0 a1 a2 k;obtain ⟨ih0,ih1,ih2,ih3⟩:=spec_GoodQuery.mono_l k;unfold spec_GoodQuery.f
 repeat' first
   | (with_reducible exact ih0 _ _ _ _)
   | (with_reducible exact ih1 _ _ _ _ _ _)
   | (with_reducible exact ih2 _ _ _ _ _ _ _ _ _)
   | (with_reducible exact ih3 _ _ _ _ _ _ _ _ _)
   | (with_reducible exact spec_l10Tables.mono _ _)
   | (with_reducible exact spec_l10Vars.mono _ _ _)
   | (with_reducible exact spec_l7All.mono _ _ _)
   | (with_reducible exact LeO.refl _)
   | (with_reducible exact LeO.none _)
   | (with_reducible refine LeO.ite ?_ ?_)
   | (with_reducible refine LeO.bind ?_ (fun _=>?_))
   | exact ih0 _ _ _ _
   | exact ih1 _ _ _ _ _ _
   | exact ih2 _ _ _ _ _ _ _ _ _
   | exact ih3 _ _ _ _ _ _ _ _ _
   | exact spec_l10Tables.mono _ _
   | exact spec_l10Vars.mono _ _ _
   | exact spec_l7All.mono _ _ _
   | exact LeO.none _
   | refine LeO.ite ?_ ?_
   | refine LeO.bind ?_ (fun _=>?_)
def spec_GoodQuery.T6 : Bool × List (List Nat × List Nat):=(true,[([],[]),([0],[0]),([1],[1]),([2],[2]),([3],[3]),([4,3],[3,4]),([3],[3]),([6,3],[3,6]),([5,7,3],[3,5,7]),([3,8],[3,8]),([9,3],[9]),([10],[10]),([11,10],[10,11]),([12,10],[10,12]),([10],[10]),([10],[10]),([15,10],[10,15]),([14,16,10],[10,14,16]),([17,10],[10,17]),([13,18,10],[10,13,18]),([10,19],[10,19])])
def spec_GoodQuery.B6 : List Nat:=[0,1,3,7,15,31,15,79,255,511,1023,2047,4095,8191,2047,2047,34815,116735,247807,524287,1048575]
theorem spec_GoodQuery.tab6 : rtab .any (opsOf Try.f75 6)=spec_GoodQuery.T6:=by kernel_rfl
theorem spec_GoodQuery.bits6 : waitsOk spec_GoodQuery.T6.2 spec_GoodQuery.B6=true:=by kernel_rfl
set_option maxHeartbeats 8000000 in
set_option maxRecDepth 100000 in
theorem spec_GoodQuery.calls (k:Nat) (A0_0:Option Addr) (c0_0:Nat) (l0_0:List Int) (A0_1:Option Addr) (c0_1:Nat) (l0_1:List (S97)) (A1:Option Addr) (c1:Nat) (l1:List Int) (r:Bool) (w:World) (hr0_0:Kd.C (Kd.int .i64) w A0_0 l0_0.length l0_0) (hc0_0:l0_0.length≤c0_0) (hr0_1:Kd.C k97 w A0_1 l0_1.length l0_1) (hc0_1:l0_1.length≤c0_1) (hr1:Kd.C (Kd.int .i64) w A1 l1.length l1) (hc1:l1.length≤c1) (h:spec_GoodQuery.f k l0_0 l0_1 l1=some r) :
  Calls Try.prog 75 #[.agg #[.slice A0_0 l0_0.length c0_0,.slice A0_1 l0_1.length c0_1],.slice A1 l1.length c1] w fun e w'=>e=.returned (.bool r)∧Below w.heap.size w w':=by
 have hu32:=Try.underlying32;have hu97:=Try.underlying97;have HR0_0:=qK hr0_0;have HC0_0:=qK hc0_0;clear hr0_0 hc0_0;have HR0_1:=qK hr0_1;have HC0_1:=qK hc0_1;clear hr0_1 hc0_1;have HR1:=qK hr1;have HC1:=qK hc1;clear hr1 hc1;have HB:=qK (Below.refl w.heap.size w);have H:((spec_l10Tables.f k l1).bind fun t209=>(if t209=true then ((spec_l1In.f (l0_1.length:Int) 1 5).bind fun t210=>(if t210=true then (spec_GoodQuery.j0 k l1 (decide ((l0_0.length:Int) > 6)) l0_0 l0_1) else (spec_GoodQuery.j0 k l1 true l0_0 l0_1))) else (spec_GoodQuery.j0 k l1 true l0_0 l0_1)))=some r:=h;clear h;have HC3:=qK H;clear H;go_enter Try.func75,Try.ntmps75
 go_upto_region 1 with (first|((with_reducible refine gate_dst (N:=2) rfl ?_);(try (refine gate_guard (by rfl) ?_;dsimp only));refine box_event ?hg (N:=2) ?hd (cs:=#[.slice A0_0 l0_0.length c0_0,.slice A0_1 l0_1.length c0_1]) (t:=32) ?hr ?_;(case hd=>rfl);(case hg=>rfl);(case hr=>(go_simp;try rfl));intro gb208 hg w4 hbox hb;have n0_:=qK (qT (by repeat (with_reducible first|exact HB.out|apply qA|apply qD|apply qO)) hb);have n1_:=qK (hbox);have n2_:=qK ((by rw [hg];exact (qZ (by repeat (with_reducible first|exact HB.out|apply qA|apply qD|apply qO))):w.heap.size≤gb208));have n3_:=qK ((by rw [hg];exact (qZ (by repeat (with_reducible first|exact HB.out|apply qA|apply qD|apply qO))):w.heap.size≤gb208));clear HB;have HB:=n0_;have BK208:=n1_;have GW208:=n2_;have GE208:=n3_;clear n0_ n1_ n2_ n3_;clear hb hbox hg))
 (try simp only [Act.put,List.setIfInBounds_toArray,List.set_cons_zero,List.set_cons_succ]);go_cut [24] (fun v24 wc=>∃ (kq:Nat) (x24_2:Bool),v24=.bool x24_2∧Aside0 (spec_GoodQuery.j0 kq l1 x24_2 l0_0 l0_1=some r)∧Aside0 (kq≤k)∧Aside0 (wc.heap[gb208]?=some (.cells #[(.slice A0_0 l0_0.length c0_0),(.slice A0_1 l0_1.length c0_1)] 32 (0,0)))∧Aside0 (Below w.heap.size w wc))
 case first =>
  have H:=HC3.out;clear HC3;replace H:=Option.bind_eq_some_iff.mp H;obtain ⟨t209,A50,H⟩:=H;replace H:(if t209=true then ((spec_l1In.f (l0_1.length:Int) 1 5).bind fun t210=>(if t210=true then (spec_GoodQuery.j0 k l1 (decide ((l0_0.length:Int) > 6)) l0_0 l0_1) else (spec_GoodQuery.j0 k l1 true l0_0 l0_1))) else (spec_GoodQuery.j0 k l1 true l0_0 l0_1))=some r:=H;have A5:=qK A50;clear A50;by_cases c6:t209=true
  ·subst c6;have H1:((spec_l1In.f (l0_1.length:Int) 1 5).bind fun t210=>(if t210=true then (spec_GoodQuery.j0 k l1 (decide ((l0_0.length:Int) > 6)) l0_0 l0_1) else (spec_GoodQuery.j0 k l1 true l0_0 l0_1)))=some r:=by rw [if_pos rfl] at H;exact H
   clear H;have H:=H1;clear H1;replace H:=Option.bind_eq_some_iff.mp H;obtain ⟨t210,A70,H⟩:=H;replace H:(if t210=true then (spec_GoodQuery.j0 k l1 (decide ((l0_0.length:Int) > 6)) l0_0 l0_1) else (spec_GoodQuery.j0 k l1 true l0_0 l0_1))=some r:=H;have A7:=qK A70;clear A70;by_cases c8:t210=true
   ·subst c8;have H1:(spec_GoodQuery.j0 k l1 (decide ((l0_0.length:Int) > 6)) l0_0 l0_1)=some r:=by rw [if_pos rfl] at H;exact H
    clear H;have H:=H1;clear H1;have H':=qK H;clear H;go_wp2_with (first|((with_reducible refine gate_callee (f:=138) rfl ?_);refine goesL_ (some 10) rfl rfl Try.func138 (by kernel_rfl) rfl #[.slice A1 l1.length c1] rfl (by (try simp only [mT,mC,mN]);first|done|rfl|(simp only [lD,lT];rfl)) ?_;(with_reducible refine (spec_l10Tables.calls k _ _ l1 true _ ?side1 ?side2 A5.out).mono ?_);(case side1=>repeat (first|exact (cB HR1.out (by repeat (with_reducible first|exact HB.out|apply qA|apply qD|apply qO|refine qS ?_ GE208.out)))|(with_reducible first|refine cL ?_ _|refine cN ?_ _|refine cW ?_)));(case side2=>exact HC1.out);rintro e w' ⟨rfl,⟨nd,rfl⟩⟩;refine ⟨_,rfl,?_⟩;have hcz9_0:w4.cell? ⟨gb208,0,none⟩=some (.slice A0_0 l0_0.length c0_0):=(qC BK208.out 0).trans rfl;have hcz9_1:w4.cell? ⟨gb208,1,none⟩=some (.slice A0_1 l0_1.length c0_1):=(qC BK208.out 1).trans rfl;have hfz9_0:=qF BK208.out 0;have hfz9_1:=qF BK208.out 1)|(go_at_call 109;(with_reducible refine (spec_l1In.calls (l0_1.length:Int) 1 5 true _ A7.out).mono ?_);rintro e w' ⟨rfl,⟨nd,rfl⟩⟩))
    go_meet
    case rel=>exact ⟨_,(decide ((l0_0.length:Int) > 6)),(by first|rfl|(simp;done)|(simp [*];done)),H',⟨by first|omega|exact Nat.le_refl _⟩,⟨by (with_reducible repeat (first|refine qN ?_ _|refine qW ?_|refine qL ?_ _));exact BK208.out⟩,⟨by repeat (first|(with_reducible first|exact HB.out|apply qA|apply qD|apply qO|refine qS ?_ GE208.out)|exact HB.out)⟩⟩
   ·replace c8:=Bool.eq_false_iff.mpr c8;subst c8;have H1:(spec_GoodQuery.j0 k l1 true l0_0 l0_1)=some r:=by rw [if_neg (show ¬ (false=true) by decide)] at H;exact H
    clear H;have H:=H1;clear H1;have H':=qK H;clear H;go_wp2_with (first|((with_reducible refine gate_callee (f:=138) rfl ?_);refine goesL_ (some 10) rfl rfl Try.func138 (by kernel_rfl) rfl #[.slice A1 l1.length c1] rfl (by (try simp only [mT,mC,mN]);first|done|rfl|(simp only [lD,lT];rfl)) ?_;(with_reducible refine (spec_l10Tables.calls k _ _ l1 true _ ?side1 ?side2 A5.out).mono ?_);(case side1=>repeat (first|exact (cB HR1.out (by repeat (with_reducible first|exact HB.out|apply qA|apply qD|apply qO|refine qS ?_ GE208.out)))|(with_reducible first|refine cL ?_ _|refine cN ?_ _|refine cW ?_)));(case side2=>exact HC1.out);rintro e w' ⟨rfl,⟨nd,rfl⟩⟩;refine ⟨_,rfl,?_⟩;have hcz10_0:w4.cell? ⟨gb208,0,none⟩=some (.slice A0_0 l0_0.length c0_0):=(qC BK208.out 0).trans rfl;have hcz10_1:w4.cell? ⟨gb208,1,none⟩=some (.slice A0_1 l0_1.length c0_1):=(qC BK208.out 1).trans rfl;have hfz10_0:=qF BK208.out 0;have hfz10_1:=qF BK208.out 1)|(go_at_call 109;(with_reducible refine (spec_l1In.calls (l0_1.length:Int) 1 5 false _ A7.out).mono ?_);rintro e w' ⟨rfl,⟨nd,rfl⟩⟩))
    go_meet
    case rel=>exact ⟨_,(true),(by first|rfl|(simp;done)|(simp [*];done)),H',⟨by first|omega|exact Nat.le_refl _⟩,⟨by (with_reducible repeat (first|refine qN ?_ _|refine qW ?_|refine qL ?_ _));exact BK208.out⟩,⟨by repeat (first|(with_reducible first|exact HB.out|apply qA|apply qD|apply qO|refine qS ?_ GE208.out)|exact HB.out)⟩⟩
  ·replace c6:=Bool.eq_false_iff.mpr c6;subst c6;have H1:(spec_GoodQuery.j0 k l1 true l0_0 l0_1)=some r:=by rw [if_neg (show ¬ (false=true) by decide)] at H;exact H
   clear H;have H:=H1;clear H1;have H':=qK H;clear H;go_wp2_with (first|((with_reducible refine gate_callee (f:=138) rfl ?_);refine goesL_ (some 10) rfl rfl Try.func138 (by kernel_rfl) rfl #[.slice A1 l1.length c1] rfl (by (try simp only [mT,mC,mN]);first|done|rfl|(simp only [lD,lT];rfl)) ?_;(with_reducible refine (spec_l10Tables.calls k _ _ l1 false _ ?side1 ?side2 A5.out).mono ?_);(case side1=>repeat (first|exact (cB HR1.out (by repeat (with_reducible first|exact HB.out|apply qA|apply qD|apply qO|refine qS ?_ GE208.out)))|(with_reducible first|refine cL ?_ _|refine cN ?_ _|refine cW ?_)));(case side2=>exact HC1.out);rintro e w' ⟨rfl,⟨nd,rfl⟩⟩;refine ⟨_,rfl,?_⟩))
   go_meet
   case rel=>exact ⟨_,(true),(by first|rfl|(simp;done)|(simp [*];done)),H',⟨by first|omega|exact Nat.le_refl _⟩,⟨by (with_reducible repeat (first|refine qN ?_ _|refine qW ?_|refine qL ?_ _));exact BK208.out⟩,⟨by repeat (first|(with_reducible first|exact HB.out|apply qA|apply qD|apply qO|refine qS ?_ GE208.out)|exact HB.out)⟩⟩
 case rest =>
  clear HC3;try clear c1
  try clear p2
  try clear c6
  try clear c7
  try clear c8
  try clear hcz10_0
  try clear hcz10_1
  try clear hcz9_0
  try clear hcz9_1
  try clear hfz10_0
  try clear hfz10_1
  try clear hfz9_0
  try clear hfz9_1
  obtain ⟨kq,x24_2,rfl,HA,HJ2,BK208,HB⟩:=hcut;cases kq with
  | zero=>exact absurd HA.out (by simp [spec_GoodQuery.j0])
  | succ kj2 =>
   have H:=HA.out;clear HA;simp only [spec_GoodQuery.j0] at H;by_cases c11:x24_2=true
   ·subst c11;have H1:(some false)=some r:=by rw [if_pos rfl] at H;exact H
    clear H;have H:=H1;clear H1;obtain rfl:=Option.some.inj H;go_wp2
    go_ret
    exact ⟨by first|rfl|(simp [errW_none,errW_some] <;> rfl)|(simp [*,errW_none,errW_some] <;> rfl),by repeat (first|(with_reducible first|exact HB.out|apply qA|apply qD|apply qO|refine qS ?_ GE208.out)|exact HB.out)⟩
   ·replace c11:=Bool.eq_false_iff.mpr c11;subst c11;have H1:(spec_GoodQuery.l0 kj2 l1 l0_1 (l0_1.length:Int) 0 l0_0 l0_1)=some r:=by rw [if_neg (show ¬ (false=true) by decide)] at H;exact H
    clear H;have H:=H1;clear H1;have H':=qK H;clear H;have hcz12_0:wc.cell? ⟨gb208,0,none⟩=some (.slice A0_0 l0_0.length c0_0):=(qC BK208.out 0).trans rfl;have hcz12_1:wc.cell? ⟨gb208,1,none⟩=some (.slice A0_1 l0_1.length c0_1):=(qC BK208.out 1).trans rfl;have hfz12_0:=qF BK208.out 0;have hfz12_1:=qF BK208.out 1;go_wp2
    go_loopg [28] kj2 (fun kq v28 w'=>∃ (x28_2:Int),v28=.int .i64 x28_2∧Aside0 (spec_GoodQuery.l0 kq l1 l0_1 (l0_1.length:Int) x28_2 l0_0 l0_1=some r)∧Aside0 (kq≤kj2)∧Aside0 (w'.heap[gb208]?=some (.cells #[(.slice A0_0 l0_0.length c0_0),(.slice A0_1 l0_1.length c0_1)] 32 (0,0)))∧Aside0 (Below w.heap.size w w'))
    case atStart=>exact ⟨(0),(by first|rfl|(simp;done)|(simp [*];done)),H',⟨Nat.le_refl _⟩,⟨by (with_reducible repeat (first|refine qN ?_ _|refine qW ?_|refine qL ?_ _));exact BK208.out⟩,⟨by repeat (first|(with_reducible first|exact HB.out|apply qA|apply qD|apply qO|refine qS ?_ GE208.out)|exact HB.out)⟩⟩
    case round =>
     clear H';try clear c1
     try clear p2
     try clear c6
     try clear c7
     try clear c8
     try clear c11
     try clear hcz10_0
     try clear hcz10_1
     try clear hcz12_0
     try clear hcz12_1
     try clear hcz9_0
     try clear hcz9_1
     try clear hfz10_0
     try clear hfz10_1
     try clear hfz12_0
     try clear hfz12_1
     try clear hfz9_0
     try clear hfz9_1
     try clear p2
     obtain ⟨x28_2,rfl,HA,HK2,BK208,HB⟩:=hrel;cases gk with
     | zero=>exact absurd HA.out (by simp [spec_GoodQuery.l0])
     | succ k2 =>
      have H:=HA.out;clear HA;simp only [spec_GoodQuery.l0] at H;by_cases c13:x28_2 < (l0_1.length:Int)
      ·rw [if_pos c13] at H;have c13b0:decide (x28_2 < (l0_1.length:Int))=true:=decide_eq_true c13;clear c13;by_cases c14:0≤x28_2
       ·rw [if_pos c14] at H;have c14b0:decide (0≤x28_2)=true:=decide_eq_true c14;clear c14;by_cases c15:x28_2 < (l0_1.length:Int)
        ·rw [if_pos c15] at H;have c15b0:decide (x28_2 < (l0_1.length:Int))=true:=decide_eq_true c15;clear c15;have HC16:=qK H;clear H;have p215:0≤(x28_2:Int):=of_decide_eq_true (by first|(with_reducible assumption)|assumption);have q215:x28_2 < (l0_1.length:Int):=of_decide_eq_true (by first|(with_reducible assumption)|assumption);obtain ⟨ad215,A215_1,c215_1,e215,hx215_0,hx215_1,hl215_1,hi215_1⟩:=at_T97 HR0_1.out x28_2 p215 q215;cases e215
         replace hx215_0:=(HB.out.cell (World.block_lt_of_cell? w _ hx215_0)).trans hx215_0;replace hx215_1:=(HB.out.cell (World.block_lt_of_cell? w _ hx215_1)).trans hx215_1;have HR215_1:=qK hi215_1;have HC215_1:=qK hl215_1;clear hi215_1 hl215_1;replace p215:=eq_true p215;replace q215:=eq_true q215;go_upto_region 6 with (first|((with_reducible refine gate_dst (N:=6) rfl ?_);(try (refine gate_guard (by rfl) ?_;dsimp only));refine box_event ?hg (N:=6) ?hd (cs:=#[.int .i64 0,.slice none 0 0]) (t:=97) ?hr ?_;(case hd=>rfl);(case hg=>rfl);(case hr=>(go_simp;try rfl));intro gb216 hg w17 hbox hb;have n0_:=qK (qB (g:=gb208) (o:=_) (by (with_reducible repeat (first|refine qN ?_ _|refine qW ?_|refine qL ?_ _));exact BK208.out) hb);have n1_:=qK (qT (by repeat (with_reducible first|exact HB.out|apply qA|apply qD|apply qO|refine qS ?_ GE208.out)) hb);have n2_:=qK (hbox);have n3_:=qK ((by rw [hg];exact (qZ (by repeat (with_reducible first|exact HB.out|apply qA|apply qD|apply qO|refine qS ?_ GE208.out))):w.heap.size≤gb216));have n4_:=qK ((by rw [hg];exact (qZ (by repeat (with_reducible first|exact HB.out|apply qA|apply qD|apply qO|refine qS ?_ GE208.out))):w.heap.size≤gb216));have n5_:=qK ((by rw [hg];exact Nat.ne_of_lt (blk_lt (g:=gb208) (o:=_) (by (with_reducible repeat (first|refine qN ?_ _|refine qW ?_|refine qL ?_ _));exact BK208.out)):gb208 ≠ gb216));have n6_:=qK ((by rw [hg];exact Nat.ne_of_gt (blk_lt (g:=gb208) (o:=_) (by (with_reducible repeat (first|refine qN ?_ _|refine qW ?_|refine qL ?_ _));exact BK208.out)):gb216 ≠ gb208));clear BK208;clear HB;have BK208:=n0_;have HB:=n1_;have BK216:=n2_;have GW216:=n3_;have GE216:=n4_;have NB208_216:=n5_;have NB216_208:=n6_;clear n0_ n1_ n2_ n3_ n4_ n5_ n6_;clear hb hbox hg;have hnb18:=NB216_208.out;have hnc18:=NB208_216.out;have hcz19_0:w17.cell? ⟨gb216,0,none⟩=some (.int .i64 0):=(qC BK216.out 0).trans rfl;have hcz19_1:w17.cell? ⟨gb216,1,none⟩=some (.slice none 0 0):=(qC BK216.out 1).trans rfl;have hfz19_0:=qF BK216.out 0;have hfz19_1:=qF BK216.out 1))
         (try simp only [Act.put,List.setIfInBounds_toArray,List.set_cons_zero,List.set_cons_succ]);go_cut [52] (fun v52 wc=>∃ (kq:Nat) (x52_15:Bool),v52=.bool x52_15∧Aside0 (spec_GoodQuery.j2 kq l1 l0_1 (l0_1.length:Int) x28_2 x52_15 l0_0 l0_1 ((rd_T97 l0_1 x28_2).f0) ((rd_T97 l0_1 x28_2).f1)=some r)∧Aside0 (kq≤k2)∧Aside0 (wc.heap[gb208]?=some (.cells #[(.slice A0_0 l0_0.length c0_0),(.slice (some ad215) l0_1.length c0_1)] 32 (0,0)))∧Aside0 (wc.heap[gb216]?=some (.cells #[.int .i64 ((rd_T97 l0_1 x28_2).f0),(.slice A215_1 ((rd_T97 l0_1 x28_2).f1).length c215_1)] 97 (0,0)))∧Aside0 (Below w.heap.size w wc))
         case first =>
          have H:=HC16.out;clear HC16;by_cases c20:((rd_T97 l0_1 x28_2).f0) < 0
          ·rw [if_pos c20] at H;have c20b0:decide (((rd_T97 l0_1 x28_2).f0) < 0)=true:=decide_eq_true c20;clear c20;(first|rw [c20b0]|(simp only [i64_w,i32_w];rw [c20b0])|skip);have H':=qK H;clear H;try go_wp2
           have n0_:Aside0 (((w17.setCell ⟨gb216,0,none⟩ (.int .i64 ((rd_T97 l0_1 x28_2).f0))).setCell ⟨gb216,1,none⟩ (.slice A215_1 ((rd_T97 l0_1 x28_2).f1).length c215_1)).heap[gb208]?=some (.cells #[.slice A0_0 l0_0.length c0_0,.slice (some ad215) l0_1.length c0_1] 32 (0,0))):=⟨by (with_reducible repeat (first|refine qN ?_ _|refine qW ?_|refine qL ?_ _));refine qR ?_ NB208_216.out _;(with_reducible repeat (first|refine qN ?_ _|refine qW ?_|refine qL ?_ _));refine qR ?_ NB208_216.out _;(with_reducible repeat (first|refine qN ?_ _|refine qW ?_|refine qL ?_ _));exact BK208.out⟩;have n1_:Aside0 (((w17.setCell ⟨gb216,0,none⟩ (.int .i64 ((rd_T97 l0_1 x28_2).f0))).setCell ⟨gb216,1,none⟩ (.slice A215_1 ((rd_T97 l0_1 x28_2).f1).length c215_1)).heap[gb216]?=some (.cells #[.int .i64 ((rd_T97 l0_1 x28_2).f0),.slice A215_1 ((rd_T97 l0_1 x28_2).f1).length c215_1] 97 (0,0))):=⟨by (with_reducible repeat (first|refine qN ?_ _|refine qW ?_|refine qL ?_ _));refine qP (cs:=#[.int .i64 ((rd_T97 l0_1 x28_2).f0),.slice none 0 0]) ?_ 1 _ rfl;(with_reducible repeat (first|refine qN ?_ _|refine qW ?_|refine qL ?_ _));refine qP (cs:=#[.int .i64 0,.slice none 0 0]) ?_ 0 _ rfl;(with_reducible repeat (first|refine qN ?_ _|refine qW ?_|refine qL ?_ _));exact BK216.out⟩;have n2_:Aside0 (Below w.heap.size w ((w17.setCell ⟨gb216,0,none⟩ (.int .i64 ((rd_T97 l0_1 x28_2).f0))).setCell ⟨gb216,1,none⟩ (.slice A215_1 ((rd_T97 l0_1 x28_2).f1).length c215_1))):=⟨by repeat (first|(with_reducible first|exact HB.out|apply qA|apply qD|apply qO|refine qS ?_ GE208.out|refine qS ?_ GE216.out)|exact HB.out)⟩;(try clear BK208);(try clear BK216);(try clear HB);generalize ((w17.setCell ⟨gb216,0,none⟩ (.int .i64 ((rd_T97 l0_1 x28_2).f0))).setCell ⟨gb216,1,none⟩ (.slice A215_1 ((rd_T97 l0_1 x28_2).f1).length c215_1))=w21 at n0_ n1_ n2_ ⊢
           have BK208:=n0_;have BK216:=n1_;have HB:=n2_;clear n0_ n1_ n2_;(try (rw [drewN_self w21];generalize hq_:World.drewN w21 _=w21;have n0_:Aside0 (w21.heap[gb208]?=some (.cells #[.slice A0_0 l0_0.length c0_0,.slice (some ad215) l0_1.length c0_1] 32 (0,0))):=⟨by rw [← hq_];exact (by (with_reducible repeat (first|refine qN ?_ _|refine qW ?_|refine qL ?_ _));exact BK208.out)⟩;have n1_:Aside0 (w21.heap[gb216]?=some (.cells #[.int .i64 ((rd_T97 l0_1 x28_2).f0),.slice A215_1 ((rd_T97 l0_1 x28_2).f1).length c215_1] 97 (0,0))):=⟨by rw [← hq_];exact (by (with_reducible repeat (first|refine qN ?_ _|refine qW ?_|refine qL ?_ _));exact BK216.out)⟩;have n2_:Aside0 (Below w.heap.size w w21):=⟨by rw [← hq_];exact (by repeat (with_reducible first|exact HB.out|apply qA|apply qD|apply qO|refine qS ?_ GE208.out|refine qS ?_ GE216.out))⟩;clear BK208 BK216 HB hq_;have BK208:=n0_;have BK216:=n1_;have HB:=n2_;clear n0_ n1_ n2_));have n0_:=qK (qW BK208.out);have n1_:=qK (qW BK216.out);have n2_:=qK (qO HB.out);clear BK208;clear BK216;clear HB;have BK208:=n0_;have BK216:=n1_;have HB:=n2_;clear n0_ n1_ n2_;refine start_ (n:=21) (S:=fun w'=>w'.cell? ⟨gb216,0,none⟩=some (.int .i64 ((rd_T97 l0_1 x28_2).f0))∧w'.cell? ⟨gb216,1,none⟩=some (.slice A215_1 ((rd_T97 l0_1 x28_2).f1).length c215_1)) (ds:=[]) #[Z,Z,Z,Z,Z,Z,Z,Z,Z,Z,Z,Z,Z,Z,Z,Z,Z,Z,Z,Z,Z] (by kernel_rfl) rfl rfl ⟨(qC BK216.out 0).trans rfl,(qC BK216.out 1).trans rfl⟩ (fun hHeld=>?_);refine with_tabW spec_GoodQuery.tab6 spec_GoodQuery.bits6 (fun HT_ HW_=>?_);generalize w21.drew=w22 at BK208 BK216 HB hHeld ⊢
           refine pure_ (i:=0) (N:=some 32) (v:=?_) (a':=?_) #[Y,Z,Z,Z,Z,Z,Z,Z,Z,Z,Z,Z,Z,Z,Z,Z,Z,Z,Z,Z,Z] rfl rfl (any_of HT_.out (by kernel_rfl)) (fun _ _ _ h=>h) (Or.inl ⟨by rfl,?_⟩) ?_ ?_;rotate_left
           ·intro w';go_simp;with_reducible rfl
           rotate_left
           ·simp only [Act.put,sIb,sZ,sS,i64_w,i32_w];rfl
           refine take_ (i:=1) (N:=some 33) (v:=?_) (a':=?_) #[Y,Y,Z,Z,Z,Z,Z,Z,Z,Z,Z,Z,Z,Z,Z,Z,Z,Z,Z,Z,Z] rfl rfl (take_ofW HT_.out HW_.out (by kernel_rfl)) (fun _ _ _ h=>h) (Or.inl ⟨by rfl,?_⟩) hHeld ?_ ?_;rotate_left
           ·rintro w' ⟨s0,s1⟩;go_simp;with_reducible rfl
           rotate_left
           ·simp only [Act.put,sIb,sZ,sS,i64_w,i32_w];rfl
           refine pure_ (i:=2) (N:=some 34) (v:=?_) (a':=?_) #[Y,Y,Y,Z,Z,Z,Z,Z,Z,Z,Z,Z,Z,Z,Z,Z,Z,Z,Z,Z,Z] rfl rfl (any_of HT_.out (by kernel_rfl)) (fun _ _ _ h=>h) (Or.inl ⟨by rfl,?_⟩) ?_ ?_;rotate_left
           ·intro w';go_simp;with_reducible rfl
           rotate_left
           ·simp only [Act.put,sIb,sZ,sS,i64_w,i32_w];rfl
           refine pure_ (i:=3) (N:=some 35) (v:=?_) (a':=?_) #[Y,Y,Y,Y,Z,Z,Z,Z,Z,Z,Z,Z,Z,Z,Z,Z,Z,Z,Z,Z,Z] rfl rfl (any_of HT_.out (by kernel_rfl)) (fun _ _ _ h=>h) (Or.inl ⟨by rfl,?_⟩) ?_ ?_;rotate_left
           ·intro w';go_simp;with_reducible rfl
           rotate_left
           ·simp only [Act.put,sIb,sZ,sS,i64_w,i32_w];rfl
           refine pure_ (i:=4) (N:=some 36) (v:=undef) (a':=?_) #[Y,Y,Y,Y,Y,Z,Z,Z,Z,Z,Z,Z,Z,Z,Z,Z,Z,Z,Z,Z,Z] rfl rfl (any_of HT_.out (by kernel_rfl)) (fun _ _ _ h=>h) (Or.inr ⟨by rfl,rfl⟩) ?_ ?_;rotate_left
           ·simp only [Act.put,sIb,sZ,sS,i64_w,i32_w];rfl
           refine pure_ (i:=5) (N:=some 37) (v:=undef) (a':=?_) #[Y,Y,Y,Y,Y,Y,Z,Z,Z,Z,Z,Z,Z,Z,Z,Z,Z,Z,Z,Z,Z] rfl rfl (any_of HT_.out (by kernel_rfl)) (fun _ _ _ h=>h) (Or.inr ⟨by rfl,rfl⟩) ?_ ?_;rotate_left
           ·simp only [Act.put,sIb,sZ,sS,i64_w,i32_w];rfl
           refine pure_ (i:=6) (N:=some 38) (v:=undef) (a':=?_) #[Y,Y,Y,Y,Y,Y,Y,Z,Z,Z,Z,Z,Z,Z,Z,Z,Z,Z,Z,Z,Z] rfl rfl (any_of HT_.out (by kernel_rfl)) (fun _ _ _ h=>h) (Or.inr ⟨by rfl,rfl⟩) ?_ ?_;rotate_left
           ·simp only [Act.put,sIb,sZ,sS,i64_w,i32_w];rfl
           refine pure_ (i:=7) (N:=some 39) (v:=undef) (a':=?_) #[Y,Y,Y,Y,Y,Y,Y,Y,Z,Z,Z,Z,Z,Z,Z,Z,Z,Z,Z,Z,Z] rfl rfl (any_of HT_.out (by kernel_rfl)) (fun _ _ _ h=>h) (Or.inr ⟨by rfl,rfl⟩) ?_ ?_;rotate_left
           ·simp only [Act.put,sIb,sZ,sS,i64_w,i32_w];rfl
           refine pure_ (i:=8) (N:=some 40) (v:=undef) (a':=?_) #[Y,Y,Y,Y,Y,Y,Y,Y,Y,Z,Z,Z,Z,Z,Z,Z,Z,Z,Z,Z,Z] rfl rfl (any_of HT_.out (by kernel_rfl)) (fun _ _ _ h=>h) (Or.inr ⟨by rfl,rfl⟩) ?_ ?_;rotate_left
           ·simp only [Act.put,sIb,sZ,sS,i64_w,i32_w];rfl
           refine pure_ (i:=9) (N:=some 41) (v:=?_) (a':=?_) #[Y,Y,Y,Y,Y,Y,Y,Y,Y,Y,Z,Z,Z,Z,Z,Z,Z,Z,Z,Z,Z] rfl rfl (any_of HT_.out (by kernel_rfl)) (fun _ _ _ h=>h) (Or.inl ⟨by rfl,?_⟩) ?_ ?_;rotate_left
           ·intro w';go_simp;with_reducible rfl
           rotate_left
           ·simp only [Act.put,sIb,sZ,sS,i64_w,i32_w];rfl
           refine pure_ (i:=10) (N:=some 42) (v:=?_) (a':=?_) #[Y,Y,Y,Y,Y,Y,Y,Y,Y,Y,Y,Z,Z,Z,Z,Z,Z,Z,Z,Z,Z] rfl rfl (any_of HT_.out (by kernel_rfl)) (fun _ _ _ h=>h) (Or.inl ⟨by rfl,?_⟩) ?_ ?_;rotate_left
           ·intro w';go_simp;with_reducible rfl
           rotate_left
           ·simp only [Act.put,sIb,sZ,sS,i64_w,i32_w];rfl
           refine pure_ (i:=11) (N:=some 43) (v:=undef) (a':=?_) #[Y,Y,Y,Y,Y,Y,Y,Y,Y,Y,Y,Y,Z,Z,Z,Z,Z,Z,Z,Z,Z] rfl rfl (any_of HT_.out (by kernel_rfl)) (fun _ _ _ h=>h) (Or.inr ⟨by rfl,rfl⟩) ?_ ?_;rotate_left
           ·simp only [Act.put,sIb,sZ,sS,i64_w,i32_w];rfl
           refine pure_ (i:=12) (N:=some 44) (v:=undef) (a':=?_) #[Y,Y,Y,Y,Y,Y,Y,Y,Y,Y,Y,Y,Y,Z,Z,Z,Z,Z,Z,Z,Z] rfl rfl (any_of HT_.out (by kernel_rfl)) (fun _ _ _ h=>h) (Or.inr ⟨by rfl,rfl⟩) ?_ ?_;rotate_left
           ·simp only [Act.put,sIb,sZ,sS,i64_w,i32_w];rfl
           refine pure_ (i:=13) (N:=some 45) (v:=undef) (a':=?_) #[Y,Y,Y,Y,Y,Y,Y,Y,Y,Y,Y,Y,Y,Y,Z,Z,Z,Z,Z,Z,Z] rfl rfl (any_of HT_.out (by kernel_rfl)) (fun _ _ _ h=>h) (Or.inr ⟨by rfl,rfl⟩) ?_ ?_;rotate_left
           ·simp only [Act.put,sIb,sZ,sS,i64_w,i32_w];rfl
           refine pure_ (i:=14) (N:=some 46) (v:=undef) (a':=?_) #[Y,Y,Y,Y,Y,Y,Y,Y,Y,Y,Y,Y,Y,Y,Y,Z,Z,Z,Z,Z,Z] rfl rfl (any_of HT_.out (by kernel_rfl)) (fun _ _ _ h=>h) (Or.inr ⟨by rfl,rfl⟩) ?_ ?_;rotate_left
           ·simp only [Act.put,sIb,sZ,sS,i64_w,i32_w];rfl
           refine pure_ (i:=15) (N:=some 47) (v:=undef) (a':=?_) #[Y,Y,Y,Y,Y,Y,Y,Y,Y,Y,Y,Y,Y,Y,Y,Y,Z,Z,Z,Z,Z] rfl rfl (any_of HT_.out (by kernel_rfl)) (fun _ _ _ h=>h) (Or.inr ⟨by rfl,rfl⟩) ?_ ?_;rotate_left
           ·simp only [Act.put,sIb,sZ,sS,i64_w,i32_w];rfl
           refine pure_ (i:=16) (N:=some 48) (v:=undef) (a':=?_) #[Y,Y,Y,Y,Y,Y,Y,Y,Y,Y,Y,Y,Y,Y,Y,Y,Y,Z,Z,Z,Z] rfl rfl (any_of HT_.out (by kernel_rfl)) (fun _ _ _ h=>h) (Or.inr ⟨by rfl,rfl⟩) ?_ ?_;rotate_left
           ·simp only [Act.put,sIb,sZ,sS,i64_w,i32_w];rfl
           refine pure_ (i:=17) (N:=some 49) (v:=undef) (a':=?_) #[Y,Y,Y,Y,Y,Y,Y,Y,Y,Y,Y,Y,Y,Y,Y,Y,Y,Y,Z,Z,Z] rfl rfl (any_of HT_.out (by kernel_rfl)) (fun _ _ _ h=>h) (Or.inr ⟨by rfl,rfl⟩) ?_ ?_;rotate_left
           ·simp only [Act.put,sIb,sZ,sS,i64_w,i32_w];rfl
           refine pure_ (i:=18) (N:=some 50) (v:=undef) (a':=?_) #[Y,Y,Y,Y,Y,Y,Y,Y,Y,Y,Y,Y,Y,Y,Y,Y,Y,Y,Y,Z,Z] rfl rfl (any_of HT_.out (by kernel_rfl)) (fun _ _ _ h=>h) (Or.inr ⟨by rfl,rfl⟩) ?_ ?_;rotate_left
           ·simp only [Act.put,sIb,sZ,sS,i64_w,i32_w];rfl
           refine pure_ (i:=19) (N:=some 51) (v:=undef) (a':=?_) #[Y,Y,Y,Y,Y,Y,Y,Y,Y,Y,Y,Y,Y,Y,Y,Y,Y,Y,Y,Y,Z] rfl rfl (any_of HT_.out (by kernel_rfl)) (fun _ _ _ h=>h) (Or.inr ⟨by rfl,rfl⟩) ?_ ?_;rotate_left
           ·simp only [Act.put,sIb,sZ,sS,i64_w,i32_w];rfl
           refine pure_ (i:=20) (N:=some 52) (v:=?_) (a':=?_) #[Y,Y,Y,Y,Y,Y,Y,Y,Y,Y,Y,Y,Y,Y,Y,Y,Y,Y,Y,Y,Y] rfl rfl (any_of HT_.out (by kernel_rfl)) (fun _ _ _ h=>h) (Or.inl ⟨by rfl,?_⟩) ?_ ?_;rotate_left
           ·intro w';go_simp;with_reducible rfl
           rotate_left
           ·simp only [Act.put,sIb,sZ,sS,i64_w,i32_w];rfl
           refine done_ (done_of HT_.out (by kernel_rfl)) ?_;try go_wp2
           go_meet
           case rel=>exact ⟨_,(true),(by first|rfl|(simp;done)|(simp [*];done)),H',⟨by have:=HJ2.out;have:=HK2.out;first|omega|exact Nat.le_refl _⟩,⟨by (with_reducible repeat (first|refine qN ?_ _|refine qW ?_|refine qL ?_ _));exact BK208.out⟩,⟨by (with_reducible repeat (first|refine qN ?_ _|refine qW ?_|refine qL ?_ _));exact BK216.out⟩,⟨by repeat (first|(with_reducible first|exact HB.out|apply qA|apply qD|apply qO|refine qS ?_ GE208.out|refine qS ?_ GE216.out)|exact HB.out)⟩⟩
          ·rw [if_neg c20] at H;have c20b0:decide (((rd_T97 l0_1 x28_2).f0) < 0)=false:=decide_eq_false c20;clear c20;(first|rw [c20b0]|(simp only [i64_w,i32_w];rw [c20b0])|skip);by_cases c23:((rd_T97 l0_1 x28_2).f0) ≥ (l1.length:Int)
           ·rw [if_pos c23] at H;have c23b0:decide ((l1.length:Int)≤((rd_T97 l0_1 x28_2).f0))=true:=decide_eq_true c23;clear c23;have H':=qK H;clear H;try go_wp2
            have n0_:Aside0 (((w17.setCell ⟨gb216,0,none⟩ (.int .i64 ((rd_T97 l0_1 x28_2).f0))).setCell ⟨gb216,1,none⟩ (.slice A215_1 ((rd_T97 l0_1 x28_2).f1).length c215_1)).heap[gb208]?=some (.cells #[.slice A0_0 l0_0.length c0_0,.slice (some ad215) l0_1.length c0_1] 32 (0,0))):=⟨by (with_reducible repeat (first|refine qN ?_ _|refine qW ?_|refine qL ?_ _));refine qR ?_ NB208_216.out _;(with_reducible repeat (first|refine qN ?_ _|refine qW ?_|refine qL ?_ _));refine qR ?_ NB208_216.out _;(with_reducible repeat (first|refine qN ?_ _|refine qW ?_|refine qL ?_ _));exact BK208.out⟩;have n1_:Aside0 (((w17.setCell ⟨gb216,0,none⟩ (.int .i64 ((rd_T97 l0_1 x28_2).f0))).setCell ⟨gb216,1,none⟩ (.slice A215_1 ((rd_T97 l0_1 x28_2).f1).length c215_1)).heap[gb216]?=some (.cells #[.int .i64 ((rd_T97 l0_1 x28_2).f0),.slice A215_1 ((rd_T97 l0_1 x28_2).f1).length c215_1] 97 (0,0))):=⟨by (with_reducible repeat (first|refine qN ?_ _|refine qW ?_|refine qL ?_ _));refine qP (cs:=#[.int .i64 ((rd_T97 l0_1 x28_2).f0),.slice none 0 0]) ?_ 1 _ rfl;(with_reducible repeat (first|refine qN ?_ _|refine qW ?_|refine qL ?_ _));refine qP (cs:=#[.int .i64 0,.slice none 0 0]) ?_ 0 _ rfl;(with_reducible repeat (first|refine qN ?_ _|refine qW ?_|refine qL ?_ _));exact BK216.out⟩;have n2_:Aside0 (Below w.heap.size w ((w17.setCell ⟨gb216,0,none⟩ (.int .i64 ((rd_T97 l0_1 x28_2).f0))).setCell ⟨gb216,1,none⟩ (.slice A215_1 ((rd_T97 l0_1 x28_2).f1).length c215_1))):=⟨by repeat (first|(with_reducible first|exact HB.out|apply qA|apply qD|apply qO|refine qS ?_ GE208.out|refine qS ?_ GE216.out)|exact HB.out)⟩;(try clear BK208);(try clear BK216);(try clear HB);generalize ((w17.setCell ⟨gb216,0,none⟩ (.int .i64 ((rd_T97 l0_1 x28_2).f0))).setCell ⟨gb216,1,none⟩ (.slice A215_1 ((rd_T97 l0_1 x28_2).f1).length c215_1))=w24 at n0_ n1_ n2_ ⊢
            have BK208:=n0_;have BK216:=n1_;have HB:=n2_;clear n0_ n1_ n2_;(try (rw [drewN_self w24];generalize hq_:World.drewN w24 _=w24;have n0_:Aside0 (w24.heap[gb208]?=some (.cells #[.slice A0_0 l0_0.length c0_0,.slice (some ad215) l0_1.length c0_1] 32 (0,0))):=⟨by rw [← hq_];exact (by (with_reducible repeat (first|refine qN ?_ _|refine qW ?_|refine qL ?_ _));exact BK208.out)⟩;have n1_:Aside0 (w24.heap[gb216]?=some (.cells #[.int .i64 ((rd_T97 l0_1 x28_2).f0),.slice A215_1 ((rd_T97 l0_1 x28_2).f1).length c215_1] 97 (0,0))):=⟨by rw [← hq_];exact (by (with_reducible repeat (first|refine qN ?_ _|refine qW ?_|refine qL ?_ _));exact BK216.out)⟩;have n2_:Aside0 (Below w.heap.size w w24):=⟨by rw [← hq_];exact (by repeat (with_reducible first|exact HB.out|apply qA|apply qD|apply qO|refine qS ?_ GE208.out|refine qS ?_ GE216.out))⟩;clear BK208 BK216 HB hq_;have BK208:=n0_;have BK216:=n1_;have HB:=n2_;clear n0_ n1_ n2_));have n0_:=qK (qW BK208.out);have n1_:=qK (qW BK216.out);have n2_:=qK (qO HB.out);clear BK208;clear BK216;clear HB;have BK208:=n0_;have BK216:=n1_;have HB:=n2_;clear n0_ n1_ n2_;refine start_ (n:=21) (S:=fun w'=>w'.cell? ⟨gb216,0,none⟩=some (.int .i64 ((rd_T97 l0_1 x28_2).f0))∧w'.cell? ⟨gb216,1,none⟩=some (.slice A215_1 ((rd_T97 l0_1 x28_2).f1).length c215_1)) (ds:=[]) #[Z,Z,Z,Z,Z,Z,Z,Z,Z,Z,Z,Z,Z,Z,Z,Z,Z,Z,Z,Z,Z] (by kernel_rfl) rfl rfl ⟨(qC BK216.out 0).trans rfl,(qC BK216.out 1).trans rfl⟩ (fun hHeld=>?_);refine with_tabW spec_GoodQuery.tab6 spec_GoodQuery.bits6 (fun HT_ HW_=>?_);generalize w24.drew=w25 at BK208 BK216 HB hHeld ⊢
            refine pure_ (i:=0) (N:=some 32) (v:=?_) (a':=?_) #[Y,Z,Z,Z,Z,Z,Z,Z,Z,Z,Z,Z,Z,Z,Z,Z,Z,Z,Z,Z,Z] rfl rfl (any_of HT_.out (by kernel_rfl)) (fun _ _ _ h=>h) (Or.inl ⟨by rfl,?_⟩) ?_ ?_;rotate_left
            ·intro w';go_simp;with_reducible rfl
            rotate_left
            ·simp only [Act.put,sIb,sZ,sS,i64_w,i32_w];rfl
            refine take_ (i:=1) (N:=some 33) (v:=?_) (a':=?_) #[Y,Y,Z,Z,Z,Z,Z,Z,Z,Z,Z,Z,Z,Z,Z,Z,Z,Z,Z,Z,Z] rfl rfl (take_ofW HT_.out HW_.out (by kernel_rfl)) (fun _ _ _ h=>h) (Or.inl ⟨by rfl,?_⟩) hHeld ?_ ?_;rotate_left
            ·rintro w' ⟨s0,s1⟩;go_simp;with_reducible rfl
            rotate_left
            ·simp only [Act.put,sIb,sZ,sS,i64_w,i32_w];rfl
            refine pure_ (i:=2) (N:=some 34) (v:=?_) (a':=?_) #[Y,Y,Y,Z,Z,Z,Z,Z,Z,Z,Z,Z,Z,Z,Z,Z,Z,Z,Z,Z,Z] rfl rfl (any_of HT_.out (by kernel_rfl)) (fun _ _ _ h=>h) (Or.inl ⟨by rfl,?_⟩) ?_ ?_;rotate_left
            ·intro w';go_simp;with_reducible rfl
            rotate_left
            ·simp only [Act.put,sIb,sZ,sS,i64_w,i32_w];rfl
            refine pure_ (i:=3) (N:=some 35) (v:=?_) (a':=?_) #[Y,Y,Y,Y,Z,Z,Z,Z,Z,Z,Z,Z,Z,Z,Z,Z,Z,Z,Z,Z,Z] rfl rfl (any_of HT_.out (by kernel_rfl)) (fun _ _ _ h=>h) (Or.inl ⟨by rfl,?_⟩) ?_ ?_;rotate_left
            ·intro w';go_simp;with_reducible rfl
            rotate_left
            ·simp only [Act.put,sIb,sZ,sS,i64_w,i32_w];rfl
            refine pure_ (i:=4) (N:=some 36) (v:=?_) (a':=?_) #[Y,Y,Y,Y,Y,Z,Z,Z,Z,Z,Z,Z,Z,Z,Z,Z,Z,Z,Z,Z,Z] rfl rfl (any_of HT_.out (by kernel_rfl)) (fun _ _ _ h=>h) (Or.inl ⟨by rfl,?_⟩) ?_ ?_;rotate_left
            ·intro w';go_simp;with_reducible rfl
            rotate_left
            ·simp only [Act.put,sIb,sZ,sS,i64_w,i32_w];rfl
            refine pure_ (i:=6) (N:=some 38) (v:=?_) (a':=?_) #[Y,Y,Y,Y,Y,Z,Y,Z,Z,Z,Z,Z,Z,Z,Z,Z,Z,Z,Z,Z,Z] rfl rfl (any_of HT_.out (by kernel_rfl)) (fun _ _ _ h=>h) (Or.inl ⟨by rfl,?_⟩) ?_ ?_;rotate_left
            ·intro w';go_simp;with_reducible rfl
            rotate_left
            ·simp only [Act.put,sIb,sZ,sS,i64_w,i32_w];rfl
            refine pure_ (i:=7) (N:=some 39) (v:=?_) (a':=?_) #[Y,Y,Y,Y,Y,Z,Y,Y,Z,Z,Z,Z,Z,Z,Z,Z,Z,Z,Z,Z,Z] rfl rfl (any_of HT_.out (by kernel_rfl)) (fun _ _ _ h=>h) (Or.inl ⟨by rfl,?_⟩) ?_ ?_;rotate_left
            ·intro w';go_simp;with_reducible rfl
            rotate_left
            ·simp only [Act.put,sIb,sZ,sS,i64_w,i32_w];rfl
            refine take_ (i:=5) (N:=some 37) (v:=?_) (a':=?_) #[Y,Y,Y,Y,Y,Y,Y,Y,Z,Z,Z,Z,Z,Z,Z,Z,Z,Z,Z,Z,Z] rfl rfl (take_ofW HT_.out HW_.out (by kernel_rfl)) (fun _ _ _ h=>h) (Or.inl ⟨by rfl,?_⟩) hHeld ?_ ?_;rotate_left
            ·rintro w' ⟨s0,s1⟩;go_simp;with_reducible rfl
            rotate_left
            ·simp only [Act.put,sIb,sZ,sS,i64_w,i32_w];rfl
            refine pure_ (i:=8) (N:=some 40) (v:=?_) (a':=?_) #[Y,Y,Y,Y,Y,Y,Y,Y,Y,Z,Z,Z,Z,Z,Z,Z,Z,Z,Z,Z,Z] rfl rfl (any_of HT_.out (by kernel_rfl)) (fun _ _ _ h=>h) (Or.inl ⟨by rfl,?_⟩) ?_ ?_;rotate_left
            ·intro w';go_simp;with_reducible rfl
            rotate_left
            ·simp only [Act.put,sIb,sZ,sS,i64_w,i32_w];rfl
            refine pure_ (i:=9) (N:=some 41) (v:=?_) (a':=?_) #[Y,Y,Y,Y,Y,Y,Y,Y,Y,Y,Z,Z,Z,Z,Z,Z,Z,Z,Z,Z,Z] rfl rfl (any_of HT_.out (by kernel_rfl)) (fun _ _ _ h=>h) (Or.inl ⟨by rfl,?_⟩) ?_ ?_;rotate_left
            ·intro w';go_simp;with_reducible rfl
            rotate_left
            ·simp only [Act.put,sIb,sZ,sS,i64_w,i32_w];rfl
            refine pure_ (i:=10) (N:=some 42) (v:=?_) (a':=?_) #[Y,Y,Y,Y,Y,Y,Y,Y,Y,Y,Y,Z,Z,Z,Z,Z,Z,Z,Z,Z,Z] rfl rfl (any_of HT_.out (by kernel_rfl)) (fun _ _ _ h=>h) (Or.inl ⟨by rfl,?_⟩) ?_ ?_;rotate_left
            ·intro w';go_simp;with_reducible rfl
            rotate_left
            ·simp only [Act.put,sIb,sZ,sS,i64_w,i32_w];rfl
            refine pure_ (i:=11) (N:=some 43) (v:=undef) (a':=?_) #[Y,Y,Y,Y,Y,Y,Y,Y,Y,Y,Y,Y,Z,Z,Z,Z,Z,Z,Z,Z,Z] rfl rfl (any_of HT_.out (by kernel_rfl)) (fun _ _ _ h=>h) (Or.inr ⟨by rfl,rfl⟩) ?_ ?_;rotate_left
            ·simp only [Act.put,sIb,sZ,sS,i64_w,i32_w];rfl
            refine pure_ (i:=12) (N:=some 44) (v:=undef) (a':=?_) #[Y,Y,Y,Y,Y,Y,Y,Y,Y,Y,Y,Y,Y,Z,Z,Z,Z,Z,Z,Z,Z] rfl rfl (any_of HT_.out (by kernel_rfl)) (fun _ _ _ h=>h) (Or.inr ⟨by rfl,rfl⟩) ?_ ?_;rotate_left
            ·simp only [Act.put,sIb,sZ,sS,i64_w,i32_w];rfl
            refine pure_ (i:=13) (N:=some 45) (v:=undef) (a':=?_) #[Y,Y,Y,Y,Y,Y,Y,Y,Y,Y,Y,Y,Y,Y,Z,Z,Z,Z,Z,Z,Z] rfl rfl (any_of HT_.out (by kernel_rfl)) (fun _ _ _ h=>h) (Or.inr ⟨by rfl,rfl⟩) ?_ ?_;rotate_left
            ·simp only [Act.put,sIb,sZ,sS,i64_w,i32_w];rfl
            refine pure_ (i:=14) (N:=some 46) (v:=undef) (a':=?_) #[Y,Y,Y,Y,Y,Y,Y,Y,Y,Y,Y,Y,Y,Y,Y,Z,Z,Z,Z,Z,Z] rfl rfl (any_of HT_.out (by kernel_rfl)) (fun _ _ _ h=>h) (Or.inr ⟨by rfl,rfl⟩) ?_ ?_;rotate_left
            ·simp only [Act.put,sIb,sZ,sS,i64_w,i32_w];rfl
            refine pure_ (i:=15) (N:=some 47) (v:=undef) (a':=?_) #[Y,Y,Y,Y,Y,Y,Y,Y,Y,Y,Y,Y,Y,Y,Y,Y,Z,Z,Z,Z,Z] rfl rfl (any_of HT_.out (by kernel_rfl)) (fun _ _ _ h=>h) (Or.inr ⟨by rfl,rfl⟩) ?_ ?_;rotate_left
            ·simp only [Act.put,sIb,sZ,sS,i64_w,i32_w];rfl
            refine pure_ (i:=16) (N:=some 48) (v:=undef) (a':=?_) #[Y,Y,Y,Y,Y,Y,Y,Y,Y,Y,Y,Y,Y,Y,Y,Y,Y,Z,Z,Z,Z] rfl rfl (any_of HT_.out (by kernel_rfl)) (fun _ _ _ h=>h) (Or.inr ⟨by rfl,rfl⟩) ?_ ?_;rotate_left
            ·simp only [Act.put,sIb,sZ,sS,i64_w,i32_w];rfl
            refine pure_ (i:=17) (N:=some 49) (v:=undef) (a':=?_) #[Y,Y,Y,Y,Y,Y,Y,Y,Y,Y,Y,Y,Y,Y,Y,Y,Y,Y,Z,Z,Z] rfl rfl (any_of HT_.out (by kernel_rfl)) (fun _ _ _ h=>h) (Or.inr ⟨by rfl,rfl⟩) ?_ ?_;rotate_left
            ·simp only [Act.put,sIb,sZ,sS,i64_w,i32_w];rfl
            refine pure_ (i:=18) (N:=some 50) (v:=undef) (a':=?_) #[Y,Y,Y,Y,Y,Y,Y,Y,Y,Y,Y,Y,Y,Y,Y,Y,Y,Y,Y,Z,Z] rfl rfl (any_of HT_.out (by kernel_rfl)) (fun _ _ _ h=>h) (Or.inr ⟨by rfl,rfl⟩) ?_ ?_;rotate_left
            ·simp only [Act.put,sIb,sZ,sS,i64_w,i32_w];rfl
            refine pure_ (i:=19) (N:=some 51) (v:=undef) (a':=?_) #[Y,Y,Y,Y,Y,Y,Y,Y,Y,Y,Y,Y,Y,Y,Y,Y,Y,Y,Y,Y,Z] rfl rfl (any_of HT_.out (by kernel_rfl)) (fun _ _ _ h=>h) (Or.inr ⟨by rfl,rfl⟩) ?_ ?_;rotate_left
            ·simp only [Act.put,sIb,sZ,sS,i64_w,i32_w];rfl
            refine pure_ (i:=20) (N:=some 52) (v:=?_) (a':=?_) #[Y,Y,Y,Y,Y,Y,Y,Y,Y,Y,Y,Y,Y,Y,Y,Y,Y,Y,Y,Y,Y] rfl rfl (any_of HT_.out (by kernel_rfl)) (fun _ _ _ h=>h) (Or.inl ⟨by rfl,?_⟩) ?_ ?_;rotate_left
            ·intro w';go_simp;with_reducible rfl
            rotate_left
            ·simp only [Act.put,sIb,sZ,sS,i64_w,i32_w];rfl
            refine done_ (done_of HT_.out (by kernel_rfl)) ?_;try go_wp2
            go_meet
            case rel=>exact ⟨_,(true),(by first|rfl|(simp;done)|(simp [*];done)),H',⟨by have:=HJ2.out;have:=HK2.out;first|omega|exact Nat.le_refl _⟩,⟨by (with_reducible repeat (first|refine qN ?_ _|refine qW ?_|refine qL ?_ _));exact BK208.out⟩,⟨by (with_reducible repeat (first|refine qN ?_ _|refine qW ?_|refine qL ?_ _));exact BK216.out⟩,⟨by repeat (first|(with_reducible first|exact HB.out|apply qA|apply qD|apply qO|refine qS ?_ GE208.out|refine qS ?_ GE216.out)|exact HB.out)⟩⟩
           ·rw [if_neg c23] at H;have c23b0:decide ((l1.length:Int)≤((rd_T97 l0_1 x28_2).f0))=false:=decide_eq_false c23;clear c23;by_cases c26:0≤((rd_T97 l0_1 x28_2).f0)
            ·rw [if_pos c26] at H;have c26b0:decide (0≤((rd_T97 l0_1 x28_2).f0))=true:=decide_eq_true c26;clear c26;by_cases c27:((rd_T97 l0_1 x28_2).f0) < (l1.length:Int)
             ·rw [if_pos c27] at H;have c27b0:decide (((rd_T97 l0_1 x28_2).f0) < (l1.length:Int))=true:=decide_eq_true c27;clear c27;have H':=qK H;clear H;try go_wp2
              have n0_:Aside0 (((w17.setCell ⟨gb216,0,none⟩ (.int .i64 ((rd_T97 l0_1 x28_2).f0))).setCell ⟨gb216,1,none⟩ (.slice A215_1 ((rd_T97 l0_1 x28_2).f1).length c215_1)).heap[gb208]?=some (.cells #[.slice A0_0 l0_0.length c0_0,.slice (some ad215) l0_1.length c0_1] 32 (0,0))):=⟨by (with_reducible repeat (first|refine qN ?_ _|refine qW ?_|refine qL ?_ _));refine qR ?_ NB208_216.out _;(with_reducible repeat (first|refine qN ?_ _|refine qW ?_|refine qL ?_ _));refine qR ?_ NB208_216.out _;(with_reducible repeat (first|refine qN ?_ _|refine qW ?_|refine qL ?_ _));exact BK208.out⟩;have n1_:Aside0 (((w17.setCell ⟨gb216,0,none⟩ (.int .i64 ((rd_T97 l0_1 x28_2).f0))).setCell ⟨gb216,1,none⟩ (.slice A215_1 ((rd_T97 l0_1 x28_2).f1).length c215_1)).heap[gb216]?=some (.cells #[.int .i64 ((rd_T97 l0_1 x28_2).f0),.slice A215_1 ((rd_T97 l0_1 x28_2).f1).length c215_1] 97 (0,0))):=⟨by (with_reducible repeat (first|refine qN ?_ _|refine qW ?_|refine qL ?_ _));refine qP (cs:=#[.int .i64 ((rd_T97 l0_1 x28_2).f0),.slice none 0 0]) ?_ 1 _ rfl;(with_reducible repeat (first|refine qN ?_ _|refine qW ?_|refine qL ?_ _));refine qP (cs:=#[.int .i64 0,.slice none 0 0]) ?_ 0 _ rfl;(with_reducible repeat (first|refine qN ?_ _|refine qW ?_|refine qL ?_ _));exact BK216.out⟩;have n2_:Aside0 (Below w.heap.size w ((w17.setCell ⟨gb216,0,none⟩ (.int .i64 ((rd_T97 l0_1 x28_2).f0))).setCell ⟨gb216,1,none⟩ (.slice A215_1 ((rd_T97 l0_1 x28_2).f1).length c215_1))):=⟨by repeat (first|(with_reducible first|exact HB.out|apply qA|apply qD|apply qO|refine qS ?_ GE208.out|refine qS ?_ GE216.out)|exact HB.out)⟩;(try clear BK208);(try clear BK216);(try clear HB);generalize ((w17.setCell ⟨gb216,0,none⟩ (.int .i64 ((rd_T97 l0_1 x28_2).f0))).setCell ⟨gb216,1,none⟩ (.slice A215_1 ((rd_T97 l0_1 x28_2).f1).length c215_1))=w28 at n0_ n1_ n2_ ⊢
              have BK208:=n0_;have BK216:=n1_;have HB:=n2_;clear n0_ n1_ n2_;(try (rw [drewN_self w28];generalize hq_:World.drewN w28 _=w28;have n0_:Aside0 (w28.heap[gb208]?=some (.cells #[.slice A0_0 l0_0.length c0_0,.slice (some ad215) l0_1.length c0_1] 32 (0,0))):=⟨by rw [← hq_];exact (by (with_reducible repeat (first|refine qN ?_ _|refine qW ?_|refine qL ?_ _));exact BK208.out)⟩;have n1_:Aside0 (w28.heap[gb216]?=some (.cells #[.int .i64 ((rd_T97 l0_1 x28_2).f0),.slice A215_1 ((rd_T97 l0_1 x28_2).f1).length c215_1] 97 (0,0))):=⟨by rw [← hq_];exact (by (with_reducible repeat (first|refine qN ?_ _|refine qW ?_|refine qL ?_ _));exact BK216.out)⟩;have n2_:Aside0 (Below w.heap.size w w28):=⟨by rw [← hq_];exact (by repeat (with_reducible first|exact HB.out|apply qA|apply qD|apply qO|refine qS ?_ GE208.out|refine qS ?_ GE216.out))⟩;clear BK208 BK216 HB hq_;have BK208:=n0_;have BK216:=n1_;have HB:=n2_;clear n0_ n1_ n2_));have n0_:=qK (qW BK208.out);have n1_:=qK (qW BK216.out);have n2_:=qK (qO HB.out);clear BK208;clear BK216;clear HB;have BK208:=n0_;have BK216:=n1_;have HB:=n2_;clear n0_ n1_ n2_;have p217:0≤(((rd_T97 l0_1 x28_2).f0):Int):=of_decide_eq_true (by first|(with_reducible assumption)|assumption);have q217:((rd_T97 l0_1 x28_2).f0) < (l1.length:Int):=of_decide_eq_true (by first|(with_reducible assumption)|assumption);obtain ⟨ad217,e217,hx217_0⟩:=Kd.at_int HR1.out ((rd_T97 l0_1 x28_2).f0) p217 q217;have hw217_0:=hx217_0;cases e217
              replace hx217_0:=(HB.out.cell (World.block_lt_of_cell? w _ hx217_0)).trans hx217_0;replace p217:=eq_true p217;replace q217:=eq_true q217;refine start_ (n:=21) (S:=fun w'=>w'.cell? ⟨gb216,0,none⟩=some (.int .i64 ((rd_T97 l0_1 x28_2).f0))∧w'.cell? ⟨gb216,1,none⟩=some (.slice A215_1 ((rd_T97 l0_1 x28_2).f1).length c215_1)∧w'.cell? (ad217.add (((rd_T97 l0_1 x28_2).f0)).toNat)=some (.int .i64 (rd l1 ((rd_T97 l0_1 x28_2).f0)))) (ds:=[]) #[Z,Z,Z,Z,Z,Z,Z,Z,Z,Z,Z,Z,Z,Z,Z,Z,Z,Z,Z,Z,Z] (by kernel_rfl) rfl rfl ⟨(qC BK216.out 0).trans rfl,(qC BK216.out 1).trans rfl,((HB.out.cell (World.block_lt_of_cell? w _ hw217_0)).trans hw217_0)⟩ (fun hHeld=>?_);refine with_tabW spec_GoodQuery.tab6 spec_GoodQuery.bits6 (fun HT_ HW_=>?_);generalize w28.drew=w29 at BK208 BK216 HB hx217_0 hHeld ⊢
              refine pure_ (i:=0) (N:=some 32) (v:=?_) (a':=?_) #[Y,Z,Z,Z,Z,Z,Z,Z,Z,Z,Z,Z,Z,Z,Z,Z,Z,Z,Z,Z,Z] rfl rfl (any_of HT_.out (by kernel_rfl)) (fun _ _ _ h=>h) (Or.inl ⟨by rfl,?_⟩) ?_ ?_;rotate_left
              ·intro w';go_simp;with_reducible rfl
              rotate_left
              ·simp only [Act.put,sIb,sZ,sS,i64_w,i32_w];rfl
              refine take_ (i:=1) (N:=some 33) (v:=?_) (a':=?_) #[Y,Y,Z,Z,Z,Z,Z,Z,Z,Z,Z,Z,Z,Z,Z,Z,Z,Z,Z,Z,Z] rfl rfl (take_ofW HT_.out HW_.out (by kernel_rfl)) (fun _ _ _ h=>h) (Or.inl ⟨by rfl,?_⟩) hHeld ?_ ?_;rotate_left
              ·rintro w' ⟨s0,s1,s2⟩;go_simp;with_reducible rfl
              rotate_left
              ·simp only [Act.put,sIb,sZ,sS,i64_w,i32_w];rfl
              refine pure_ (i:=2) (N:=some 34) (v:=?_) (a':=?_) #[Y,Y,Y,Z,Z,Z,Z,Z,Z,Z,Z,Z,Z,Z,Z,Z,Z,Z,Z,Z,Z] rfl rfl (any_of HT_.out (by kernel_rfl)) (fun _ _ _ h=>h) (Or.inl ⟨by rfl,?_⟩) ?_ ?_;rotate_left
              ·intro w';go_simp;with_reducible rfl
              rotate_left
              ·simp only [Act.put,sIb,sZ,sS,i64_w,i32_w];rfl
              refine pure_ (i:=3) (N:=some 35) (v:=?_) (a':=?_) #[Y,Y,Y,Y,Z,Z,Z,Z,Z,Z,Z,Z,Z,Z,Z,Z,Z,Z,Z,Z,Z] rfl rfl (any_of HT_.out (by kernel_rfl)) (fun _ _ _ h=>h) (Or.inl ⟨by rfl,?_⟩) ?_ ?_;rotate_left
              ·intro w';go_simp;with_reducible rfl
              rotate_left
              ·simp only [Act.put,sIb,sZ,sS,i64_w,i32_w];rfl
              refine pure_ (i:=4) (N:=some 36) (v:=?_) (a':=?_) #[Y,Y,Y,Y,Y,Z,Z,Z,Z,Z,Z,Z,Z,Z,Z,Z,Z,Z,Z,Z,Z] rfl rfl (any_of HT_.out (by kernel_rfl)) (fun _ _ _ h=>h) (Or.inl ⟨by rfl,?_⟩) ?_ ?_;rotate_left
              ·intro w';go_simp;with_reducible rfl
              rotate_left
              ·simp only [Act.put,sIb,sZ,sS,i64_w,i32_w];rfl
              refine pure_ (i:=6) (N:=some 38) (v:=?_) (a':=?_) #[Y,Y,Y,Y,Y,Z,Y,Z,Z,Z,Z,Z,Z,Z,Z,Z,Z,Z,Z,Z,Z] rfl rfl (any_of HT_.out (by kernel_rfl)) (fun _ _ _ h=>h) (Or.inl ⟨by rfl,?_⟩) ?_ ?_;rotate_left
              ·intro w';go_simp;with_reducible rfl
              rotate_left
              ·simp only [Act.put,sIb,sZ,sS,i64_w,i32_w];rfl
              refine pure_ (i:=7) (N:=some 39) (v:=?_) (a':=?_) #[Y,Y,Y,Y,Y,Z,Y,Y,Z,Z,Z,Z,Z,Z,Z,Z,Z,Z,Z,Z,Z] rfl rfl (any_of HT_.out (by kernel_rfl)) (fun _ _ _ h=>h) (Or.inl ⟨by rfl,?_⟩) ?_ ?_;rotate_left
              ·intro w';go_simp;with_reducible rfl
              rotate_left
              ·simp only [Act.put,sIb,sZ,sS,i64_w,i32_w];rfl
              refine take_ (i:=5) (N:=some 37) (v:=?_) (a':=?_) #[Y,Y,Y,Y,Y,Y,Y,Y,Z,Z,Z,Z,Z,Z,Z,Z,Z,Z,Z,Z,Z] rfl rfl (take_ofW HT_.out HW_.out (by kernel_rfl)) (fun _ _ _ h=>h) (Or.inl ⟨by rfl,?_⟩) hHeld ?_ ?_;rotate_left
              ·rintro w' ⟨s0,s1,s2⟩;go_simp;with_reducible rfl
              rotate_left
              ·simp only [Act.put,sIb,sZ,sS,i64_w,i32_w];rfl
              refine pure_ (i:=8) (N:=some 40) (v:=?_) (a':=?_) #[Y,Y,Y,Y,Y,Y,Y,Y,Y,Z,Z,Z,Z,Z,Z,Z,Z,Z,Z,Z,Z] rfl rfl (any_of HT_.out (by kernel_rfl)) (fun _ _ _ h=>h) (Or.inl ⟨by rfl,?_⟩) ?_ ?_;rotate_left
              ·intro w';go_simp;with_reducible rfl
              rotate_left
              ·simp only [Act.put,sIb,sZ,sS,i64_w,i32_w];rfl
              refine pure_ (i:=9) (N:=some 41) (v:=?_) (a':=?_) #[Y,Y,Y,Y,Y,Y,Y,Y,Y,Y,Z,Z,Z,Z,Z,Z,Z,Z,Z,Z,Z] rfl rfl (any_of HT_.out (by kernel_rfl)) (fun _ _ _ h=>h) (Or.inl ⟨by rfl,?_⟩) ?_ ?_;rotate_left
              ·intro w';go_simp;with_reducible rfl
              rotate_left
              ·simp only [Act.put,sIb,sZ,sS,i64_w,i32_w];rfl
              refine pure_ (i:=10) (N:=some 42) (v:=?_) (a':=?_) #[Y,Y,Y,Y,Y,Y,Y,Y,Y,Y,Y,Z,Z,Z,Z,Z,Z,Z,Z,Z,Z] rfl rfl (any_of HT_.out (by kernel_rfl)) (fun _ _ _ h=>h) (Or.inl ⟨by rfl,?_⟩) ?_ ?_;rotate_left
              ·intro w';go_simp;with_reducible rfl
              rotate_left
              ·simp only [Act.put,sIb,sZ,sS,i64_w,i32_w];rfl
              refine pure_ (i:=11) (N:=some 43) (v:=?_) (a':=?_) #[Y,Y,Y,Y,Y,Y,Y,Y,Y,Y,Y,Y,Z,Z,Z,Z,Z,Z,Z,Z,Z] rfl rfl (any_of HT_.out (by kernel_rfl)) (fun _ _ _ h=>h) (Or.inl ⟨by rfl,?_⟩) ?_ ?_;rotate_left
              ·intro w';go_simp;with_reducible rfl
              rotate_left
              ·simp only [Act.put,sIb,sZ,sS,i64_w,i32_w];rfl
              refine pure_ (i:=14) (N:=some 46) (v:=?_) (a':=?_) #[Y,Y,Y,Y,Y,Y,Y,Y,Y,Y,Y,Y,Z,Z,Y,Z,Z,Z,Z,Z,Z] rfl rfl (any_of HT_.out (by kernel_rfl)) (fun _ _ _ h=>h) (Or.inl ⟨by rfl,?_⟩) ?_ ?_;rotate_left
              ·intro w';go_simp;with_reducible rfl
              rotate_left
              ·simp only [Act.put,sIb,sZ,sS,i64_w,i32_w];rfl
              refine pure_ (i:=15) (N:=some 47) (v:=?_) (a':=?_) #[Y,Y,Y,Y,Y,Y,Y,Y,Y,Y,Y,Y,Z,Z,Y,Y,Z,Z,Z,Z,Z] rfl rfl (any_of HT_.out (by kernel_rfl)) (fun _ _ _ h=>h) (Or.inl ⟨by rfl,?_⟩) ?_ ?_;rotate_left
              ·intro w';go_simp;with_reducible rfl
              rotate_left
              ·simp only [Act.put,sIb,sZ,sS,i64_w,i32_w];rfl
              refine take_ (i:=12) (N:=some 44) (v:=?_) (a':=?_) #[Y,Y,Y,Y,Y,Y,Y,Y,Y,Y,Y,Y,Y,Z,Y,Y,Z,Z,Z,Z,Z] rfl rfl (take_ofW HT_.out HW_.out (by kernel_rfl)) (fun _ _ _ h=>h) (Or.inl ⟨by rfl,?_⟩) hHeld ?_ ?_;rotate_left
              ·rintro w' ⟨s0,s1,s2⟩;go_simp;with_reducible rfl
              rotate_left
              ·simp only [Act.put,sIb,sZ,sS,i64_w,i32_w];rfl
              refine pure_ (i:=13) (N:=some 45) (v:=?_) (a':=?_) #[Y,Y,Y,Y,Y,Y,Y,Y,Y,Y,Y,Y,Y,Y,Y,Y,Z,Z,Z,Z,Z] rfl rfl (any_of HT_.out (by kernel_rfl)) (fun _ _ _ h=>h) (Or.inl ⟨by rfl,?_⟩) ?_ ?_;rotate_left
              ·intro w';go_simp;with_reducible rfl
              rotate_left
              ·simp only [Act.put,sIb,sZ,sS,i64_w,i32_w];rfl
              refine take_ (i:=16) (N:=some 48) (v:=?_) (a':=?_) #[Y,Y,Y,Y,Y,Y,Y,Y,Y,Y,Y,Y,Y,Y,Y,Y,Y,Z,Z,Z,Z] rfl rfl (take_ofW HT_.out HW_.out (by kernel_rfl)) (fun _ _ _ h=>h) (Or.inl ⟨by rfl,?_⟩) hHeld ?_ ?_;rotate_left
              ·rintro w' ⟨s0,s1,s2⟩;go_simp;with_reducible rfl
              rotate_left
              ·simp only [Act.put,sIb,sZ,sS,i64_w,i32_w];rfl
              refine pure_ (i:=17) (N:=some 49) (v:=?_) (a':=?_) #[Y,Y,Y,Y,Y,Y,Y,Y,Y,Y,Y,Y,Y,Y,Y,Y,Y,Y,Z,Z,Z] rfl rfl (any_of HT_.out (by kernel_rfl)) (fun _ _ _ h=>h) (Or.inl ⟨by rfl,?_⟩) ?_ ?_;rotate_left
              ·intro w';go_simp;with_reducible rfl
              rotate_left
              ·simp only [Act.put,sIb,sZ,sS,i64_w,i32_w];rfl
              refine take_ (i:=18) (N:=some 50) (v:=?_) (a':=?_) #[Y,Y,Y,Y,Y,Y,Y,Y,Y,Y,Y,Y,Y,Y,Y,Y,Y,Y,Y,Z,Z] rfl rfl (take_ofW HT_.out HW_.out (by kernel_rfl)) (fun _ _ _ h=>h) (Or.inl ⟨by rfl,?_⟩) hHeld ?_ ?_;rotate_left
              ·rintro w' ⟨s0,s1,s2⟩;go_simp;with_reducible rfl
              rotate_left
              ·simp only [Act.put,sIb,sZ,sS,i64_w,i32_w];rfl
              refine pure_ (i:=19) (N:=some 51) (v:=?_) (a':=?_) #[Y,Y,Y,Y,Y,Y,Y,Y,Y,Y,Y,Y,Y,Y,Y,Y,Y,Y,Y,Y,Z] rfl rfl (any_of HT_.out (by kernel_rfl)) (fun _ _ _ h=>h) (Or.inl ⟨by rfl,?_⟩) ?_ ?_;rotate_left
              ·intro w';go_simp;with_reducible rfl
              rotate_left
              ·simp only [Act.put,sIb,sZ,sS,i64_w,i32_w];rfl
              refine pure_ (i:=20) (N:=some 52) (v:=?_) (a':=?_) #[Y,Y,Y,Y,Y,Y,Y,Y,Y,Y,Y,Y,Y,Y,Y,Y,Y,Y,Y,Y,Y] rfl rfl (any_of HT_.out (by kernel_rfl)) (fun _ _ _ h=>h) (Or.inl ⟨by rfl,?_⟩) ?_ ?_;rotate_left
              ·intro w';go_simp;with_reducible rfl
              rotate_left
              ·simp only [Act.put,sIb,sZ,sS,i64_w,i32_w];rfl
              refine done_ (done_of HT_.out (by kernel_rfl)) ?_;try go_wp2
              go_meet
              case rel=>exact ⟨_,(((((rd_T97 l0_1 x28_2).f1).length:Int) != (rd l1 ((rd_T97 l0_1 x28_2).f0)))),(by first|rfl|(simp;done)|(simp [*];done)),H',⟨by have:=HJ2.out;have:=HK2.out;first|omega|exact Nat.le_refl _⟩,⟨by (with_reducible repeat (first|refine qN ?_ _|refine qW ?_|refine qL ?_ _));exact BK208.out⟩,⟨by (with_reducible repeat (first|refine qN ?_ _|refine qW ?_|refine qL ?_ _));exact BK216.out⟩,⟨by repeat (first|(with_reducible first|exact HB.out|apply qA|apply qD|apply qO|refine qS ?_ GE208.out|refine qS ?_ GE216.out)|exact HB.out)⟩⟩
             ·rw [if_neg c27] at H;exact absurd H (by simp)
            ·rw [if_neg c26] at H;exact absurd H (by simp)
         case rest =>
          clear HC16;try clear c1
          try clear c2
          try clear p2
          try clear q2
          try clear hx2
          try clear c6
          try clear c7
          try clear c8
          try clear c11
          try clear c13
          try clear c13b0
          try clear c14
          try clear c14b0
          try clear c15
          try clear c15b0
          try clear c18
          try clear c20
          try clear c20b0
          try clear c21
          try clear p21
          try clear q21
          try clear hx21
          try clear c23
          try clear c23b0
          try clear c26
          try clear c26b0
          try clear c27
          try clear c27b0
          try clear hcz10_0
          try clear hcz10_1
          try clear hcz12_0
          try clear hcz12_1
          try clear hcz19_0
          try clear hcz19_1
          try clear hcz9_0
          try clear hcz9_1
          try clear hfz10_0
          try clear hfz10_1
          try clear hfz12_0
          try clear hfz12_1
          try clear hfz19_0
          try clear hfz19_1
          try clear hfz9_0
          try clear hfz9_1
          try clear hx215_0
          try clear hx215_1
          try clear hx217_0
          try clear p2
          try clear p215
          try clear p217
          try clear q215
          try clear q217
          obtain ⟨kq,x52_15,rfl,HA,HJ15,BK208,BK216,HB⟩:=hcut;cases kq with
          | zero=>exact absurd HA.out (by simp [spec_GoodQuery.j2])
          | succ kj15 =>
           have H:=HA.out;clear HA;simp only [spec_GoodQuery.j2] at H;by_cases c30:x52_15=true
           ·subst c30;have H1:(some false)=some r:=by rw [if_pos rfl] at H;exact H
            clear H;have H:=H1;clear H1;obtain rfl:=Option.some.inj H;go_wp2
            go_ret
            exact ⟨by first|rfl|(simp [errW_none,errW_some] <;> rfl)|(simp [*,errW_none,errW_some] <;> rfl),by repeat (first|(with_reducible first|exact HB.out|apply qA|apply qD|apply qO|refine qS ?_ GE208.out|refine qS ?_ GE216.out)|exact HB.out)⟩
           ·replace c30:=Bool.eq_false_iff.mpr c30;subst c30;have H1:(spec_GoodQuery.l1 kj15 l1 l0_1 (l0_1.length:Int) x28_2 ((rd_T97 l0_1 x28_2).f1) (((rd_T97 l0_1 x28_2).f1).length:Int) 0 l0_0 l0_1)=some r:=by rw [if_neg (show ¬ (false=true) by decide)] at H;exact H
            clear H;have H:=H1;clear H1;have H':=qK H;clear H;have hnb31:=NB216_208.out;have hnc31:=NB208_216.out;have hcz32_0:wc.cell? ⟨gb216,0,none⟩=some (.int .i64 ((rd_T97 l0_1 x28_2).f0)):=(qC BK216.out 0).trans rfl;have hcz32_1:wc.cell? ⟨gb216,1,none⟩=some (.slice A215_1 ((rd_T97 l0_1 x28_2).f1).length c215_1):=(qC BK216.out 1).trans rfl;have hfz32_0:=qF BK216.out 0;have hfz32_1:=qF BK216.out 1;go_wp2
            go_loopg [56] kj15 (fun kq v56 w'=>∃ (x56_4:Int),v56=.int .i64 x56_4∧Aside0 (spec_GoodQuery.l1 kq l1 l0_1 (l0_1.length:Int) x28_2 ((rd_T97 l0_1 x28_2).f1) (((rd_T97 l0_1 x28_2).f1).length:Int) x56_4 l0_0 l0_1=some r)∧Aside0 (kq≤kj15)∧Aside0 (w'.heap[gb208]?=some (.cells #[(.slice A0_0 l0_0.length c0_0),(.slice (some ad215) l0_1.length c0_1)] 32 (0,0)))∧Aside0 (w'.heap[gb216]?=some (.cells #[.int .i64 ((rd_T97 l0_1 x28_2).f0),(.slice A215_1 ((rd_T97 l0_1 x28_2).f1).length c215_1)] 97 (0,0)))∧Aside0 (Below w.heap.size w w'))
            case atStart=>exact ⟨(0),(by first|rfl|(simp;done)|(simp [*];done)),H',⟨Nat.le_refl _⟩,⟨by (with_reducible repeat (first|refine qN ?_ _|refine qW ?_|refine qL ?_ _));exact BK208.out⟩,⟨by (with_reducible repeat (first|refine qN ?_ _|refine qW ?_|refine qL ?_ _));exact BK216.out⟩,⟨by repeat (first|(with_reducible first|exact HB.out|apply qA|apply qD|apply qO|refine qS ?_ GE208.out|refine qS ?_ GE216.out)|exact HB.out)⟩⟩
            case round =>
             clear H';try clear c1
             try clear c2
             try clear p2
             try clear q2
             try clear hx2
             try clear c3
             try clear c6
             try clear c7
             try clear c8
             try clear c11
             try clear c13
             try clear c13b0
             try clear c14
             try clear c14b0
             try clear c15
             try clear c15b0
             try clear c18
             try clear c20
             try clear c20b0
             try clear c21
             try clear p21
             try clear q21
             try clear hx21
             try clear c23
             try clear c23b0
             try clear c26
             try clear c26b0
             try clear c27
             try clear c27b0
             try clear c30
             try clear c31
             try clear hcz10_0
             try clear hcz10_1
             try clear hcz12_0
             try clear hcz12_1
             try clear hcz19_0
             try clear hcz19_1
             try clear hcz32_0
             try clear hcz32_1
             try clear hcz9_0
             try clear hcz9_1
             try clear hfz10_0
             try clear hfz10_1
             try clear hfz12_0
             try clear hfz12_1
             try clear hfz19_0
             try clear hfz19_1
             try clear hfz32_0
             try clear hfz32_1
             try clear hfz9_0
             try clear hfz9_1
             try clear hx215_0
             try clear hx215_1
             try clear hx217_0
             try clear p2
             try clear p21
             try clear p215
             try clear p217
             try clear q2
             try clear q21
             try clear q215
             try clear q217
             obtain ⟨x56_4,rfl,HA,HK4,BK208,BK216,HB⟩:=hrel;cases gk with
             | zero=>exact absurd HA.out (by simp [spec_GoodQuery.l1])
             | succ k4 =>
              have H:=HA.out;clear HA;simp only [spec_GoodQuery.l1] at H;by_cases c33:x56_4 < (((rd_T97 l0_1 x28_2).f1).length:Int)
              ·rw [if_pos c33] at H;have c33b0:decide (x56_4 < (((rd_T97 l0_1 x28_2).f1).length:Int))=true:=decide_eq_true c33;clear c33;by_cases c34:0≤x56_4
               ·rw [if_pos c34] at H;have c34b0:decide (0≤x56_4)=true:=decide_eq_true c34;clear c34;by_cases c35:x56_4 < (((rd_T97 l0_1 x28_2).f1).length:Int)
                ·rw [if_pos c35] at H;have c35b0:decide (x56_4 < (((rd_T97 l0_1 x28_2).f1).length:Int))=true:=decide_eq_true c35;clear c35;replace H:=Option.bind_eq_some_iff.mp H;obtain ⟨t219,A360,H⟩:=H;replace H:(if t219=true then (spec_GoodQuery.l1 k4 l1 l0_1 (l0_1.length:Int) x28_2 ((rd_T97 l0_1 x28_2).f1) (((rd_T97 l0_1 x28_2).f1).length:Int) (wrap64 (x56_4 + 1)) l0_0 l0_1) else (some false))=some r:=H;have A36:=qK A360;clear A360;by_cases c37:t219=true
                 ·subst c37;have H1:(spec_GoodQuery.l1 k4 l1 l0_1 (l0_1.length:Int) x28_2 ((rd_T97 l0_1 x28_2).f1) (((rd_T97 l0_1 x28_2).f1).length:Int) (wrap64 (x56_4 + 1)) l0_0 l0_1)=some r:=by rw [if_pos rfl] at H;exact H
                  clear H;have H:=H1;clear H1;have H':=qK H;clear H;have p218:0≤(x56_4:Int):=of_decide_eq_true (by first|(with_reducible assumption)|assumption);have q218:x56_4 < (((rd_T97 l0_1 x28_2).f1).length:Int):=of_decide_eq_true (by first|(with_reducible assumption)|assumption);obtain ⟨ad218,e218,hx218_0⟩:=Kd.at_int HR215_1.out x56_4 p218 q218;cases e218
                  replace hx218_0:=(HB.out.cell (World.block_lt_of_cell? w _ hx218_0)).trans hx218_0;replace p218:=eq_true p218;replace q218:=eq_true q218;go_wp2_with (first|((with_reducible refine gate_callee (f:=139) rfl ?_);refine goesL_ (some 61) rfl rfl Try.func139 (by kernel_rfl) rfl #[.int .i64 (rd ((rd_T97 l0_1 x28_2).f1) x56_4)] rfl (by (try simp only [mT,mC,mN]);first|done|rfl|(simp only [lD,lT];rfl)) ?_;(with_reducible refine (spec_l10Var.calls (rd ((rd_T97 l0_1 x28_2).f1) x56_4) true _ A36.out).mono ?_);rintro e w' ⟨rfl,⟨nd,rfl⟩⟩;refine ⟨_,rfl,?_⟩))
                  go_roundg k4
                  case measure=>have:=HJ2.out;have:=HK2.out;have:=HJ15.out;have:=HK4.out;omega
                  case rel=>exact ⟨(wrap64 (x56_4 + 1)),(by first|rfl|(simp;done)|(simp [*];done)),H',⟨by have:=HJ2.out;have:=HK2.out;have:=HJ15.out;have:=HK4.out;omega⟩,⟨by (with_reducible repeat (first|refine qN ?_ _|refine qW ?_|refine qL ?_ _));exact BK208.out⟩,⟨by (with_reducible repeat (first|refine qN ?_ _|refine qW ?_|refine qL ?_ _));exact BK216.out⟩,⟨by repeat (first|(with_reducible first|exact HB.out|apply qA|apply qD|apply qO|refine qS ?_ GE208.out|refine qS ?_ GE216.out)|exact HB.out)⟩⟩
                 ·replace c37:=Bool.eq_false_iff.mpr c37;subst c37;have H1:(some false)=some r:=by rw [if_neg (show ¬ (false=true) by decide)] at H;exact H
                  clear H;have H:=H1;clear H1;obtain rfl:=Option.some.inj H;have p218:0≤(x56_4:Int):=of_decide_eq_true (by first|(with_reducible assumption)|assumption);have q218:x56_4 < (((rd_T97 l0_1 x28_2).f1).length:Int):=of_decide_eq_true (by first|(with_reducible assumption)|assumption);obtain ⟨ad218,e218,hx218_0⟩:=Kd.at_int HR215_1.out x56_4 p218 q218;cases e218
                  replace hx218_0:=(HB.out.cell (World.block_lt_of_cell? w _ hx218_0)).trans hx218_0;replace p218:=eq_true p218;replace q218:=eq_true q218;go_wp2_with (first|((with_reducible refine gate_callee (f:=139) rfl ?_);refine goesL_ (some 61) rfl rfl Try.func139 (by kernel_rfl) rfl #[.int .i64 (rd ((rd_T97 l0_1 x28_2).f1) x56_4)] rfl (by (try simp only [mT,mC,mN]);first|done|rfl|(simp only [lD,lT];rfl)) ?_;(with_reducible refine (spec_l10Var.calls (rd ((rd_T97 l0_1 x28_2).f1) x56_4) false _ A36.out).mono ?_);rintro e w' ⟨rfl,⟨nd,rfl⟩⟩;refine ⟨_,rfl,?_⟩))
                  go_ret
                  exact ⟨by first|rfl|(simp [errW_none,errW_some] <;> rfl)|(simp [*,errW_none,errW_some] <;> rfl),by repeat (first|(with_reducible first|exact HB.out|apply qA|apply qD|apply qO|refine qS ?_ GE208.out|refine qS ?_ GE216.out)|exact HB.out)⟩
                ·rw [if_neg c35] at H;exact absurd H (by simp)
               ·rw [if_neg c34] at H;exact absurd H (by simp)
              ·rw [if_neg c33] at H;have c33b0:decide (x56_4 < (((rd_T97 l0_1 x28_2).f1).length:Int))=false:=decide_eq_false c33;clear c33;have H':=qK H;clear H;go_wp2
               go_roundg k4
               case measure=>have:=HJ2.out;have:=HK2.out;have:=HJ15.out;have:=HK4.out;omega
               case rel=>exact ⟨(wrap64 (x28_2 + 1)),(by first|rfl|(simp;done)|(simp [*];done)),H',⟨by have:=HJ2.out;have:=HK2.out;have:=HJ15.out;have:=HK4.out;omega⟩,⟨by (with_reducible repeat (first|refine qN ?_ _|refine qW ?_|refine qL ?_ _));exact BK208.out⟩,⟨by repeat (first|(with_reducible first|exact HB.out|apply qA|apply qD|apply qO|refine qS ?_ GE208.out|refine qS ?_ GE216.out)|exact HB.out)⟩⟩
        ·rw [if_neg c15] at H;exact absurd H (by simp)
       ·rw [if_neg c14] at H;exact absurd H (by simp)
      ·rw [if_neg c13] at H;have c13b0:decide (x28_2 < (l0_1.length:Int))=false:=decide_eq_false c13;clear c13;replace H:=Option.bind_eq_some_iff.mp H;obtain ⟨t211,A380,H⟩:=H;replace H:((spec_l7All.f k2 t211 l0_0).bind fun t214=>(some t214))=some r:=H;have A38:=qK A380;clear A380;replace H:=Option.bind_eq_some_iff.mp H;obtain ⟨t214,A390,H⟩:=H;replace H:(some t214)=some r:=H;have A39:=qK A390;clear A390;obtain rfl:=Option.some.inj H;try go_wp2
       (try (rw [drewN_self wr];generalize hq_:World.drewN wr _=wr;have n0_:Aside0 (wr.heap[gb208]?=some (.cells #[.slice A0_0 l0_0.length c0_0,.slice A0_1 l0_1.length c0_1] 32 (0,0))):=⟨by rw [← hq_];exact (by (with_reducible repeat (first|refine qN ?_ _|refine qW ?_|refine qL ?_ _));exact BK208.out)⟩;have n1_:Aside0 (Below w.heap.size w wr):=⟨by rw [← hq_];exact (by repeat (with_reducible first|exact HB.out|apply qA|apply qD|apply qO|refine qS ?_ GE208.out))⟩;clear BK208 HB hq_;have BK208:=n0_;have HB:=n1_;clear n0_ n1_));have n0_:=qK (qW BK208.out);have n1_:=qK (qO HB.out);clear BK208;clear HB;have BK208:=n0_;have HB:=n1_;clear n0_ n1_;refine start_ (n:=6) (S:=fun w'=>w'.cell? ⟨gb208,0,none⟩=some (.slice A0_0 l0_0.length c0_0)∧w'.cell? ⟨gb208,1,none⟩=some (.slice A0_1 l0_1.length c0_1)) (ds:=[]) #[Z,Z,Z,Z,Z,Z] (by kernel_rfl) rfl rfl ⟨(qC BK208.out 0).trans rfl,(qC BK208.out 1).trans rfl⟩ (fun hHeld=>?_);generalize wr.drew=w40 at BK208 HB hHeld ⊢
       refine pure_ (i:=2) (N:=some 67) (v:=?_) (a':=?_) #[Z,Z,Y,Z,Z,Z] rfl rfl (by kernel_rfl) (fun _ _ _ h=>h) (Or.inl ⟨by rfl,?_⟩) ?_ ?_;rotate_left
       ·intro w';go_simp;with_reducible rfl
       rotate_left
       ·simp only [Act.put,sIb,sZ,sS,i64_w,i32_w];rfl
       refine take_ (i:=0) (N:=some 65) (v:=?_) (a':=?_) #[Y,Z,Y,Z,Z,Z] rfl rfl (by kernel_rfl) (fun _ _ _ h=>h) (Or.inl ⟨by rfl,?_⟩) hHeld ?_ ?_;rotate_left
       ·rintro w' ⟨s0,s1⟩;go_simp;with_reducible rfl
       rotate_left
       ·simp only [Act.put,sIb,sZ,sS,i64_w,i32_w];rfl
       refine take_ (i:=3) (N:=some 68) (v:=?_) (a':=?_) #[Y,Z,Y,Y,Z,Z] rfl rfl (by kernel_rfl) (fun _ _ _ h=>h) (Or.inl ⟨by rfl,?_⟩) hHeld ?_ ?_;rotate_left
       ·rintro w' ⟨s0,s1⟩;go_simp;with_reducible rfl
       rotate_left
       ·simp only [Act.put,sIb,sZ,sS,i64_w,i32_w];rfl
       refine one_ (i:=1) (N:=some 66) #[Y,Y,Y,Y,Z,Z] rfl rfl (by kernel_rfl) (by decide) (fun K hK=>?_);refine goes_ Try.func140 (by kernel_rfl) rfl #[.agg #[.slice A0_0 l0_0.length c0_0,.slice A0_1 l0_1.length c0_1]] (by rfl) rfl rfl (by (try simp only [mT,mC,mN]);first|done|rfl|(simp only [lD,lT];rfl)) ?_;with_reducible refine (spec_l10Vars.calls k2 _ _ l0_0 _ _ l0_1 t211 _ ?side1 ?side2 ?side3 ?side4 A38.out).mono ?_
       (case side1=>repeat (first|exact (cB HR0_0.out HB.out)|(with_reducible first|refine cL ?_ _|refine cN ?_ _|refine cW ?_)));(case side2=>exact HC0_0.out);(case side3=>repeat (first|exact (cB HR0_1.out HB.out)|(with_reducible first|refine cL ?_ _|refine cN ?_ _|refine cW ?_)));(case side4=>exact HC0_1.out);rintro e w41 ⟨v212,rfl,ho0,hb⟩;refine ⟨_,rfl,?_⟩;have n0_:=qK (Kd.V_lower (Kd.V_mono (ok':=fun k_=>k_ ≠ gb208) ho0 (fun k_ hk_=>(Kd.freshB (g:=gb208) (o:=_) (by (with_reducible repeat (first|refine qN ?_ _|refine qW ?_|refine qL ?_ _));exact BK208.out) k_ hk_))) (qZ (by repeat (with_reducible first|exact HB.out|apply qA|apply qD|apply qO|refine qS ?_ GE208.out))));have n1_:=qK (qB (g:=gb208) (o:=_) (by (with_reducible repeat (first|refine qN ?_ _|refine qW ?_|refine qL ?_ _));exact BK208.out) hb);have n2_:=qK (qT (by repeat (with_reducible first|exact HB.out|apply qA|apply qD|apply qO|refine qS ?_ GE208.out)) hb);clear BK208;clear HB;have HO213:=n0_;have BK208:=n1_;have HB:=n2_;clear n0_ n1_ n2_;(try clear hb);(try clear ho0);obtain ⟨Ao42,co42,eo42⟩:=Kd.V_slice HO213.out;(first|subst eo42|(injection eo42 with f1_ f2_ f3_;have f4_:=f1_.symm;have f5_:=f3_.symm;clear f1_ f2_ f3_;subst f4_;subst f5_));refine hK.out _ _ ⟨(qC BK208.out 0).trans rfl,(qC BK208.out 1).trans rfl⟩ (fun hHeld=>?_);clear hK K;refine norm_ (a':=?_) ?_ ?_;rotate_left
       ·show Act.put _ (some 66) _=_
        simp only [Act.put,sIb,sZ,sS,i64_w,i32_w];rfl
       refine one_ (i:=4) (N:=some 69) #[Y,Y,Y,Y,Y,Z] rfl rfl (by kernel_rfl) (by decide) (fun K hK=>?_);refine goes_ Try.func83 (by kernel_rfl) rfl #[.slice Ao42 t211.length co42,.slice A0_0 l0_0.length c0_0] (by rfl) rfl rfl (by (try simp only [mT,mC,mN]);first|done|rfl|(simp only [lD,lT];rfl)) ?_;with_reducible refine (spec_l7All.calls k2 _ _ t211 _ _ l0_0 t214 _ ?side1 ?side2 ?side3 ?side4 A39.out).mono ?_
       (case side1=>repeat (first|exact (Kd.V_reads' HO213.out).2.2|(with_reducible first|refine cL ?_ _|refine cN ?_ _|refine cW ?_)));(case side2=>exact (Kd.V_reads' HO213.out).2.1);(case side3=>repeat (first|exact (cB HR0_0.out HB.out)|(with_reducible first|refine cL ?_ _|refine cN ?_ _|refine cW ?_)));(case side4=>exact HC0_0.out);rintro e w' ⟨rfl,⟨nd,rfl⟩⟩;refine ⟨_,rfl,?_⟩;refine hK.out _ _ ⟨(qC BK208.out 0).trans rfl,(qC BK208.out 1).trans rfl⟩ (fun hHeld=>?_);clear hK K;refine norm_ (a':=?_) ?_ ?_;rotate_left
       ·show Act.put _ (some 69) _=_
        simp only [Act.put,sIb,sZ,sS,i64_w,i32_w];rfl
       refine pure_ (i:=5) (N:=some 4) (v:=?_) (a':=?_) #[Y,Y,Y,Y,Y,Y] rfl rfl (by kernel_rfl) (fun _ _ _ h=>h) (Or.inl ⟨by rfl,?_⟩) ?_ ?_;rotate_left
       ·intro w';go_simp;with_reducible rfl
       rotate_left
       ·simp only [Act.put,sIb,sZ,sS,i64_w,i32_w];rfl
       refine done_ (by kernel_rfl) ?_;try go_wp2
       go_ret
       exact ⟨by first|rfl|(simp [errW_none,errW_some] <;> rfl)|(simp [*,errW_none,errW_some] <;> rfl),by repeat (first|(with_reducible first|exact HB.out|apply qA|apply qD|apply qO|refine qS ?_ GE208.out)|exact HB.out)⟩

/-! ### spec_l11Without: function 145 -/
def spec_l11Without.l0 : Nat→Int→List Int→List Int→Int→Int→Option (List Int)
 | 0,_,_,_,_,_=>none
 | k + 1,x1,x5,x8,x9,x10=>if x10 < x9 then (if 0≤x10 then (if x10 < (x8.length:Int) then (if (rd x8 x10)=x1 then (spec_l11Without.l0 k x1 x5 x8 x9 (wrap64 (x10 + 1))) else (if x5.length < 17592186044416 then (spec_l11Without.l0 k x1 (x5 ++ [rd x8 x10]) x8 x9 (wrap64 (x10 + 1))) else (none))) else (none)) else (none)) else (some x5)
def spec_l11Without.f (k:Nat) (l0:List Int) (a1:Int):Option (List Int):=spec_l11Without.l0 k a1 ([]:List Int) l0 (l0.length:Int) 0
theorem spec_l11Without.mono_l : ∀ k,(∀ y0 y1 y2 y3 y4,LeO (spec_l11Without.l0 k y0 y1 y2 y3 y4) (spec_l11Without.l0 (k + 1) y0 y1 y2 y3 y4))
 | 0=>fun _ _ _ _ _ r h=>by simp [spec_l11Without.l0] at h
 | k + 1=>by
  have ih0:=spec_l11Without.mono_l k
  ·intro y0 y1 y2 y3 y4;unfold spec_l11Without.l0
   repeat' first
   | (with_reducible exact ih0 _ _ _ _ _)
   | (with_reducible exact LeO.refl _)
   | (with_reducible exact LeO.none _)
   | (with_reducible refine LeO.ite ?_ ?_)
   | (with_reducible refine LeO.bind ?_ (fun _=>?_))
   | exact ih0 _ _ _ _ _
   | exact LeO.none _
   | refine LeO.ite ?_ ?_
   | refine LeO.bind ?_ (fun _=>?_)
theorem spec_l11Without.mono : ∀ a0 a1 k,LeO (spec_l11Without.f k a0 a1) (spec_l11Without.f (k + 1) a0 a1):=by
 intro a0 a1 k;have ih0:=spec_l11Without.mono_l k;unfold spec_l11Without.f
 repeat' first
   | (with_reducible exact ih0 _ _ _ _ _)
   | (with_reducible exact LeO.refl _)
   | (with_reducible exact LeO.none _)
   | (with_reducible refine LeO.ite ?_ ?_)
   | (with_reducible refine LeO.bind ?_ (fun _=>?_))
   | exact ih0 _ _ _ _ _
   | exact LeO.none _
   | refine LeO.ite ?_ ?_
   | refine LeO.bind ?_ (fun _=>?_)
set_option maxHeartbeats 8000000 in
set_option maxRecDepth 100000 in
theorem spec_l11Without.calls (k:Nat) (A0:Option Addr) (c0:Nat) (l0:List Int) (a1:Int) (r:List Int) (w:World) (hr0:Kd.C (Kd.int .i64) w A0 l0.length l0) (hc0:l0.length≤c0) (h:spec_l11Without.f k l0 a1=some r) :
  Calls Try.prog 145 #[.slice A0 l0.length c0,.int .i64 a1] w fun e w'=>∃ v0_:Value,e=.returned (v0_)∧Kd.R (Kd.int .i64) 3 w' w.heap.size (fun _=>True) v0_ r∧Below w.heap.size w w':=by
 have HR0:=qK hr0;have HC0:=qK hc0;clear hr0 hc0;have HB:=qK (Below.refl w.heap.size w);have H:(spec_l11Without.l0 k a1 ([]:List Int) l0 (l0.length:Int) 0)=some r:=h;clear h;have H':=qK H;clear H;go_enter Try.func145,Try.ntmps145
 go_wp2
 go_loopg [5,10] k (fun kq v5 v10 w'=>∃ (x5_1:List Int) (x10_1:Int),v10=.int .i64 x10_1∧Aside0 (spec_l11Without.l0 kq a1 x5_1 l0 (l0.length:Int) x10_1=some r)∧Aside0 (kq≤k)∧Aside0 (Kd.R (Kd.int .i64) 3 w' w.heap.size (fun _=>True) v5 x5_1)∧Aside0 (Below w.heap.size w w'))
 case atStart=>exact ⟨(([]:List Int)),(0),(by first|rfl|(simp;done)|(simp [*];done)),H',⟨Nat.le_refl _⟩,⟨by first|exact Kd.R_nil _ _ _ _ _|exact Kd.N_nil _ _ _ _ _|exact Kd.V_nil _ _ _ _ _|exact Kd.Q_nil _ _ _ _ _|exact Kd.S_nil _ _ _ _ _⟩,⟨by repeat (first|(with_reducible first|exact HB.out|apply qA|apply qD|apply qO)|exact HB.out)⟩⟩
 case round =>
  clear H';try clear c1
  try clear p2
  obtain ⟨x5_1,x10_1,rfl,HA,HK1,HO_5,HB⟩:=hrel;cases gk with
  | zero=>exact absurd HA.out (by simp [spec_l11Without.l0])
  | succ k1 =>
   have H:=HA.out;clear HA;simp only [spec_l11Without.l0] at H;by_cases c3:x10_1 < (l0.length:Int)
   ·rw [if_pos c3] at H;have c3b0:decide (x10_1 < (l0.length:Int))=true:=decide_eq_true c3;clear c3;by_cases c4:0≤x10_1
    ·rw [if_pos c4] at H;have c4b0:decide (0≤x10_1)=true:=decide_eq_true c4;clear c4;by_cases c5:x10_1 < (l0.length:Int)
     ·rw [if_pos c5] at H;have c5b0:decide (x10_1 < (l0.length:Int))=true:=decide_eq_true c5;clear c5;by_cases c6:(rd l0 x10_1)=a1
      ·rw [if_pos c6] at H;have c6b0:((rd l0 x10_1) == a1)=true:=beq_iff_eq.mpr c6;have c6b1:((rd l0 x10_1) != a1)=false:=bne_eq_false_iff_eq.mpr c6;clear c6;have H':=qK H;clear H;have p220:0≤(x10_1:Int):=of_decide_eq_true (by first|(with_reducible assumption)|assumption);have q220:x10_1 < (l0.length:Int):=of_decide_eq_true (by first|(with_reducible assumption)|assumption);obtain ⟨ad220,e220,hx220_0⟩:=Kd.at_int HR0.out x10_1 p220 q220;cases e220
       replace hx220_0:=(HB.out.cell (World.block_lt_of_cell? w _ hx220_0)).trans hx220_0;replace p220:=eq_true p220;replace q220:=eq_true q220;go_wp2
       go_roundg k1
       case measure=>have:=HK1.out;omega
       case rel=>exact ⟨(x5_1),(wrap64 (x10_1 + 1)),(by first|rfl|(simp;done)|(simp [*];done)),H',⟨by have:=HK1.out;omega⟩,⟨by (with_reducible repeat (first|apply rL|apply rN|apply rW));exact HO_5.out⟩,⟨by repeat (first|(with_reducible first|exact HB.out|apply qA|apply qD|apply qO)|exact HB.out)⟩⟩
      ·rw [if_neg c6] at H;have c6b0:((rd l0 x10_1) == a1)=false:=beq_eq_false_iff_ne.mpr c6;have c6b1:((rd l0 x10_1) != a1)=true:=bne_iff_ne.mpr c6;by_cases c7:x5_1.length < 17592186044416
       ·rw [if_pos c7] at H;have LMc7:=qK c7;clear c7;obtain ⟨y221,hy221⟩:∃ y_:List Int,y_=(x5_1 ++ [rd l0 x10_1]):=⟨_,rfl⟩;replace H:(spec_l11Without.l0 k1 a1 y221 l0 (l0.length:Int) (wrap64 (x10_1 + 1)))=some r:=by first|(rw [hy221];with_reducible exact H)|(have H2_:=(Option.bind_some _ _).symm.trans H;rw [hy221];with_reducible exact H2_)|(have H2_:=(Option.bind_some _ _).symm.trans H;with_reducible exact H2_)|with_reducible exact H|(rw [hy221];exact H)|exact H
        have Ny221:=qK hy221;clear hy221;have H':=qK H;clear H;have p220:0≤(x10_1:Int):=of_decide_eq_true (by first|(with_reducible assumption)|assumption);have q220:x10_1 < (l0.length:Int):=of_decide_eq_true (by first|(with_reducible assumption)|assumption);obtain ⟨ad220,e220,hx220_0⟩:=Kd.at_int HR0.out x10_1 p220 q220;cases e220
        replace hx220_0:=(HB.out.cell (World.block_lt_of_cell? w _ hx220_0)).trans hx220_0;replace p220:=eq_true p220;replace q220:=eq_true q220;go_wp2_with (first|((with_reducible refine gate_builtin (b:=.append) (xs:=#[.tmp 17,.tmp 19]) rfl ?_);at_builtin;refine Kd.R_append (Kd.int .i64) (w0:=w) w.heap.size rfl (.tmp 17) (.tmp 19) 22 3 (.int .i64 0) 8 rfl Try.underlying22 info3 rfl (by decide) (by omega) u5 x5_1 (rd l0 x10_1) [.int .i64 (rd l0 x10_1)] (fun _=>True) (fun _=>False) rfl rfl ?aP (fun _ hk=>hk.elim) ?aF ?aO ?aB ?aS ?aL ?_;(case aP=>exact rfl);(case aB=>exact (by repeat (with_reducible first|exact HB.out|apply qA|apply qD|apply qO)));(case aF=>exact (fun _ _=>trivial));(case aO=>exact (by (with_reducible repeat (first|apply rL|apply rN|apply rW));exact HO_5.out));(case aS=>exact (qZ (by repeat (with_reducible first|exact HB.out|apply qA|apply qD|apply qO))));(case aL=>have:=LMc7.out;omega);intro v222 w8 ho hb hg hat;rw [← Ny221.out] at ho;have n0_:=qK (hb);have n1_:=qK (ho);clear HB;clear HO_5;have HB:=n0_;have HO223:=n1_;clear n0_ n1_;clear ho hb hg hat))
        go_roundg k1
        case measure=>have:=HK1.out;omega
        case rel=>exact ⟨(y221),(wrap64 (x10_1 + 1)),(by first|rfl|(simp;done)|(simp [*];done)),H',⟨by have:=HK1.out;omega⟩,⟨by (with_reducible repeat (first|apply rL|apply rN|apply rW));exact HO223.out⟩,⟨by repeat (first|(with_reducible first|exact HB.out|apply qA|apply qD|apply qO)|exact HB.out)⟩⟩
       ·rw [if_neg c7] at H;exact absurd H (by simp)
     ·rw [if_neg c5] at H;exact absurd H (by simp)
    ·rw [if_neg c4] at H;exact absurd H (by simp)
   ·rw [if_neg c3] at H;have c3b0:decide (x10_1 < (l0.length:Int))=false:=decide_eq_false c3;clear c3;obtain rfl:=Option.some.inj H;go_wp2
    go_ret
    exact ⟨_,by first|rfl|(simp [errW_none,errW_some] <;> rfl)|(simp [*,errW_none,errW_some] <;> rfl),by (with_reducible repeat (first|apply rL|apply rN|apply rW));exact HO_5.out,by repeat (first|(with_reducible first|exact HB.out|apply qA|apply qD|apply qO)|exact HB.out)⟩

/-! ### spec_l11Edge: function 76 -/
def spec_l11Edge.l0 : Nat→List Int→List Int→Int→Int→Option (List Int)
 | 0,_,_,_,_=>none
 | k + 1,x3,x7,x8,x9=>if x9 < x8 then (if 0≤x9 then (if x9 < (x7.length:Int) then ((spec_l7Put.f k x3 (rd x7 x9)).bind fun t226=>(spec_l11Edge.l0 k t226 x7 x8 (wrap64 (x9 + 1)))) else (none)) else (none)) else (some x3)
def spec_l11Edge.f (k:Nat) (a0_0:Int) (l0_1:List Int):Option (List Int):=spec_l11Edge.l0 k ([]:List Int) l0_1 (l0_1.length:Int) 0
theorem spec_l11Edge.mono_l : ∀ k,(∀ y0 y1 y2 y3,LeO (spec_l11Edge.l0 k y0 y1 y2 y3) (spec_l11Edge.l0 (k + 1) y0 y1 y2 y3))
 | 0=>fun _ _ _ _ r h=>by simp [spec_l11Edge.l0] at h
 | k + 1=>by
  have ih0:=spec_l11Edge.mono_l k
  ·intro y0 y1 y2 y3;unfold spec_l11Edge.l0
   repeat' first
   | (with_reducible exact ih0 _ _ _ _)
   | (with_reducible exact spec_l7Put.mono _ _ _)
   | (with_reducible exact LeO.refl _)
   | (with_reducible exact LeO.none _)
   | (with_reducible refine LeO.ite ?_ ?_)
   | (with_reducible refine LeO.bind ?_ (fun _=>?_))
   | exact ih0 _ _ _ _
   | exact spec_l7Put.mono _ _ _
   | exact LeO.none _
   | refine LeO.ite ?_ ?_
   | refine LeO.bind ?_ (fun _=>?_)
theorem spec_l11Edge.mono : ∀ a0 a1 k,LeO (spec_l11Edge.f k a0 a1) (spec_l11Edge.f (k + 1) a0 a1):=by
 intro a0 a1 k;have ih0:=spec_l11Edge.mono_l k;unfold spec_l11Edge.f
 repeat' first
   | (with_reducible exact ih0 _ _ _ _)
   | (with_reducible exact spec_l7Put.mono _ _ _)
   | (with_reducible exact LeO.refl _)
   | (with_reducible exact LeO.none _)
   | (with_reducible refine LeO.ite ?_ ?_)
   | (with_reducible refine LeO.bind ?_ (fun _=>?_))
   | exact ih0 _ _ _ _
   | exact spec_l7Put.mono _ _ _
   | exact LeO.none _
   | refine LeO.ite ?_ ?_
   | refine LeO.bind ?_ (fun _=>?_)
set_option maxHeartbeats 8000000 in
set_option maxRecDepth 100000 in
theorem spec_l11Edge.calls (k:Nat) (a0_0:Int) (A0_1:Option Addr) (c0_1:Nat) (l0_1:List Int) (r:List Int) (w:World) (hr0_1:Kd.C (Kd.int .i64) w A0_1 l0_1.length l0_1) (hc0_1:l0_1.length≤c0_1) (h:spec_l11Edge.f k a0_0 l0_1=some r) :
  Calls Try.prog 76 #[.agg #[.int .i64 a0_0,.slice A0_1 l0_1.length c0_1]] w fun e w'=>∃ v0_:Value,e=.returned (v0_)∧Kd.V (Kd.int .i64) 3 w' w.heap.size (fun k_=>(w.heap.size≤k_)) v0_ r∧Below w.heap.size w w':=by
 have hu97:=Try.underlying97;have HR0_1:=qK hr0_1;have HC0_1:=qK hc0_1;clear hr0_1 hc0_1;have HB:=qK (Below.refl w.heap.size w);have H:(spec_l11Edge.l0 k ([]:List Int) l0_1 (l0_1.length:Int) 0)=some r:=h;clear h;have H':=qK H;clear H;go_enter Try.func76,Try.ntmps76
 go_wp2_with (first|((with_reducible refine gate_dst (N:=1) rfl ?_);refine box_event ?hg (N:=1) ?hd (cs:=#[.int .i64 a0_0,.slice A0_1 l0_1.length c0_1]) (t:=97) ?hr ?_;(case hd=>rfl);(case hg=>rfl);(case hr=>(go_simp;try rfl));intro gb224 hg w2 hbox hb;have n0_:=qK (qT (by repeat (with_reducible first|exact HB.out|apply qA|apply qD|apply qO)) hb);have n1_:=qK (hbox);have n2_:=qK ((by rw [hg];exact (qZ (by repeat (with_reducible first|exact HB.out|apply qA|apply qD|apply qO))):w.heap.size≤gb224));have n3_:=qK ((by rw [hg];exact (qZ (by repeat (with_reducible first|exact HB.out|apply qA|apply qD|apply qO))):w.heap.size≤gb224));clear HB;have HB:=n0_;have BK224:=n1_;have GW224:=n2_;have GE224:=n3_;clear n0_ n1_ n2_ n3_;clear hb hbox hg;have hcz3_0:w2.cell? ⟨gb224,0,none⟩=some (.int .i64 a0_0):=(qC BK224.out 0).trans rfl;have hcz3_1:w2.cell? ⟨gb224,1,none⟩=some (.slice A0_1 l0_1.length c0_1):=(qC BK224.out 1).trans rfl;have hfz3_0:=qF BK224.out 0;have hfz3_1:=qF BK224.out 1))
 go_loopg [3,9] k (fun kq v3 v9 w'=>∃ (x3_1:List Int) (x9_1:Int),v9=.int .i64 x9_1∧Aside0 (spec_l11Edge.l0 kq x3_1 l0_1 (l0_1.length:Int) x9_1=some r)∧Aside0 (kq≤k)∧Aside0 (Kd.V (Kd.int .i64) 3 w' w.heap.size (fun k_=>(w.heap.size≤k_)∧k_ ≠ gb224) v3 x3_1)∧Aside0 (w'.heap[gb224]?=some (.cells #[.int .i64 a0_0,(.slice A0_1 l0_1.length c0_1)] 97 (0,0)))∧Aside0 (Below w.heap.size w w'))
 case atStart=>exact ⟨(([]:List Int)),(0),(by first|rfl|(simp;done)|(simp [*];done)),H',⟨Nat.le_refl _⟩,⟨Kd.R_V (base:=0) (by first|exact Kd.R_nil _ _ _ _ _|exact Kd.N_nil _ _ _ _ _|exact Kd.V_nil _ _ _ _ _|exact Kd.Q_nil _ _ _ _ _|exact Kd.S_nil _ _ _ _ _)⟩,⟨by (with_reducible repeat (first|refine qN ?_ _|refine qW ?_|refine qL ?_ _));exact BK224.out⟩,⟨by repeat (first|(with_reducible first|exact HB.out|apply qA|apply qD|apply qO|refine qS ?_ GE224.out)|exact HB.out)⟩⟩
 case round =>
  clear H';try clear p2
  try clear hcz3_0
  try clear hcz3_1
  try clear hfz3_0
  try clear hfz3_1
  obtain ⟨x3_1,x9_1,rfl,HA,HK1,HO_3,BK224,HB⟩:=hrel;cases gk with
  | zero=>exact absurd HA.out (by simp [spec_l11Edge.l0])
  | succ k1 =>
   have H:=HA.out;clear HA;simp only [spec_l11Edge.l0] at H;by_cases c4:x9_1 < (l0_1.length:Int)
   ·rw [if_pos c4] at H;have c4b0:decide (x9_1 < (l0_1.length:Int))=true:=decide_eq_true c4;clear c4;by_cases c5:0≤x9_1
    ·rw [if_pos c5] at H;have c5b0:decide (0≤x9_1)=true:=decide_eq_true c5;clear c5;by_cases c6:x9_1 < (l0_1.length:Int)
     ·rw [if_pos c6] at H;have c6b0:decide (x9_1 < (l0_1.length:Int))=true:=decide_eq_true c6;clear c6;replace H:=Option.bind_eq_some_iff.mp H;obtain ⟨t226,A70,H⟩:=H;replace H:(spec_l11Edge.l0 k1 t226 l0_1 (l0_1.length:Int) (wrap64 (x9_1 + 1)))=some r:=H;have A7:=qK A70;clear A70;have H':=qK H;clear H;have p225:0≤(x9_1:Int):=of_decide_eq_true (by first|(with_reducible assumption)|assumption);have q225:x9_1 < (l0_1.length:Int):=of_decide_eq_true (by first|(with_reducible assumption)|assumption);obtain ⟨ad225,e225,hx225_0⟩:=Kd.at_int HR0_1.out x9_1 p225 q225;cases e225
      replace hx225_0:=(HB.out.cell (World.block_lt_of_cell? w _ hx225_0)).trans hx225_0;replace p225:=eq_true p225;replace q225:=eq_true q225;obtain ⟨Ao8,co8,eo8⟩:=Kd.V_slice HO_3.out;subst eo8;go_wp2_with (first|((with_reducible refine gate_callee (f:=141) rfl ?_);refine goesL_ (some 15) rfl rfl Try.func141 (by kernel_rfl) rfl #[.slice Ao8 x3_1.length co8,.int .i64 (rd l0_1 x9_1)] rfl (by (try simp only [mT,mC,mN]);first|done|rfl|(simp only [lD,lT];rfl)) ?_;(with_reducible refine (spec_l7Put.calls k1 (fun k_=>((w.heap.size≤k_)∧k_ ≠ gb224)) _ _ x3_1 (rd l0_1 x9_1) t226 _ ?side1 A7.out).mono ?_);(case side1=>exact HO_3.out);rintro e w9 ⟨v227,rfl,ho0,hb⟩;refine ⟨_,rfl,?_⟩;have n0_:=qK (Kd.V_below (by (with_reducible repeat (first|apply Kd.V_alloc|apply Kd.V_drewN|apply Kd.V_drew));exact HO_3.out) hb);have n1_:=qK (Kd.V_lower (Kd.V_mono (ok':=fun k_=>(w.heap.size≤k_)∧k_ ≠ gb224) ho0 (fun k_ hk_=>⟨Or.elim hk_ (fun hs_=>hs_.1) (fun hn_=>(Nat.le_trans (qZ (by repeat (with_reducible first|exact HB.out|apply qA|apply qD|apply qO|refine qS ?_ GE224.out))) hn_)),Or.elim hk_ (fun hs_=>hs_.2) (fun hn_=>(Kd.freshB (g:=gb224) (o:=_) (by (with_reducible repeat (first|refine qN ?_ _|refine qW ?_|refine qL ?_ _));exact BK224.out) k_ hn_))⟩)) (qZ (by repeat (with_reducible first|exact HB.out|apply qA|apply qD|apply qO|refine qS ?_ GE224.out))));have n2_:=qK (qB (g:=gb224) (o:=_) (by (with_reducible repeat (first|refine qN ?_ _|refine qW ?_|refine qL ?_ _));exact BK224.out) hb);have n3_:=qK (qT (by repeat (with_reducible first|exact HB.out|apply qA|apply qD|apply qO|refine qS ?_ GE224.out)) hb);clear HO_3;clear BK224;clear HB;have HO_3:=n0_;have HO228:=n1_;have BK224:=n2_;have HB:=n3_;clear n0_ n1_ n2_ n3_;(try clear hb);(try clear ho0)))
      go_roundg k1
      case measure=>have:=HK1.out;omega
      case rel=>exact ⟨(t226),(wrap64 (x9_1 + 1)),(by first|rfl|(simp;done)|(simp [*];done)),H',⟨by have:=HK1.out;omega⟩,⟨by (with_reducible repeat (first|apply Kd.V_alloc|apply Kd.V_drewN|apply Kd.V_drew));exact HO228.out⟩,⟨by (with_reducible repeat (first|refine qN ?_ _|refine qW ?_|refine qL ?_ _));exact BK224.out⟩,⟨by repeat (first|(with_reducible first|exact HB.out|apply qA|apply qD|apply qO|refine qS ?_ GE224.out)|exact HB.out)⟩⟩
     ·rw [if_neg c6] at H;exact absurd H (by simp)
    ·rw [if_neg c5] at H;exact absurd H (by simp)
   ·rw [if_neg c4] at H;have c4b0:decide (x9_1 < (l0_1.length:Int))=false:=decide_eq_false c4;clear c4;obtain rfl:=Option.some.inj H;go_wp2
    go_ret
    exact ⟨_,by first|rfl|(simp [errW_none,errW_some] <;> rfl)|(simp [*,errW_none,errW_some] <;> rfl),by (with_reducible repeat (first|apply Kd.V_alloc|apply Kd.V_drewN|apply Kd.V_drew));exact Kd.V_mono HO_3.out (fun _ hk=>hk.1),by repeat (first|(with_reducible first|exact HB.out|apply qA|apply qD|apply qO|refine qS ?_ GE224.out)|exact HB.out)⟩

end Go.Proofs.Ytboligpcbndkjaa.PFnExactEarsOf
