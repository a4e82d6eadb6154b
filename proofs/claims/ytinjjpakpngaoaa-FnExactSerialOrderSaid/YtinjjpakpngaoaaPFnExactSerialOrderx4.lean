/-
  A text of this claim's own, printed by a program of the session (wip/tools/xprint.py): functions of the program as Lean functions, each with what its call comes to.
-/
import Derived.Test.YtinjjpakpngaoaaPFnExactSerialOrderx0
import Derived.Test.YtinjjpakpngaoaaPFnExactSerialOrderx3
namespace Go.Proofs.Ytinjjpakpngaoaa.PFnExactSerialOrder
open Go.RowKit Go.Proofs.YtinjjpakpngaoaaW.PrintWords Go.Proofs.YtinjjpakpngaoaaW.PrintLast Go.Proofs.YtinjjpakpngaoaaW.PrintMore
attribute [local go_sem] max2_int min2_int max_two min_two max_three min_three max_four min_four   -- for this text's walks alone
set_option linter.unusedVariables false
set_option linter.unusedSimpArgs false

/-! ### impl_GoodSteps: function 41 -/
/-- A good step. -/
def stepB (x : S84) : Bool := decide (0 ≤ x.f0 ∧ x.f0 ≤ 5 ∧ 1 ≤ x.f1 ∧ x.f1 ≤ 2 ∧ 0 ≤ x.f2 ∧ x.f2 ≤ 3)
theorem isStep_some (x : S84) : impl_isStep.f x.f0 x.f1 x.f2 = some (stepB x) := by
  unfold impl_isStep.f impl_isTxn.f impl_within.f stepB
  by_cases h1 : (0 : Int) ≤ x.f0 <;> by_cases h2 : x.f0 ≤ 5 <;> by_cases h3 : (1 : Int) ≤ x.f1 <;> by_cases h4 : x.f1 ≤ 2 <;> by_cases h5 : (0 : Int) ≤ x.f2 <;> simp [h1, h2, h3, h4, h5]
theorem isStep_pred (l : List (S84)) (w : World) : PredOn Try.prog 97 #[] (Agg k84) stepB l w := by
  rintro W x v _ _ ⟨cs, rfl, hK⟩
  obtain rfl := k84_open hK
  exact impl_isStep.calls x.f0 x.f1 x.f2 (stepB x) W (isStep_some x)
def impl_GoodSteps.f (l0 : List (S84)) : Option Bool := some (decide ((l0.length : Int) ≤ 40) && l0.all stepB)
set_option maxHeartbeats 4000000 in
set_option maxRecDepth 100000 in
theorem impl_GoodSteps.calls (A0 : Option Addr) (c0 : Nat) (l0 : List (S84)) (r : Bool) (w : World) (hr0 : Kd.C k84 w A0 l0.length l0) (hc0 : l0.length ≤ c0) (h : impl_GoodSteps.f l0 = some r) :
    Calls Try.prog 41 #[.slice A0 l0.length c0] w fun e w' => e = .returned (.bool r) ∧ Below w.heap.size w w' := by
  obtain rfl := Option.some.inj h
  clear h
  have HR := Aside0.mk hr0
  clear hr0
  have e1 := enters_of Try.func97 (by kernel_rfl) rfl
  by_cases hl : (l0.length : Int) ≤ 40
  · have hb : decide ((l0.length : Int) ≤ 40) = true := decide_eq_true hl
    obtain ⟨b, hb1⟩ : ∃ b, b = l0.all stepB := ⟨_, rfl⟩
    rw [hb, ← hb1, Bool.true_and]
    have hb2 := Aside0.mk hb1
    clear hb1 hl
    go_enter Try.func41, Try.ntmps41
    go_wp2_with (go_at_call 96; refine (areAll_Step.calls A0 c0 l0 _ _ _ _ e1 HR.out (isStep_pred l0 _)).mono ?_; rw [← hb2.out]; rintro e w' ⟨rfl, hb'⟩)
    go_ret
    exact ⟨rfl, hb'⟩
  · have hb : decide ((l0.length : Int) ≤ 40) = false := decide_eq_false hl
    rw [hb, Bool.false_and]
    clear hl
    go_enter Try.func41, Try.ntmps41
    go_wp2
    go_ret
    exact ⟨rfl, Below.refl _ _⟩

/-! ### impl_txnsOf: function 73 -/
def impl_txnsOf.l0 : Nat → Int → List (S84) → Int → Int → Option (Int)
  | 0, _, _, _, _ => none
  | k + 1, x3, x6, x7, x8 => if x8 < x7 then (if 0 ≤ x8 then (if x8 < (x6.length : Int) then (if 0 ≤ ((rd_T84 x6 x8).f0) then (impl_txnsOf.l0 k (Go.bits .or .i64 x3 (shl .i64 1 ((rd_T84 x6 x8).f0))) x6 x7 (wrap64 (x8 + 1))) else (none)) else (none)) else (none)) else (some x3)
def impl_txnsOf.f (k : Nat) (l0 : List (S84)) : Option (Int) := impl_txnsOf.l0 k 0 l0 (l0.length : Int) 0
theorem impl_txnsOf.mono_l : ∀ k, (∀ y0 y1 y2 y3, LeO (impl_txnsOf.l0 k y0 y1 y2 y3) (impl_txnsOf.l0 (k + 1) y0 y1 y2 y3))
  | 0 => fun _ _ _ _ r h => by simp [impl_txnsOf.l0] at h
  | k + 1 => by
    have ih0 := impl_txnsOf.mono_l k
    · intro y0 y1 y2 y3
      unfold impl_txnsOf.l0
      repeat' first
      | (with_reducible exact ih0 _ _ _ _)
      | (with_reducible exact LeO.refl _)
      | (with_reducible exact LeO.none _)
      | (with_reducible refine LeO.ite ?_ ?_)
      | (with_reducible refine LeO.bind ?_ (fun _ => ?_))
      | exact ih0 _ _ _ _
      | exact LeO.none _
      | refine LeO.ite ?_ ?_
      | refine LeO.bind ?_ (fun _ => ?_)
theorem impl_txnsOf.mono : ∀ a0 k, LeO (impl_txnsOf.f k a0) (impl_txnsOf.f (k + 1) a0) := by
  intro a0 k
  have ih0 := impl_txnsOf.mono_l k
  unfold impl_txnsOf.f
  repeat' first
      | (with_reducible exact ih0 _ _ _ _)
      | (with_reducible exact LeO.refl _)
      | (with_reducible exact LeO.none _)
      | (with_reducible refine LeO.ite ?_ ?_)
      | (with_reducible refine LeO.bind ?_ (fun _ => ?_))
      | exact ih0 _ _ _ _
      | exact LeO.none _
      | refine LeO.ite ?_ ?_
      | refine LeO.bind ?_ (fun _ => ?_)
set_option maxHeartbeats 8000000 in
set_option maxRecDepth 100000 in
theorem impl_txnsOf.calls (k : Nat) (A0 : Option Addr) (c0 : Nat) (l0 : List (S84)) (r : Int) (w : World) (hr0 : Kd.C k84 w A0 l0.length l0) (hc0 : l0.length ≤ c0) (h : impl_txnsOf.f k l0 = some r) :
    Calls Try.prog 73 #[.slice A0 l0.length c0] w fun e w' => e = .returned (.int .i64 r) ∧ Below w.heap.size w w' := by
  have hu84 := Try.underlying84
  have HR0 := Aside0.mk hr0
  have HC0 := Aside0.mk hc0
  clear hr0 hc0
  have HB := Aside0.mk (Below.refl w.heap.size w)
  have H : (impl_txnsOf.l0 k 0 l0 (l0.length : Int) 0) = some r := h
  clear h
  have H' := Aside0.mk H
  clear H
  go_enter Try.func73, Try.ntmps73
  go_wp2
  go_loopg [3, 8] k (fun kq v3 v8 w' => ∃ (x3_1 : Int) (x8_1 : Int), v3 = .int .i64 x3_1 ∧ v8 = .int .i64 x8_1 ∧ Aside0 (impl_txnsOf.l0 kq x3_1 l0 (l0.length : Int) x8_1 = some r) ∧ Aside0 (kq ≤ k) ∧ Aside0 (Below w.heap.size w w'))
  case atStart => exact ⟨(0), (0), (by first | rfl | (simp; done) | (simp [*]; done)), (by first | rfl | (simp; done) | (simp [*]; done)), H', ⟨Nat.le_refl _⟩, ⟨by repeat (first | (with_reducible first | exact HB.out | apply below_alloc | apply pw_below_drewN | apply below_drew1) | exact HB.out)⟩⟩
  case round =>
    clear H'
    obtain ⟨x3_1, x8_1, rfl, rfl, HA, HK1, HB⟩ := hrel
    cases gk with
    | zero => exact absurd HA.out (by simp [impl_txnsOf.l0])
    | succ k1 =>
      have H := HA.out
      clear HA
      simp only [impl_txnsOf.l0] at H
      by_cases c2 : x8_1 < (l0.length : Int)
      · rw [if_pos c2] at H
        have c2b0 : decide (x8_1 < (l0.length : Int)) = true := decide_eq_true c2
        clear c2
        by_cases c3 : 0 ≤ x8_1
        · rw [if_pos c3] at H
          have c3b0 : decide (0 ≤ x8_1) = true := decide_eq_true c3
          clear c3
          by_cases c4 : x8_1 < (l0.length : Int)
          · rw [if_pos c4] at H
            have c4b0 : decide (x8_1 < (l0.length : Int)) = true := decide_eq_true c4
            clear c4
            by_cases c5 : 0 ≤ ((rd_T84 l0 x8_1).f0)
            · rw [if_pos c5] at H
              have c5b0 := eq_true c5
              have c5b1 : decide (0 ≤ ((rd_T84 l0 x8_1).f0)) = true := decide_eq_true c5
              clear c5
              obtain ⟨ji6, hji6⟩ : ∃ j_ : Int, (shl .i64 1 ((rd_T84 l0 x8_1).f0)) = j_ := ⟨_, rfl⟩
              replace H : (impl_txnsOf.l0 k1 (Go.bits .or .i64 x3_1 (ji6)) l0 (l0.length : Int) (wrap64 (x8_1 + 1))) = some r := by first | (rw [hji6] at H; exact H) | (simp only [hji6] at H ⊢; exact H)
              have hji6_ : (IntKind.i64.wrap (1 * 2 ^ min ((rd_T84 l0 x8_1).f0).toNat 64)) = ji6 := hji6
              have hji6z : ((rd_T84 l0 x8_1).f0) ≤ 64 → (IntKind.i64.wrap (1 * 2 ^ ((rd_T84 l0 x8_1).f0).toNat)) = ji6 := shl_small hji6
              have hji6u : (IntKind.i64.wrap (2 ^ min ((rd_T84 l0 x8_1).f0).toNat 64)) = ji6 := by have h_ := hji6_; rw [Int.one_mul] at h_; exact h_
              have hji6v : ((rd_T84 l0 x8_1).f0) ≤ 64 → (IntKind.i64.wrap (2 ^ ((rd_T84 l0 x8_1).f0).toNat)) = ji6 := fun hle_ => by have h_ := hji6z hle_; rw [Int.one_mul] at h_; exact h_
              have hji6y : (wrap64 (1 * 2 ^ min ((rd_T84 l0 x8_1).f0).toNat 64)) = ji6 := (i64_w _).symm.trans hji6_
              have hji6x : ((rd_T84 l0 x8_1).f0) ≤ 64 → (wrap64 (1 * 2 ^ ((rd_T84 l0 x8_1).f0).toNat)) = ji6 := fun h_ => (i64_w _).symm.trans (hji6z h_)
              have H' := Aside0.mk H
              clear H
              have p216 : 0 ≤ (x8_1 : Int) := of_decide_eq_true (by first | (with_reducible assumption) | assumption)
              have q216 : x8_1 < (l0.length : Int) := of_decide_eq_true (by first | (with_reducible assumption) | assumption)
              obtain ⟨ad216, e216, hx216_0, hx216_1, hx216_2⟩ := at_T84 HR0.out x8_1 p216 q216
              cases e216
              replace hx216_0 := (HB.out.cell (World.block_lt_of_cell? w _ hx216_0)).trans hx216_0
              replace hx216_1 := (HB.out.cell (World.block_lt_of_cell? w _ hx216_1)).trans hx216_1
              replace hx216_2 := (HB.out.cell (World.block_lt_of_cell? w _ hx216_2)).trans hx216_2
              replace p216 := eq_true p216
              replace q216 := eq_true q216
              go_wp2_with (first | ((with_reducible refine gate_dst (N := 5) rfl ?_); refine box_event ?hg (N := 5) ?hd (cs := #[.int .i64 0, .int .i64 0, .int .i64 0]) (t := 84) ?hr ?_; (case hd => rfl); (case hg => rfl); (case hr => first | (go_simp; done) | (go_simp; rfl)); intro gb217 hg w7 hbox hb; have n0_ := Aside0.mk (below_step (by repeat (first | (with_reducible first | exact HB.out | apply below_alloc | apply pw_below_drewN | apply below_drew1) | exact HB.out)) hb); have n1_ := Aside0.mk (hbox); have n2_ := Aside0.mk ((by rw [hg]; exact (below_size (by repeat (first | (with_reducible first | exact HB.out | apply below_alloc | apply pw_below_drewN | apply below_drew1) | exact HB.out))) : w.heap.size ≤ gb217)); have n3_ := Aside0.mk ((by rw [hg]; exact (below_size (by repeat (first | (with_reducible first | exact HB.out | apply below_alloc | apply pw_below_drewN | apply below_drew1) | exact HB.out))) : w.heap.size ≤ gb217)); clear HB; have HB := n0_; have BK217 := n1_; have GW217 := n2_; have GE217 := n3_; clear n0_ n1_ n2_ n3_; clear hb hbox hg; have hcz8_0 : w7.cell? ⟨gb217, 0, none⟩ = some (.int .i64 0) := (blk_cell BK217.out 0).trans rfl; have hcz8_1 : w7.cell? ⟨gb217, 1, none⟩ = some (.int .i64 0) := (blk_cell BK217.out 1).trans rfl; have hcz8_2 : w7.cell? ⟨gb217, 2, none⟩ = some (.int .i64 0) := (blk_cell BK217.out 2).trans rfl; have hfz8_0 := blk_frozen BK217.out 0; have hfz8_1 := blk_frozen BK217.out 1; have hfz8_2 := blk_frozen BK217.out 2))
              go_roundg k1
              case measure => have := HK1.out; omega
              case rel => exact ⟨(Go.bits .or .i64 x3_1 (ji6)), (wrap64 (x8_1 + 1)), (by first | rfl | (simp; done) | (simp only [← hji6] <;> (first | rfl | simp)) | (simp [*]; done)), (by first | rfl | (simp; done) | (simp [*]; done)), H', ⟨by have := HK1.out; omega⟩, ⟨by repeat (first | (with_reducible first | exact HB.out | apply below_alloc | apply pw_below_drewN | apply below_drew1 | refine below_set ?_ GE217.out) | exact HB.out)⟩⟩
            · rw [if_neg c5] at H
              exact absurd H (by simp)
          · rw [if_neg c4] at H
            exact absurd H (by simp)
        · rw [if_neg c3] at H
          exact absurd H (by simp)
      · rw [if_neg c2] at H
        have c2b0 : decide (x8_1 < (l0.length : Int)) = false := decide_eq_false c2
        clear c2
        obtain rfl := Option.some.inj H
        go_wp2
        go_ret
        exact ⟨by first | rfl | (simp [errW_none, errW_some] <;> rfl) | (simp [*, errW_none, errW_some] <;> rfl), by repeat (first | (with_reducible first | exact HB.out | apply below_alloc | apply pw_below_drewN | apply below_drew1) | exact HB.out)⟩

/-! ### impl_clash: function 110 -/
def impl_clash.f (a0_0 : Int) (a0_1 : Int) (a0_2 : Int) (a1_0 : Int) (a1_1 : Int) (a1_2 : Int) : Option (Bool) := if a0_0 = a1_0 then (some false) else (if a0_2 = a1_2 then (if a0_1 = 2 then (some true) else (some (a1_1 == 2))) else (some false))
set_option maxHeartbeats 8000000 in
set_option maxRecDepth 100000 in
theorem impl_clash.calls (a0_0 : Int) (a0_1 : Int) (a0_2 : Int) (a1_0 : Int) (a1_1 : Int) (a1_2 : Int) (r : Bool) (w : World) (h : impl_clash.f a0_0 a0_1 a0_2 a1_0 a1_1 a1_2 = some r) :
    Calls Try.prog 110 #[.agg #[.int .i64 a0_0, .int .i64 a0_1, .int .i64 a0_2], .agg #[.int .i64 a1_0, .int .i64 a1_1, .int .i64 a1_2]] w fun e w' => e = .returned (.bool r) ∧ Below w.heap.size w w' := by
  have hu84 := Try.underlying84
  have HB := Aside0.mk (Below.refl w.heap.size w)
  have H : (if a0_0 = a1_0 then (some false) else (if a0_2 = a1_2 then (if a0_1 = 2 then (some true) else (some (a1_1 == 2))) else (some false))) = some r := h
  clear h
  by_cases c3 : a0_0 = a1_0
  · rw [if_pos c3] at H
    have c3b0 : (a0_0 == a1_0) = true := beq_iff_eq.mpr c3
    have c3b1 : (a0_0 != a1_0) = false := bne_eq_false_iff_eq.mpr c3
    clear c3
    obtain rfl := Option.some.inj H
    go_enter Try.func110, Try.ntmps110
    go_wp2_with (first | ((with_reducible refine gate_dst (N := 2) rfl ?_); refine box_event ?hg (N := 2) ?hd (cs := #[.int .i64 a0_0, .int .i64 a0_1, .int .i64 a0_2]) (t := 84) ?hr ?_; (case hd => rfl); (case hg => rfl); (case hr => first | (go_simp; done) | (go_simp; rfl)); intro gb218 hg w4 hbox hb; have n0_ := Aside0.mk (below_step (by repeat (first | (with_reducible first | exact HB.out | apply below_alloc | apply pw_below_drewN | apply below_drew1) | exact HB.out)) hb); have n1_ := Aside0.mk (hbox); have n2_ := Aside0.mk ((by rw [hg]; exact (below_size (by repeat (first | (with_reducible first | exact HB.out | apply below_alloc | apply pw_below_drewN | apply below_drew1) | exact HB.out))) : w.heap.size ≤ gb218)); have n3_ := Aside0.mk ((by rw [hg]; exact (below_size (by repeat (first | (with_reducible first | exact HB.out | apply below_alloc | apply pw_below_drewN | apply below_drew1) | exact HB.out))) : w.heap.size ≤ gb218)); clear HB; have HB := n0_; have BK218 := n1_; have GW218 := n2_; have GE218 := n3_; clear n0_ n1_ n2_ n3_; clear hb hbox hg) | ((with_reducible refine gate_dst (N := 3) rfl ?_); refine box_event ?hg (N := 3) ?hd (cs := #[.int .i64 a1_0, .int .i64 a1_1, .int .i64 a1_2]) (t := 84) ?hr ?_; (case hd => rfl); (case hg => rfl); (case hr => first | (go_simp; done) | (go_simp; rfl)); intro gb219 hg w5 hbox hb; have n0_ := Aside0.mk (blk_below (g := gb218) (o := .cells #[.int .i64 a0_0, .int .i64 a0_1, .int .i64 a0_2] 84 (0, 0)) (by (with_reducible repeat (first | refine blk_drewN ?_ _ | refine blk_drew ?_ | refine blk_alloc ?_ _)); exact BK218.out) hb); have n1_ := Aside0.mk (below_step (by repeat (first | (with_reducible first | exact HB.out | apply below_alloc | apply pw_below_drewN | apply below_drew1 | refine below_set ?_ GE218.out) | exact HB.out)) hb); have n2_ := Aside0.mk (hbox); have n3_ := Aside0.mk ((by rw [hg]; exact (below_size (by repeat (first | (with_reducible first | exact HB.out | apply below_alloc | apply pw_below_drewN | apply below_drew1 | refine below_set ?_ GE218.out) | exact HB.out))) : w.heap.size ≤ gb219)); have n4_ := Aside0.mk ((by rw [hg]; exact (below_size (by repeat (first | (with_reducible first | exact HB.out | apply below_alloc | apply pw_below_drewN | apply below_drew1 | refine below_set ?_ GE218.out) | exact HB.out))) : w.heap.size ≤ gb219)); have n5_ := Aside0.mk ((by rw [hg]; exact Nat.ne_of_lt (blk_lt (g := gb218) (o := .cells #[.int .i64 a0_0, .int .i64 a0_1, .int .i64 a0_2] 84 (0, 0)) (by (with_reducible repeat (first | refine blk_drewN ?_ _ | refine blk_drew ?_ | refine blk_alloc ?_ _)); exact BK218.out)) : gb218 ≠ gb219)); have n6_ := Aside0.mk ((by rw [hg]; exact Nat.ne_of_gt (blk_lt (g := gb218) (o := .cells #[.int .i64 a0_0, .int .i64 a0_1, .int .i64 a0_2] 84 (0, 0)) (by (with_reducible repeat (first | refine blk_drewN ?_ _ | refine blk_drew ?_ | refine blk_alloc ?_ _)); exact BK218.out)) : gb219 ≠ gb218)); clear BK218; clear HB; have BK218 := n0_; have HB := n1_; have BK219 := n2_; have GW219 := n3_; have GE219 := n4_; have NB218_219 := n5_; have NB219_218 := n6_; clear n0_ n1_ n2_ n3_ n4_ n5_ n6_; clear hb hbox hg; have hnb6 := NB218_219.out; have hnc6 := NB219_218.out; have hcz7_0 : w5.cell? ⟨gb218, 0, none⟩ = some (.int .i64 a0_0) := (blk_cell BK218.out 0).trans rfl; have hcz7_1 : w5.cell? ⟨gb218, 1, none⟩ = some (.int .i64 a0_1) := (blk_cell BK218.out 1).trans rfl; have hcz7_2 : w5.cell? ⟨gb218, 2, none⟩ = some (.int .i64 a0_2) := (blk_cell BK218.out 2).trans rfl; have hfz7_0 := blk_frozen BK218.out 0; have hfz7_1 := blk_frozen BK218.out 1; have hfz7_2 := blk_frozen BK218.out 2; have hcz8_0 : w5.cell? ⟨gb219, 0, none⟩ = some (.int .i64 a1_0) := (blk_cell BK219.out 0).trans rfl; have hcz8_1 : w5.cell? ⟨gb219, 1, none⟩ = some (.int .i64 a1_1) := (blk_cell BK219.out 1).trans rfl; have hcz8_2 : w5.cell? ⟨gb219, 2, none⟩ = some (.int .i64 a1_2) := (blk_cell BK219.out 2).trans rfl; have hfz8_0 := blk_frozen BK219.out 0; have hfz8_1 := blk_frozen BK219.out 1; have hfz8_2 := blk_frozen BK219.out 2))
    go_ret
    exact ⟨by first | rfl | (simp [errW_none, errW_some] <;> rfl) | (simp [*, errW_none, errW_some] <;> rfl), by repeat (first | (with_reducible first | exact HB.out | apply below_alloc | apply pw_below_drewN | apply below_drew1 | refine below_set ?_ GE218.out | refine below_set ?_ GE219.out) | exact HB.out)⟩
  · rw [if_neg c3] at H
    have c3b0 : (a0_0 == a1_0) = false := beq_eq_false_iff_ne.mpr c3
    have c3b1 : (a0_0 != a1_0) = true := bne_iff_ne.mpr c3
    by_cases c9 : a0_2 = a1_2
    · rw [if_pos c9] at H
      have c9b0 : (a0_2 == a1_2) = true := beq_iff_eq.mpr c9
      have c9b1 : (a0_2 != a1_2) = false := bne_eq_false_iff_eq.mpr c9
      clear c9
      by_cases c10 : a0_1 = 2
      · rw [if_pos c10] at H
        have c10b0 : (a0_1 == 2) = true := beq_iff_eq.mpr c10
        have c10b1 : (a0_1 != 2) = false := bne_eq_false_iff_eq.mpr c10
        clear c10
        obtain rfl := Option.some.inj H
        go_enter Try.func110, Try.ntmps110
        go_wp2_with (first | ((with_reducible refine gate_dst (N := 2) rfl ?_); refine box_event ?hg (N := 2) ?hd (cs := #[.int .i64 a0_0, .int .i64 a0_1, .int .i64 a0_2]) (t := 84) ?hr ?_; (case hd => rfl); (case hg => rfl); (case hr => first | (go_simp; done) | (go_simp; rfl)); intro gb218 hg w11 hbox hb; have n0_ := Aside0.mk (below_step (by repeat (first | (with_reducible first | exact HB.out | apply below_alloc | apply pw_below_drewN | apply below_drew1) | exact HB.out)) hb); have n1_ := Aside0.mk (hbox); have n2_ := Aside0.mk ((by rw [hg]; exact (below_size (by repeat (first | (with_reducible first | exact HB.out | apply below_alloc | apply pw_below_drewN | apply below_drew1) | exact HB.out))) : w.heap.size ≤ gb218)); have n3_ := Aside0.mk ((by rw [hg]; exact (below_size (by repeat (first | (with_reducible first | exact HB.out | apply below_alloc | apply pw_below_drewN | apply below_drew1) | exact HB.out))) : w.heap.size ≤ gb218)); clear HB; have HB := n0_; have BK218 := n1_; have GW218 := n2_; have GE218 := n3_; clear n0_ n1_ n2_ n3_; clear hb hbox hg) | ((with_reducible refine gate_dst (N := 3) rfl ?_); refine box_event ?hg (N := 3) ?hd (cs := #[.int .i64 a1_0, .int .i64 a1_1, .int .i64 a1_2]) (t := 84) ?hr ?_; (case hd => rfl); (case hg => rfl); (case hr => first | (go_simp; done) | (go_simp; rfl)); intro gb219 hg w12 hbox hb; have n0_ := Aside0.mk (blk_below (g := gb218) (o := .cells #[.int .i64 a0_0, .int .i64 a0_1, .int .i64 a0_2] 84 (0, 0)) (by (with_reducible repeat (first | refine blk_drewN ?_ _ | refine blk_drew ?_ | refine blk_alloc ?_ _)); exact BK218.out) hb); have n1_ := Aside0.mk (below_step (by repeat (first | (with_reducible first | exact HB.out | apply below_alloc | apply pw_below_drewN | apply below_drew1 | refine below_set ?_ GE218.out) | exact HB.out)) hb); have n2_ := Aside0.mk (hbox); have n3_ := Aside0.mk ((by rw [hg]; exact (below_size (by repeat (first | (with_reducible first | exact HB.out | apply below_alloc | apply pw_below_drewN | apply below_drew1 | refine below_set ?_ GE218.out) | exact HB.out))) : w.heap.size ≤ gb219)); have n4_ := Aside0.mk ((by rw [hg]; exact (below_size (by repeat (first | (with_reducible first | exact HB.out | apply below_alloc | apply pw_below_drewN | apply below_drew1 | refine below_set ?_ GE218.out) | exact HB.out))) : w.heap.size ≤ gb219)); have n5_ := Aside0.mk ((by rw [hg]; exact Nat.ne_of_lt (blk_lt (g := gb218) (o := .cells #[.int .i64 a0_0, .int .i64 a0_1, .int .i64 a0_2] 84 (0, 0)) (by (with_reducible repeat (first | refine blk_drewN ?_ _ | refine blk_drew ?_ | refine blk_alloc ?_ _)); exact BK218.out)) : gb218 ≠ gb219)); have n6_ := Aside0.mk ((by rw [hg]; exact Nat.ne_of_gt (blk_lt (g := gb218) (o := .cells #[.int .i64 a0_0, .int .i64 a0_1, .int .i64 a0_2] 84 (0, 0)) (by (with_reducible repeat (first | refine blk_drewN ?_ _ | refine blk_drew ?_ | refine blk_alloc ?_ _)); exact BK218.out)) : gb219 ≠ gb218)); clear BK218; clear HB; have BK218 := n0_; have HB := n1_; have BK219 := n2_; have GW219 := n3_; have GE219 := n4_; have NB218_219 := n5_; have NB219_218 := n6_; clear n0_ n1_ n2_ n3_ n4_ n5_ n6_; clear hb hbox hg; have hnb13 := NB218_219.out; have hnc13 := NB219_218.out; have hcz14_0 : w12.cell? ⟨gb218, 0, none⟩ = some (.int .i64 a0_0) := (blk_cell BK218.out 0).trans rfl; have hcz14_1 : w12.cell? ⟨gb218, 1, none⟩ = some (.int .i64 a0_1) := (blk_cell BK218.out 1).trans rfl; have hcz14_2 : w12.cell? ⟨gb218, 2, none⟩ = some (.int .i64 a0_2) := (blk_cell BK218.out 2).trans rfl; have hfz14_0 := blk_frozen BK218.out 0; have hfz14_1 := blk_frozen BK218.out 1; have hfz14_2 := blk_frozen BK218.out 2; have hcz15_0 : w12.cell? ⟨gb219, 0, none⟩ = some (.int .i64 a1_0) := (blk_cell BK219.out 0).trans rfl; have hcz15_1 : w12.cell? ⟨gb219, 1, none⟩ = some (.int .i64 a1_1) := (blk_cell BK219.out 1).trans rfl; have hcz15_2 : w12.cell? ⟨gb219, 2, none⟩ = some (.int .i64 a1_2) := (blk_cell BK219.out 2).trans rfl; have hfz15_0 := blk_frozen BK219.out 0; have hfz15_1 := blk_frozen BK219.out 1; have hfz15_2 := blk_frozen BK219.out 2))
        go_ret
        exact ⟨by first | rfl | (simp [errW_none, errW_some] <;> rfl) | (simp [*, errW_none, errW_some] <;> rfl), by repeat (first | (with_reducible first | exact HB.out | apply below_alloc | apply pw_below_drewN | apply below_drew1 | refine below_set ?_ GE218.out | refine below_set ?_ GE219.out) | exact HB.out)⟩
      · rw [if_neg c10] at H
        have c10b0 : (a0_1 == 2) = false := beq_eq_false_iff_ne.mpr c10
        have c10b1 : (a0_1 != 2) = true := bne_iff_ne.mpr c10
        obtain rfl := Option.some.inj H
        go_enter Try.func110, Try.ntmps110
        go_wp2_with (first | ((with_reducible refine gate_dst (N := 2) rfl ?_); refine box_event ?hg (N := 2) ?hd (cs := #[.int .i64 a0_0, .int .i64 a0_1, .int .i64 a0_2]) (t := 84) ?hr ?_; (case hd => rfl); (case hg => rfl); (case hr => first | (go_simp; done) | (go_simp; rfl)); intro gb218 hg w16 hbox hb; have n0_ := Aside0.mk (below_step (by repeat (first | (with_reducible first | exact HB.out | apply below_alloc | apply pw_below_drewN | apply below_drew1) | exact HB.out)) hb); have n1_ := Aside0.mk (hbox); have n2_ := Aside0.mk ((by rw [hg]; exact (below_size (by repeat (first | (with_reducible first | exact HB.out | apply below_alloc | apply pw_below_drewN | apply below_drew1) | exact HB.out))) : w.heap.size ≤ gb218)); have n3_ := Aside0.mk ((by rw [hg]; exact (below_size (by repeat (first | (with_reducible first | exact HB.out | apply below_alloc | apply pw_below_drewN | apply below_drew1) | exact HB.out))) : w.heap.size ≤ gb218)); clear HB; have HB := n0_; have BK218 := n1_; have GW218 := n2_; have GE218 := n3_; clear n0_ n1_ n2_ n3_; clear hb hbox hg) | ((with_reducible refine gate_dst (N := 3) rfl ?_); refine box_event ?hg (N := 3) ?hd (cs := #[.int .i64 a1_0, .int .i64 a1_1, .int .i64 a1_2]) (t := 84) ?hr ?_; (case hd => rfl); (case hg => rfl); (case hr => first | (go_simp; done) | (go_simp; rfl)); intro gb219 hg w17 hbox hb; have n0_ := Aside0.mk (blk_below (g := gb218) (o := .cells #[.int .i64 a0_0, .int .i64 a0_1, .int .i64 a0_2] 84 (0, 0)) (by (with_reducible repeat (first | refine blk_drewN ?_ _ | refine blk_drew ?_ | refine blk_alloc ?_ _)); exact BK218.out) hb); have n1_ := Aside0.mk (below_step (by repeat (first | (with_reducible first | exact HB.out | apply below_alloc | apply pw_below_drewN | apply below_drew1 | refine below_set ?_ GE218.out) | exact HB.out)) hb); have n2_ := Aside0.mk (hbox); have n3_ := Aside0.mk ((by rw [hg]; exact (below_size (by repeat (first | (with_reducible first | exact HB.out | apply below_alloc | apply pw_below_drewN | apply below_drew1 | refine below_set ?_ GE218.out) | exact HB.out))) : w.heap.size ≤ gb219)); have n4_ := Aside0.mk ((by rw [hg]; exact (below_size (by repeat (first | (with_reducible first | exact HB.out | apply below_alloc | apply pw_below_drewN | apply below_drew1 | refine below_set ?_ GE218.out) | exact HB.out))) : w.heap.size ≤ gb219)); have n5_ := Aside0.mk ((by rw [hg]; exact Nat.ne_of_lt (blk_lt (g := gb218) (o := .cells #[.int .i64 a0_0, .int .i64 a0_1, .int .i64 a0_2] 84 (0, 0)) (by (with_reducible repeat (first | refine blk_drewN ?_ _ | refine blk_drew ?_ | refine blk_alloc ?_ _)); exact BK218.out)) : gb218 ≠ gb219)); have n6_ := Aside0.mk ((by rw [hg]; exact Nat.ne_of_gt (blk_lt (g := gb218) (o := .cells #[.int .i64 a0_0, .int .i64 a0_1, .int .i64 a0_2] 84 (0, 0)) (by (with_reducible repeat (first | refine blk_drewN ?_ _ | refine blk_drew ?_ | refine blk_alloc ?_ _)); exact BK218.out)) : gb219 ≠ gb218)); clear BK218; clear HB; have BK218 := n0_; have HB := n1_; have BK219 := n2_; have GW219 := n3_; have GE219 := n4_; have NB218_219 := n5_; have NB219_218 := n6_; clear n0_ n1_ n2_ n3_ n4_ n5_ n6_; clear hb hbox hg; have hnb18 := NB218_219.out; have hnc18 := NB219_218.out; have hcz19_0 : w17.cell? ⟨gb218, 0, none⟩ = some (.int .i64 a0_0) := (blk_cell BK218.out 0).trans rfl; have hcz19_1 : w17.cell? ⟨gb218, 1, none⟩ = some (.int .i64 a0_1) := (blk_cell BK218.out 1).trans rfl; have hcz19_2 : w17.cell? ⟨gb218, 2, none⟩ = some (.int .i64 a0_2) := (blk_cell BK218.out 2).trans rfl; have hfz19_0 := blk_frozen BK218.out 0; have hfz19_1 := blk_frozen BK218.out 1; have hfz19_2 := blk_frozen BK218.out 2; have hcz20_0 : w17.cell? ⟨gb219, 0, none⟩ = some (.int .i64 a1_0) := (blk_cell BK219.out 0).trans rfl; have hcz20_1 : w17.cell? ⟨gb219, 1, none⟩ = some (.int .i64 a1_1) := (blk_cell BK219.out 1).trans rfl; have hcz20_2 : w17.cell? ⟨gb219, 2, none⟩ = some (.int .i64 a1_2) := (blk_cell BK219.out 2).trans rfl; have hfz20_0 := blk_frozen BK219.out 0; have hfz20_1 := blk_frozen BK219.out 1; have hfz20_2 := blk_frozen BK219.out 2))
        go_ret
        exact ⟨by first | rfl | (simp [errW_none, errW_some] <;> rfl) | (simp [*, errW_none, errW_some] <;> rfl), by repeat (first | (with_reducible first | exact HB.out | apply below_alloc | apply pw_below_drewN | apply below_drew1 | refine below_set ?_ GE218.out | refine below_set ?_ GE219.out) | exact HB.out)⟩
    · rw [if_neg c9] at H
      have c9b0 : (a0_2 == a1_2) = false := beq_eq_false_iff_ne.mpr c9
      have c9b1 : (a0_2 != a1_2) = true := bne_iff_ne.mpr c9
      obtain rfl := Option.some.inj H
      go_enter Try.func110, Try.ntmps110
      go_wp2_with (first | ((with_reducible refine gate_dst (N := 2) rfl ?_); refine box_event ?hg (N := 2) ?hd (cs := #[.int .i64 a0_0, .int .i64 a0_1, .int .i64 a0_2]) (t := 84) ?hr ?_; (case hd => rfl); (case hg => rfl); (case hr => first | (go_simp; done) | (go_simp; rfl)); intro gb218 hg w21 hbox hb; have n0_ := Aside0.mk (below_step (by repeat (first | (with_reducible first | exact HB.out | apply below_alloc | apply pw_below_drewN | apply below_drew1) | exact HB.out)) hb); have n1_ := Aside0.mk (hbox); have n2_ := Aside0.mk ((by rw [hg]; exact (below_size (by repeat (first | (with_reducible first | exact HB.out | apply below_alloc | apply pw_below_drewN | apply below_drew1) | exact HB.out))) : w.heap.size ≤ gb218)); have n3_ := Aside0.mk ((by rw [hg]; exact (below_size (by repeat (first | (with_reducible first | exact HB.out | apply below_alloc | apply pw_below_drewN | apply below_drew1) | exact HB.out))) : w.heap.size ≤ gb218)); clear HB; have HB := n0_; have BK218 := n1_; have GW218 := n2_; have GE218 := n3_; clear n0_ n1_ n2_ n3_; clear hb hbox hg) | ((with_reducible refine gate_dst (N := 3) rfl ?_); refine box_event ?hg (N := 3) ?hd (cs := #[.int .i64 a1_0, .int .i64 a1_1, .int .i64 a1_2]) (t := 84) ?hr ?_; (case hd => rfl); (case hg => rfl); (case hr => first | (go_simp; done) | (go_simp; rfl)); intro gb219 hg w22 hbox hb; have n0_ := Aside0.mk (blk_below (g := gb218) (o := .cells #[.int .i64 a0_0, .int .i64 a0_1, .int .i64 a0_2] 84 (0, 0)) (by (with_reducible repeat (first | refine blk_drewN ?_ _ | refine blk_drew ?_ | refine blk_alloc ?_ _)); exact BK218.out) hb); have n1_ := Aside0.mk (below_step (by repeat (first | (with_reducible first | exact HB.out | apply below_alloc | apply pw_below_drewN | apply below_drew1 | refine below_set ?_ GE218.out) | exact HB.out)) hb); have n2_ := Aside0.mk (hbox); have n3_ := Aside0.mk ((by rw [hg]; exact (below_size (by repeat (first | (with_reducible first | exact HB.out | apply below_alloc | apply pw_below_drewN | apply below_drew1 | refine below_set ?_ GE218.out) | exact HB.out))) : w.heap.size ≤ gb219)); have n4_ := Aside0.mk ((by rw [hg]; exact (below_size (by repeat (first | (with_reducible first | exact HB.out | apply below_alloc | apply pw_below_drewN | apply below_drew1 | refine below_set ?_ GE218.out) | exact HB.out))) : w.heap.size ≤ gb219)); have n5_ := Aside0.mk ((by rw [hg]; exact Nat.ne_of_lt (blk_lt (g := gb218) (o := .cells #[.int .i64 a0_0, .int .i64 a0_1, .int .i64 a0_2] 84 (0, 0)) (by (with_reducible repeat (first | refine blk_drewN ?_ _ | refine blk_drew ?_ | refine blk_alloc ?_ _)); exact BK218.out)) : gb218 ≠ gb219)); have n6_ := Aside0.mk ((by rw [hg]; exact Nat.ne_of_gt (blk_lt (g := gb218) (o := .cells #[.int .i64 a0_0, .int .i64 a0_1, .int .i64 a0_2] 84 (0, 0)) (by (with_reducible repeat (first | refine blk_drewN ?_ _ | refine blk_drew ?_ | refine blk_alloc ?_ _)); exact BK218.out)) : gb219 ≠ gb218)); clear BK218; clear HB; have BK218 := n0_; have HB := n1_; have BK219 := n2_; have GW219 := n3_; have GE219 := n4_; have NB218_219 := n5_; have NB219_218 := n6_; clear n0_ n1_ n2_ n3_ n4_ n5_ n6_; clear hb hbox hg; have hnb23 := NB218_219.out; have hnc23 := NB219_218.out; have hcz24_0 : w22.cell? ⟨gb218, 0, none⟩ = some (.int .i64 a0_0) := (blk_cell BK218.out 0).trans rfl; have hcz24_1 : w22.cell? ⟨gb218, 1, none⟩ = some (.int .i64 a0_1) := (blk_cell BK218.out 1).trans rfl; have hcz24_2 : w22.cell? ⟨gb218, 2, none⟩ = some (.int .i64 a0_2) := (blk_cell BK218.out 2).trans rfl; have hfz24_0 := blk_frozen BK218.out 0; have hfz24_1 := blk_frozen BK218.out 1; have hfz24_2 := blk_frozen BK218.out 2; have hcz25_0 : w22.cell? ⟨gb219, 0, none⟩ = some (.int .i64 a1_0) := (blk_cell BK219.out 0).trans rfl; have hcz25_1 : w22.cell? ⟨gb219, 1, none⟩ = some (.int .i64 a1_1) := (blk_cell BK219.out 1).trans rfl; have hcz25_2 : w22.cell? ⟨gb219, 2, none⟩ = some (.int .i64 a1_2) := (blk_cell BK219.out 2).trans rfl; have hfz25_0 := blk_frozen BK219.out 0; have hfz25_1 := blk_frozen BK219.out 1; have hfz25_2 := blk_frozen BK219.out 2))
      go_ret
      exact ⟨by first | rfl | (simp [errW_none, errW_some] <;> rfl) | (simp [*, errW_none, errW_some] <;> rfl), by repeat (first | (with_reducible first | exact HB.out | apply below_alloc | apply pw_below_drewN | apply below_drew1 | refine below_set ?_ GE218.out | refine below_set ?_ GE219.out) | exact HB.out)⟩

/-! ### impl_conflicts: function 74 -/
def clashB (a b : S84) : Bool := decide (a.f0 ≠ b.f0 ∧ a.f2 = b.f2 ∧ (a.f1 = 2 ∨ b.f1 = 2))
theorem clash_some (a b : S84) : impl_clash.f a.f0 a.f1 a.f2 b.f0 b.f1 b.f2 = some (clashB a b) := by
  unfold impl_clash.f clashB
  by_cases h1 : a.f0 = b.f0
  · simp [h1]
  · by_cases h2 : a.f2 = b.f2
    · by_cases h3 : a.f1 = 2
      · simp [h1, h2, h3]
      · rw [if_neg h1, if_pos h2, if_neg h3, Option.some.injEq, Bool.eq_iff_iff]; simp [h1, h2, h3]
    · simp [h1, h2]
/-- What a clashing later step leaves in the table of who comes ahead of whom. -/
def confPut (a : S84) (cur : List Int) (b : S84) : List Int := if clashB a b = true then cur.set a.f0.toNat (Go.bits .or .i64 (rd cur a.f0) (shl .i64 1 b.f0)) else cur
def confFrom : List S84 → List Int → List Int
  | [], cur => cur
  | a :: l, cur => confFrom l (l.foldl (confPut a) cur)
def conf (l : List S84) : List Int := confFrom l [0, 0, 0, 0, 0, 0]
theorem confPut_length (a : S84) (cur : List Int) (b : S84) : (confPut a cur b).length = cur.length := by unfold confPut; split <;> simp
theorem conf_row_length (a : S84) : ∀ (l : List S84) (cur : List Int), (l.foldl (confPut a) cur).length = cur.length
  | [], _ => rfl
  | b :: l, cur => by rw [List.foldl_cons, conf_row_length a l, confPut_length]
set_option maxHeartbeats 4000000 in
set_option maxRecDepth 100000 in
theorem impl_conflicts.calls (A0 : Option Addr) (c0 : Nat) (l0 : List S84) (w : World) (hr0 : Kd.C k84 w A0 l0.length l0) (hc0 : l0.length ≤ c0) (hg : ∀ x ∈ l0, stepB x = true) :
    Calls Try.prog 74 #[.slice A0 l0.length c0] w fun e w' => e = .returned (.agg (nums .i64 (conf l0)).toArray) ∧ Below w.heap.size w w' := by
  have hl : l0.length ≤ 9223372036854775807 := hr0.2.1
  have HR := Aside0.mk hr0
  clear hr0
  have HG := Aside0.mk hg
  clear hg
  go_enter Try.func74, Try.ntmps74
  go_wp2
  go_loopg [10] l0.length (fun gg v10 wr => ∃ (kk : Nat) (cur : List Int), kk ≤ l0.length ∧ l0.length - kk ≤ gg ∧ v10 = .int .i64 kk ∧ Aside0 (Below w.heap.size w wr) ∧ Aside0 (∃ z, z.size = 6 ∧ wr.heap[w.heap.size]? = some (.cells z 104 (0, 0))) ∧ Aside0 (wr.heap[w.heap.size + 1]? = some (.cells (nums .i64 cur).toArray 104 (0, 0))) ∧ Aside0 (cur.length = 6 ∧ confFrom (l0.drop kk) cur = conf l0))
  case atStart =>
    refine ⟨0, [0, 0, 0, 0, 0, 0], Nat.zero_le _, by omega, rfl, ⟨below_alloc (below_alloc (Below.refl _ _) _) _⟩, ⟨_, ?_, blk_alloc (blk_new _ _) _⟩, ⟨?_⟩, ⟨rfl, rfl⟩⟩
    · rfl
    · exact (by simp : (w.alloc (.cells #[.int .i64 0, .int .i64 0, .int .i64 0, .int .i64 0, .int .i64 0, .int .i64 0] 104)).heap.size = w.heap.size + 1) ▸ blk_new (w.alloc (.cells #[.int .i64 0, .int .i64 0, .int .i64 0, .int .i64 0, .int .i64 0, .int .i64 0] 104)) (.cells #[.int .i64 0, .int .i64 0, .int .i64 0, .int .i64 0, .int .i64 0, .int .i64 0] 104)
  case round =>
    obtain ⟨kk, cur, hkk, hgg, rfl, HB, HZ, HC, HF⟩ := hrel
    by_cases hlt : kk < l0.length
    · have hltz : (kk : Int) < (l0.length : Int) := by omega
      obtain ⟨ad, e1, h0, h1, h2⟩ := at_T84 (Kd.C_below HR.out HB.out) (kk : Int) (by omega) (by omega)
      cases e1
      simp only [Int.toNat_natCast] at h0 h1 h2
      obtain ⟨a, ha⟩ : ∃ a, a = rd_T84 l0 (kk : Int) := ⟨_, rfl⟩
      rw [← ha] at h0 h1 h2
      have HA := Aside0.mk ha
      clear ha
      go_upto_block 2 with (fail)
      have hd := Kd.C_drop (m := kk + 1) (c := c0) HR.out (by omega) hc0
      simp only [Option.map_some] at hd
      rw [show l0.length - (kk + 1) = (l0.drop (kk + 1)).length from by simp]
      replace hd : Kd.C k84 w (if c0 = kk + 1 then some ad else some (ad.add ((kk + 1) * 3))) (l0.drop (kk + 1)).length (l0.drop (kk + 1)) := hd
      obtain ⟨A2, hA2⟩ : ∃ A2, A2 = (if c0 = kk + 1 then some ad else some (ad.add ((kk + 1) * 3))) := ⟨_, rfl⟩
      rw [← hA2] at hd ⊢
      obtain ⟨l2, hl2⟩ : ∃ l2, l2 = l0.drop (kk + 1) := ⟨_, rfl⟩
      rw [← hl2] at hd ⊢
      have hl2n : l2.length ≤ 9223372036854775807 := hd.2.1
      have HR2 := Aside0.mk hd
      have HG2 := Aside0.mk (show ∀ x ∈ l2, stepB x = true from fun x hx => HG.out x (by rw [hl2] at hx; exact List.mem_of_mem_drop hx))
      have HGA := Aside0.mk (show stepB a = true from HG.out a (by rw [HA.out]; simp [rd_T84, hlt]))
      have HL2 := Aside0.mk hl2
      have h3lt := blk_lt HC.out
      clear hd hl2 hA2 h0 h1 h2
      have HBA := Aside0.mk (blk_new wr (.cells #[.int .i64 a.f0, .int .i64 a.f1, .int .i64 a.f2] 84))
      have HB1 := Aside0.mk (below_alloc HB.out (.cells #[.int .i64 a.f0, .int .i64 a.f1, .int .i64 a.f2] 84))
      have HZ1 := Aside0.mk (show ∃ z, z.size = 6 ∧ (wr.alloc (.cells #[.int .i64 a.f0, .int .i64 a.f1, .int .i64 a.f2] 84)).heap[w.heap.size]? = some (.cells z 104 (0, 0)) from by obtain ⟨z, hz, hzz⟩ := HZ.out; exact ⟨z, hz, blk_alloc hzz _⟩)
      have HC1 := Aside0.mk (blk_alloc HC.out (.cells #[.int .i64 a.f0, .int .i64 a.f1, .int .i64 a.f2] 84))
      obtain ⟨B, hB⟩ : ∃ B, B = wr.heap.size := ⟨_, rfl⟩
      rw [← hB] at HBA h3lt ⊢
      obtain ⟨W, hW⟩ : ∃ W, W = wr.alloc (.cells #[.int .i64 a.f0, .int .i64 a.f1, .int .i64 a.f2] 84) := ⟨_, rfl⟩
      rw [← hW] at HBA HB1 HZ1 HC1 ⊢
      clear hW hB HB HZ HC
      go_wp2
      go_loopg [20] l2.length (fun gi v20 wi => ∃ (jj : Nat) (cu : List Int), jj ≤ l2.length ∧ l2.length - jj ≤ gi ∧ v20 = .int .i64 jj ∧ Aside0 (Below w.heap.size w wi) ∧ Aside0 (∃ z, z.size = 6 ∧ wi.heap[w.heap.size]? = some (.cells z 104 (0, 0))) ∧ Aside0 (wi.heap[w.heap.size + 1]? = some (.cells (nums .i64 cu).toArray 104 (0, 0))) ∧ Aside0 (wi.heap[B]? = some (.cells #[.int .i64 a.f0, .int .i64 a.f1, .int .i64 a.f2] 84 (0, 0))) ∧ Aside0 (cu.length = 6 ∧ (l2.drop jj).foldl (confPut a) cu = l2.foldl (confPut a) cur))
      case atStart => exact ⟨0, cur, Nat.zero_le _, by omega, rfl, HB1, HZ1, HC1, HBA, ⟨HF.out.1, by simp⟩⟩
      case round =>
        obtain ⟨jj, cu, hjj, hgi, rfl, HBi, HZi, HCi, HBAi, HFi⟩ := hrel
        by_cases hlj : jj < l2.length
        · have hljz : (jj : Int) < (l2.length : Int) := by omega
          obtain ⟨ad2, e2, h0, h1, h2⟩ := at_T84 (Kd.C_below HR2.out HBi.out) (jj : Int) (by omega) (by omega)
          cases e2
          simp only [Int.toNat_natCast] at h0 h1 h2
          obtain ⟨b, hb⟩ : ∃ b, b = rd_T84 l2 (jj : Int) := ⟨_, rfl⟩
          rw [← hb] at h0 h1 h2
          have HBB := Aside0.mk hb
          clear hb
          have ha0 : wr.cell? ⟨B, 0, none⟩ = some (.int .i64 a.f0) := (blk_cell HBAi.out 0).trans rfl
          have ha1 : wr.cell? ⟨B, 1, none⟩ = some (.int .i64 a.f1) := (blk_cell HBAi.out 1).trans rfl
          have ha2 : wr.cell? ⟨B, 2, none⟩ = some (.int .i64 a.f2) := (blk_cell HBAi.out 2).trans rfl
          have HW1 := Aside0.mk (below_alloc HBi.out (.cells #[.int .i64 b.f0, .int .i64 b.f1, .int .i64 b.f2] 84))
          have HBA1 := Aside0.mk (blk_alloc HBAi.out (.cells #[.int .i64 b.f0, .int .i64 b.f1, .int .i64 b.f2] 84))
          have HCi1 := Aside0.mk (blk_alloc HCi.out (.cells #[.int .i64 b.f0, .int .i64 b.f1, .int .i64 b.f2] 84))
          have HZi1 := Aside0.mk (show ∃ z, z.size = 6 ∧ (wr.alloc (.cells #[.int .i64 b.f0, .int .i64 b.f1, .int .i64 b.f2] 84)).heap[w.heap.size]? = some (.cells z 104 (0, 0)) from by obtain ⟨z, hz, hzz⟩ := HZi.out; exact ⟨z, hz, blk_alloc hzz _⟩)
          have HBN1 := Aside0.mk (blk_new wr (.cells #[.int .i64 b.f0, .int .i64 b.f1, .int .i64 b.f2] 84))
          have hBlt := blk_lt HBAi.out
          obtain ⟨B4, hB4⟩ : ∃ B4, B4 = wr.heap.size := ⟨_, rfl⟩
          rw [← hB4] at HBN1
          have HB4 := Aside0.mk hB4
          clear hB4
          have hdr : l2.drop jj = b :: l2.drop (jj + 1) := by rw [List.drop_eq_getElem_cons hlj]; congr 1; rw [HBB.out]; simp [rd_T84, hlj]
          have HDR := Aside0.mk hdr
          clear hdr
          have hcl := clash_some a b
          cases hcb : clashB a b with
          | false =>
            rw [hcb] at hcl
            have HCB := Aside0.mk hcb
            have HCL := Aside0.mk hcl
            clear hcb hcl
            go_wp2_with (go_at_call 110; refine (impl_clash.calls a.f0 a.f1 a.f2 b.f0 b.f1 b.f2 false _ HCL.out).mono ?_; rintro e w' ⟨rfl, hb'⟩)
            go_roundg (l2.length - (jj + 1))
            case measure => omega
            case rel =>
              refine ⟨jj + 1, cu, by omega, by omega, by go_num, ⟨below_step HW1.out hb'⟩, ⟨?_⟩, ⟨blk_below HCi1.out hb'⟩, ⟨blk_below HBA1.out hb'⟩, ⟨HFi.out.1, ?_⟩⟩
              · obtain ⟨z, hz, hzz⟩ := HZi1.out; exact ⟨z, hz, blk_below hzz hb'⟩
              · rw [← HFi.out.2, HDR.out, List.foldl_cons, confPut, HCB.out, if_neg (by decide)]
          | true =>
            rw [hcb] at hcl
            have HCB := Aside0.mk hcb
            have HCL := Aside0.mk hcl
            clear hcb hcl
            go_upto_region 9 with (go_at_call 110; refine (impl_clash.calls a.f0 a.f1 a.f2 b.f0 b.f1 b.f2 true _ HCL.out).mono ?_; rintro e w' ⟨rfl, hb'⟩)
            have HBA2 := Aside0.mk (blk_below HBA1.out hb')
            have HCi2 := Aside0.mk (blk_below HCi1.out hb')
            have HBN2 := Aside0.mk (blk_below HBN1.out hb')
            have HW2 := Aside0.mk (below_step HW1.out hb')
            have HZ2 := Aside0.mk (show ∃ z, z.size = 6 ∧ w'.heap[w.heap.size]? = some (.cells z 104 (0, 0)) from by obtain ⟨z, hz, hzz⟩ := HZi1.out; exact ⟨z, hz, blk_below hzz hb'⟩)
            rw [← HB4.out]
            clear hb' HBA1 HCi1 HBN1 HW1 HZi1
            have hs := HGA.out
            simp only [stepB, decide_eq_true_eq] at hs
            have hsb := HG2.out b (by rw [HBB.out]; simp [rd_T84, hlj])
            simp only [stepB, decide_eq_true_eq] at hsb
            obtain ⟨p1, p2, _⟩ := hs
            obtain ⟨q1, q2, _⟩ := hsb
            have k1 : w'.cell? ⟨B, 0, none⟩ = some (.int .i64 a.f0) := (blk_cell HBA2.out 0).trans rfl
            have k2 : w'.cell? ⟨B4, 0, none⟩ = some (.int .i64 b.f0) := (blk_cell HBN2.out 0).trans rfl
            have hcu := HFi.out.1
            have k3 : w'.cell? ⟨w.heap.size + 1, a.f0.toNat, none⟩ = some (.int .i64 (rd cu a.f0)) := by
              rw [blk_cell HCi2.out]; simp [nums, rd, show a.f0.toNat < cu.length by omega]
            have k4 := blk_frozen HCi2.out a.f0.toNat
            clear hcu h0 h1 h2 ha0 ha1 ha2
            have HSH := Aside0.mk (show shl .i64 1 b.f0 = wrap64 (2 ^ b.f0.toNat) from by rw [← shl_small (x := 1) (y := b.f0) rfl (by simp [IntKind.bits]; omega), Int.one_mul]; exact i64_w _)
            have p3 : a.f0 < 6 := by omega
            refine wp_region_still_tail 9 (by kernel_rfl) (by kernel_rfl) ?_
            change wpStill _ _ w'.drew _ _ _
            have k1d : w'.drew.cell? ⟨B, 0, none⟩ = some (.int .i64 a.f0) := k1
            have k2d : w'.drew.cell? ⟨B4, 0, none⟩ = some (.int .i64 b.f0) := k2
            have k3d : w'.drew.cell? ⟨w.heap.size + 1, a.f0.toNat, none⟩ = some (.int .i64 (rd cu a.f0)) := k3
            simp only [List.take_succ_cons, List.take_zero, List.drop_succ_cons, List.drop_zero]
            repeat still_step
            try refine wpStill_nil ?_
            change wpList _ _ _ _ _ w'.drew
            go_wp2
            go_roundg (l2.length - (jj + 1))
            case measure => omega
            case rel =>
              have hne : B ≠ w.heap.size + 1 := blk_ne HBA2.out HCi2.out (by decide)
              refine ⟨jj + 1, confPut a cu b, by omega, by omega, by go_num, ⟨(below_drew1 HW2.out).setCell (Nat.le_succ _) _⟩, ⟨?_⟩, ⟨?_⟩, ⟨blk_far HBA2.out hne _⟩, ⟨by rw [confPut_length]; exact HFi.out.1, ?_⟩⟩
              · obtain ⟨z, hz, hzz⟩ := HZ2.out; exact ⟨z, hz, blk_far hzz (by simp) _⟩
              · rw [confPut, if_pos HCB.out, HSH.out]
                have := blk_set HCi2.out a.f0.toNat (.int .i64 (Go.bits .or .i64 (rd cu a.f0) (wrap64 (2 ^ b.f0.toNat))))
                rw [show (nums .i64 (cu.set a.f0.toNat (Go.bits .or .i64 (rd cu a.f0) (wrap64 (2 ^ b.f0.toNat))))).toArray = (nums .i64 cu).toArray.setIfInBounds a.f0.toNat (.int .i64 (Go.bits .or .i64 (rd cu a.f0) (wrap64 (2 ^ b.f0.toNat)))) from by simp [nums, List.map_set]]
                exact this
              · rw [← HFi.out.2, HDR.out, List.foldl_cons]
        · have hljz : ¬ (jj : Int) < (l2.length : Int) := by omega
          go_wp2
          go_roundg (l0.length - (kk + 1))
          case measure => omega
          case rel =>
            refine ⟨kk + 1, cu, by omega, by omega, by go_num, HBi, HZi, HCi, ⟨HFi.out.1, ?_⟩⟩
            have h9 := HFi.out.2
            rw [List.drop_eq_nil_of_le (by omega), List.foldl_nil] at h9
            rw [h9, HL2.out, ← HF.out.2, List.drop_eq_getElem_cons hlt, confFrom]
            congr 2
            rw [HA.out]; simp [rd_T84, hlt]
    · have hltz : ¬ (kk : Int) < (l0.length : Int) := by omega
      have hcur : cur = conf l0 := by rw [← HF.out.2, List.drop_eq_nil_of_le (by omega), confFrom]
      obtain ⟨x0, x1, x2, x3, x4, x5, rfl⟩ := list_len6 HF.out.1
      have HCU := Aside0.mk hcur
      obtain ⟨z, hz, hzz⟩ := HZ.out
      have f0 : wr.cell? ⟨w.heap.size + 1, 0, none⟩ = some (.int .i64 x0) := (blk_cell HC.out 0).trans rfl
      have f1 : wr.cell? ⟨w.heap.size + 1, 1, none⟩ = some (.int .i64 x1) := (blk_cell HC.out 1).trans rfl
      have f2 : wr.cell? ⟨w.heap.size + 1, 2, none⟩ = some (.int .i64 x2) := (blk_cell HC.out 2).trans rfl
      have f3 : wr.cell? ⟨w.heap.size + 1, 3, none⟩ = some (.int .i64 x3) := (blk_cell HC.out 3).trans rfl
      have f4 : wr.cell? ⟨w.heap.size + 1, 4, none⟩ = some (.int .i64 x4) := (blk_cell HC.out 4).trans rfl
      have f5 : wr.cell? ⟨w.heap.size + 1, 5, none⟩ = some (.int .i64 x5) := (blk_cell HC.out 5).trans rfl
      obtain ⟨z0, z1, z2, z3, z4, z5, hz6⟩ := list_len6 (l := z.toList) (by simpa using hz)
      obtain rfl : z = #[z0, z1, z2, z3, z4, z5] := by rw [← hz6]
      have g0 : wr.cell? ⟨w.heap.size, 0, none⟩ = some z0 := (blk_cell hzz 0).trans rfl
      have g1 : wr.cell? ⟨w.heap.size, 1, none⟩ = some z1 := (blk_cell hzz 1).trans rfl
      have g2 : wr.cell? ⟨w.heap.size, 2, none⟩ = some z2 := (blk_cell hzz 2).trans rfl
      have g3 : wr.cell? ⟨w.heap.size, 3, none⟩ = some z3 := (blk_cell hzz 3).trans rfl
      have g4 : wr.cell? ⟨w.heap.size, 4, none⟩ = some z4 := (blk_cell hzz 4).trans rfl
      have g5 : wr.cell? ⟨w.heap.size, 5, none⟩ = some z5 := (blk_cell hzz 5).trans rfl
      have r0 := blk_frozen hzz 0
      have r1 := blk_frozen hzz 1
      have r2 := blk_frozen hzz 2
      have r3 := blk_frozen hzz 3
      have r4 := blk_frozen hzz 4
      have r5 := blk_frozen hzz 5
      have HZZ := Aside0.mk hzz
      clear hcur hz6 hz hzz
      go_wp2
      have hb6 := blk_set (blk_set (blk_set (blk_set (blk_set (blk_set HZZ.out 0 (.int .i64 x0)) 1 (.int .i64 x1)) 2 (.int .i64 x2)) 3 (.int .i64 x3)) 4 (.int .i64 x4)) 5 (.int .i64 x5)
      have j0 := (blk_cell hb6 0).trans (show _ = some (Value.int .i64 x0) from rfl)
      have j1 := (blk_cell hb6 1).trans (show _ = some (Value.int .i64 x1) from rfl)
      have j2 := (blk_cell hb6 2).trans (show _ = some (Value.int .i64 x2) from rfl)
      have j3 := (blk_cell hb6 3).trans (show _ = some (Value.int .i64 x3) from rfl)
      have j4 := (blk_cell hb6 4).trans (show _ = some (Value.int .i64 x4) from rfl)
      have j5 := (blk_cell hb6 5).trans (show _ = some (Value.int .i64 x5) from rfl)
      refine bodyPost_ret (v := .agg #[.int .i64 x0, .int .i64 x1, .int .i64 x2, .int .i64 x3, .int .i64 x4, .int .i64 x5]) (by simp [results, Try.results74, go_sem, j0, j1, j2, j3, j4, j5]) rfl ⟨?_, ?_⟩
      · rw [← HCU.out]; rfl
      · exact (((((HB.out.setCell (Nat.le_refl _) _).setCell (Nat.le_refl _) _).setCell (Nat.le_refl _) _).setCell (Nat.le_refl _) _).setCell (Nat.le_refl _) _).setCell (Nat.le_refl _) _

/-! ### idxf_Int: function 75 -/
set_option maxHeartbeats 4000000 in
set_option maxRecDepth 100000 in
theorem idxf_Int.calls (A : Option Addr) (c : Nat) (l : List (Int)) (g : Nat) (lb : Array Value) (p : Int → Bool) (w : World) (eg : ∀ args w, (callFunc g args).run Try.prog w = .ok (.enter g args) w)
    (hr : Kd.C (Kd.int .i64) w A l.length l) (hp : PredOn Try.prog g lb (One (Kd.int .i64)) p l w) :
    Calls Try.prog 75 #[.slice A l.length c, .func (.func g) #[] lb] w fun e w' => e = .returned (.int .i64 (idxf p l)) ∧ Below w.heap.size w w' := by
  have hl : l.length ≤ 9223372036854775807 := hr.2.1
  have HR := Aside0.mk hr
  clear hr
  have HP := Aside0.mk hp
  clear hp
  go_enter Try.func75, Try.ntmps75
  go_wp2
  go_loopg [5, 8] l.length (fun gg _ s8 wr => ∃ kk : Nat, kk ≤ l.length ∧ l.length - kk ≤ gg ∧ s8 = .int .i64 kk ∧ Aside0 (Below w.heap.size w wr) ∧ Aside0 (∀ j, (hj : j < l.length) → j < kk → p l[j] = false))
  case atStart => exact ⟨0, Nat.zero_le _, by omega, rfl, ⟨Below.refl _ w⟩, ⟨fun j hj h => absurd h (Nat.not_lt_zero _)⟩⟩
  case round =>
    obtain ⟨kk, hkk, hg, rfl, BW, AA⟩ := hrel
    by_cases hlt : kk < l.length
    · have hltz : (kk : Int) < (l.length : Int) := by omega
      have hmem : l[kk] ∈ l := List.getElem_mem hlt
      obtain ⟨ad, cs, e1, hlen, hK, hcell⟩ := Kd.C_get (Kd.C_below HR.out BW.out) l[kk] (kk : Int) (by omega) (by omega)
      cases e1
      have hrd : l.getD (kk : Int).toNat l[kk] = l[kk] := by simp [hlt]
      rw [hrd] at hK
      replace hlen : cs.length = 1 := hlen
      obtain ⟨c0_, rfl⟩ : ∃ c0_ : Value, cs = [c0_] := list_len1 hlen
      replace hcell : ∀ j u, ([c0_] : List Value)[j]? = some u → wr.cell? (ad.add ((kk : Int).toNat * 1 + j)) = some u := hcell
      have h0_ : wr.cell? (ad.add kk) = some c0_ := by have := hcell 0 _ rfl; simpa using this
      have hcall := HP.out wr l[kk] (c0_) hmem BW.out hK
      clear hcell hK hlen hmem hrd
      have AY : Aside0 (∃ y, y = l[kk]) := ⟨⟨_, rfl⟩⟩
      obtain ⟨⟨y, hy⟩⟩ := AY
      rw [← hy] at hcall
      have HY := Aside0.mk hy
      clear hy
      cases hq : p y with
      | true =>
        rw [hq] at hcall
        have HQ := Aside0.mk hq
        clear hq
        go_wp2_with (go_at_fn g; refine hcall.mono ?_; rintro e w' ⟨rfl, hb'⟩)
        go_ret
        refine ⟨?_, below_step BW.out hb'⟩
        rw [idxf_hit hlt (by rw [← HY.out]; exact HQ.out) (fun j hj => AA.out j (by omega) hj)]
        rfl
      | false =>
        rw [hq] at hcall
        have HQ := Aside0.mk hq
        clear hq
        go_wp2_with (go_at_fn g; refine hcall.mono ?_; rintro e w' ⟨rfl, hb'⟩)
        go_roundg (l.length - (kk + 1))
        case measure => omega
        case rel =>
          refine ⟨kk + 1, by omega, by omega, by go_num, ⟨below_step BW.out hb'⟩, ⟨fun j hj hlt2 => ?_⟩⟩
          by_cases e : j = kk
          · subst e
            rw [← HY.out]; exact HQ.out
          · exact AA.out j hj (by omega)
    · have hltz : ¬ (kk : Int) < (l.length : Int) := by omega
      go_wp2
      go_ret
      refine ⟨?_, BW.out⟩
      rw [idxf_miss (fun j hj => AA.out j hj (by omega))]
      rfl

/-! ### impl_set_list: function 76 -/
def impl_set_list.l0 : Nat → Int → List Int → Int → Option (List Int)
  | 0, _, _, _ => none
  | k + 1, x0, x3, x4 => if 0 ≤ x4 then (if (shr .i64 x0 x4) = 0 then (some x3) else (if (Go.bits .and .i64 (shr .i64 x0 x4) 1) = 1 then (if x3.length < 17592186044416 then (impl_set_list.l0 k x0 (x3 ++ [x4]) (wrap64 (x4 + 1))) else (none)) else (impl_set_list.l0 k x0 x3 (wrap64 (x4 + 1))))) else (none)
def impl_set_list.f (k : Nat) (a0 : Int) : Option (List Int) := impl_set_list.l0 k a0 ([] : List Int) 0
theorem impl_set_list.mono_l : ∀ k, (∀ y0 y1 y2, LeO (impl_set_list.l0 k y0 y1 y2) (impl_set_list.l0 (k + 1) y0 y1 y2))
  | 0 => fun _ _ _ r h => by simp [impl_set_list.l0] at h
  | k + 1 => by
    have ih0 := impl_set_list.mono_l k
    · intro y0 y1 y2
      unfold impl_set_list.l0
      repeat' first
      | (with_reducible exact ih0 _ _ _)
      | (with_reducible exact LeO.refl _)
      | (with_reducible exact LeO.none _)
      | (with_reducible refine LeO.ite ?_ ?_)
      | (with_reducible refine LeO.bind ?_ (fun _ => ?_))
      | exact ih0 _ _ _
      | exact LeO.none _
      | refine LeO.ite ?_ ?_
      | refine LeO.bind ?_ (fun _ => ?_)
theorem impl_set_list.mono : ∀ a0 k, LeO (impl_set_list.f k a0) (impl_set_list.f (k + 1) a0) := by
  intro a0 k
  have ih0 := impl_set_list.mono_l k
  unfold impl_set_list.f
  repeat' first
      | (with_reducible exact ih0 _ _ _)
      | (with_reducible exact LeO.refl _)
      | (with_reducible exact LeO.none _)
      | (with_reducible refine LeO.ite ?_ ?_)
      | (with_reducible refine LeO.bind ?_ (fun _ => ?_))
      | exact ih0 _ _ _
      | exact LeO.none _
      | refine LeO.ite ?_ ?_
      | refine LeO.bind ?_ (fun _ => ?_)
set_option maxHeartbeats 8000000 in
set_option maxRecDepth 100000 in
theorem impl_set_list.calls (k : Nat) (a0 : Int) (r : List Int) (w : World) (h : impl_set_list.f k a0 = some r) :
    Calls Try.prog 76 #[.int .i64 a0] w fun e w' => ∃ v0_ : Value, e = .returned (v0_) ∧ Kd.R (Kd.int .i64) 3 w' w.heap.size (fun _ => True) v0_ r ∧ Below w.heap.size w w' := by
  have HB := Aside0.mk (Below.refl w.heap.size w)
  have H : (impl_set_list.l0 k a0 ([] : List Int) 0) = some r := h
  clear h
  have H' := Aside0.mk H
  clear H
  go_enter Try.func76, Try.ntmps76
  go_wp2
  go_loopg [3, 4] k (fun kq v3 v4 w' => ∃ (x3_1 : List Int) (x4_1 : Int), v4 = .int .i64 x4_1 ∧ Aside0 (impl_set_list.l0 kq a0 x3_1 x4_1 = some r) ∧ Aside0 (kq ≤ k) ∧ Aside0 (Kd.R (Kd.int .i64) 3 w' w.heap.size (fun _ => True) v3 x3_1) ∧ Aside0 (Below w.heap.size w w'))
  case atStart => exact ⟨(([] : List Int)), (0), (by first | rfl | (simp; done) | (simp [*]; done)), H', ⟨Nat.le_refl _⟩, ⟨by first | exact Kd.R_nil _ _ _ _ _ | exact Kd.N_nil _ _ _ _ _ | exact Kd.V_nil _ _ _ _ _ | exact Kd.Q_nil _ _ _ _ _ | exact Kd.S_nil _ _ _ _ _⟩, ⟨by repeat (first | (with_reducible first | exact HB.out | apply below_alloc | apply pw_below_drewN | apply below_drew1) | exact HB.out)⟩⟩
  case round =>
    clear H'
    obtain ⟨x3_1, x4_1, rfl, HA, HK1, HO_3, HB⟩ := hrel
    cases gk with
    | zero => exact absurd HA.out (by simp [impl_set_list.l0])
    | succ k1 =>
      have H := HA.out
      clear HA
      simp only [impl_set_list.l0] at H
      by_cases c2 : 0 ≤ x4_1
      · rw [if_pos c2] at H
        have c2b0 := eq_true c2
        have c2b1 : decide (0 ≤ x4_1) = true := decide_eq_true c2
        clear c2
        obtain ⟨ji3, hji3⟩ : ∃ j_ : Int, (shr .i64 a0 x4_1) = j_ := ⟨_, rfl⟩
        replace H : (if (ji3) = 0 then (some x3_1) else (if (Go.bits .and .i64 (ji3) 1) = 1 then (if x3_1.length < 17592186044416 then (impl_set_list.l0 k1 a0 (x3_1 ++ [x4_1]) (wrap64 (x4_1 + 1))) else (none)) else (impl_set_list.l0 k1 a0 x3_1 (wrap64 (x4_1 + 1))))) = some r := by first | (rw [hji3] at H; exact H) | (simp only [hji3] at H ⊢; exact H)
        have hji3_ : (a0 / 2 ^ min x4_1.toNat 64) = ji3 := hji3
        have hji3z : x4_1 ≤ 64 → (a0 / 2 ^ x4_1.toNat) = ji3 := shr_small hji3
        by_cases c4 : (ji3) = 0
        · rw [if_pos c4] at H
          have c4b0 : ((ji3) == 0) = true := beq_iff_eq.mpr c4
          have c4b1 : ((ji3) != 0) = false := bne_eq_false_iff_eq.mpr c4
          clear c4
          obtain rfl := Option.some.inj H
          go_wp2
          go_ret
          exact ⟨_, by first | rfl | (simp [errW_none, errW_some] <;> rfl) | (simp only [← hji3]; first | rfl | (simp [errW_none, errW_some] <;> rfl)) | (simp [*, errW_none, errW_some] <;> rfl), by (with_reducible repeat (first | apply Kd.R_alloc | apply Kd.R_drewN | apply Kd.R_drew)); exact HO_3.out, by repeat (first | (with_reducible first | exact HB.out | apply below_alloc | apply pw_below_drewN | apply below_drew1) | exact HB.out)⟩
        · rw [if_neg c4] at H
          have c4b0 : ((ji3) == 0) = false := beq_eq_false_iff_ne.mpr c4
          have c4b1 : ((ji3) != 0) = true := bne_iff_ne.mpr c4
          have c5b0 := eq_true (of_decide_eq_true (by first | (with_reducible assumption) | assumption) : 0 ≤ x4_1)
          by_cases c6 : (Go.bits .and .i64 (ji3) 1) = 1
          · rw [if_pos c6] at H
            have c6b0 : ((Go.bits .and .i64 (ji3) 1) == 1) = true := beq_iff_eq.mpr c6
            have c6b1 : ((Go.bits .and .i64 (ji3) 1) != 1) = false := bne_eq_false_iff_eq.mpr c6
            clear c6
            by_cases c7 : x3_1.length < 17592186044416
            · rw [if_pos c7] at H
              have LMc7 := Aside0.mk c7
              clear c7
              obtain ⟨y220, hy220⟩ : ∃ y_ : List Int, y_ = (x3_1 ++ [x4_1]) := ⟨_, rfl⟩
              replace H : (impl_set_list.l0 k1 a0 y220 (wrap64 (x4_1 + 1))) = some r := by first | (rw [hy220]; with_reducible exact H) | (have H2_ := (Option.bind_some _ _).symm.trans H; rw [hy220]; with_reducible exact H2_) | (have H2_ := (Option.bind_some _ _).symm.trans H; with_reducible exact H2_) | with_reducible exact H | (rw [hy220]; exact H) | exact H
              have Ny220 := Aside0.mk hy220
              clear hy220
              have H' := Aside0.mk H
              clear H
              go_wp2_with (first | ((with_reducible refine gate_builtin (b := .append) (xs := #[.tmp 16, .tmp 18]) rfl ?_); at_builtin; refine Kd.R_append (Kd.int .i64) (w0 := w) w.heap.size rfl (.tmp 16) (.tmp 18) 24 3 (.int .i64 0) 8 rfl Try.underlying24 info3 rfl (by decide) (by omega) u3 x3_1 x4_1 [.int .i64 x4_1] (fun _ => True) (fun _ => False) rfl rfl ?aP (fun _ hk => hk.elim) ?aF ?aO ?aB ?aS ?aL ?_; (case aP => exact rfl); (case aB => exact (by repeat (first | (with_reducible first | exact HB.out | apply below_alloc | apply pw_below_drewN | apply below_drew1) | exact HB.out))); (case aF => exact (fun _ _ => trivial)); (case aO => exact (by (with_reducible repeat (first | apply Kd.R_alloc | apply Kd.R_drewN | apply Kd.R_drew)); exact HO_3.out)); (case aS => exact (below_size (by repeat (first | (with_reducible first | exact HB.out | apply below_alloc | apply pw_below_drewN | apply below_drew1) | exact HB.out)))); (case aL => have := LMc7.out; omega); intro v221 w8 ho hb hg hat; rw [← Ny220.out] at ho; have n0_ := Aside0.mk (hb); have n1_ := Aside0.mk (ho); clear HB; clear HO_3; have HB := n0_; have HO222 := n1_; clear n0_ n1_; clear ho hb hg hat))
              go_roundg k1
              case measure => have := HK1.out; omega
              case rel => exact ⟨(y220), (wrap64 (x4_1 + 1)), (by first | rfl | (simp; done) | (simp [*]; done)), H', ⟨by have := HK1.out; omega⟩, ⟨by (with_reducible repeat (first | apply Kd.R_alloc | apply Kd.R_drewN | apply Kd.R_drew)); exact HO222.out⟩, ⟨by repeat (first | (with_reducible first | exact HB.out | apply below_alloc | apply pw_below_drewN | apply below_drew1) | exact HB.out)⟩⟩
            · rw [if_neg c7] at H
              exact absurd H (by simp)
          · rw [if_neg c6] at H
            have c6b0 : ((Go.bits .and .i64 (ji3) 1) == 1) = false := beq_eq_false_iff_ne.mpr c6
            have c6b1 : ((Go.bits .and .i64 (ji3) 1) != 1) = true := bne_iff_ne.mpr c6
            have H' := Aside0.mk H
            clear H
            go_wp2
            go_roundg k1
            case measure => have := HK1.out; omega
            case rel => exact ⟨(x3_1), (wrap64 (x4_1 + 1)), (by first | rfl | (simp; done) | (simp [*]; done)), H', ⟨by have := HK1.out; omega⟩, ⟨by (with_reducible repeat (first | apply Kd.R_alloc | apply Kd.R_drewN | apply Kd.R_drew)); exact HO_3.out⟩, ⟨by repeat (first | (with_reducible first | exact HB.out | apply below_alloc | apply pw_below_drewN | apply below_drew1) | exact HB.out)⟩⟩
      · rw [if_neg c2] at H
        exact absurd H (by simp)

/-! ### anyf_Int: function 129 -/
set_option maxHeartbeats 4000000 in
set_option maxRecDepth 100000 in
theorem anyf_Int.calls (A : Option Addr) (c : Nat) (l : List (Int)) (g : Nat) (lb : Array Value) (p : Int → Bool) (w : World) (eg : ∀ args w, (callFunc g args).run Try.prog w = .ok (.enter g args) w)
    (hr : Kd.C (Kd.int .i64) w A l.length l) (hp : PredOn Try.prog g lb (One (Kd.int .i64)) p l w) :
    Calls Try.prog 129 #[.slice A l.length c, .func (.func g) #[] lb] w fun e w' => e = .returned (.bool (l.any p)) ∧ Below w.heap.size w w' := by
  rw [← idxf_any p l]
  have HR := Aside0.mk hr
  clear hr
  have HP := Aside0.mk hp
  clear hp
  obtain ⟨i, hi⟩ : ∃ i, i = idxf p l := ⟨_, rfl⟩
  rw [← hi]
  have HI := Aside0.mk hi
  clear hi
  go_enter Try.func129, Try.ntmps129
  go_wp2_with (go_at_call 75; refine (idxf_Int.calls A c l g lb p _ eg HR.out HP.out).mono ?_; rw [← HI.out]; rintro e w' ⟨rfl, hb'⟩)
  go_ret
  exact ⟨rfl, hb'⟩

/-! ### areAll1_Int: function 130 -/
set_option maxHeartbeats 4000000 in
set_option maxRecDepth 100000 in
theorem areAll1_Int.pred (B : Nat) (l : List (Int)) (g : Nat) (lb : Array Value) (p : Int → Bool) (w : World) (eg : ∀ args w, (callFunc g args).run Try.prog w = .ok (.enter g args) w)
    (hB : w.cell? ⟨B, 0, none⟩ = some (.func (.func g) #[] lb)) (hp : PredOn Try.prog g lb (One (Kd.int .i64)) p l w) :
    PredOn Try.prog 130 #[.pointer (some ⟨B, 0, none⟩)] (One (Kd.int .i64)) (fun x => !p x) l w := by
  intro W x v hx hW hv
  obtain ⟨c0_, rfl⟩ : ∃ c0_, c0_ = v := ⟨_, rfl⟩
  have hB' : W.cell? ⟨B, 0, none⟩ = some (.func (.func g) #[] lb) := pw_cell_below hW hB
  have HP := Aside0.mk hp
  clear hp hB
  obtain ⟨b, hb⟩ : ∃ b, b = p x := ⟨_, rfl⟩
  have hb0 := Aside0.mk hb
  have HV := Aside0.mk hv
  have HWW := Aside0.mk hW
  clear hv hW
  show Calls Try.prog 130 #[c0_, .pointer (some ⟨B, 0, none⟩)] W fun e W' => e = .returned (.bool (!p x)) ∧ Below W.heap.size W W'
  rw [← hb]
  clear hb
  cases b with
  | true =>
    go_enter Try.func130, Try.ntmps130
    go_wp2_with (go_at_fn g; refine (HP.out _ x _ hx HWW.out HV.out).mono ?_; rw [← hb0.out]; rintro e w' ⟨rfl, hb'⟩)
    go_ret
    exact ⟨rfl, hb'⟩
  | false =>
    go_enter Try.func130, Try.ntmps130
    go_wp2_with (go_at_fn g; refine (HP.out _ x _ hx HWW.out HV.out).mono ?_; rw [← hb0.out]; rintro e w' ⟨rfl, hb'⟩)
    go_ret
    exact ⟨rfl, hb'⟩

/-! ### areAll_Int: function 78 -/
set_option maxHeartbeats 4000000 in
set_option maxRecDepth 100000 in
theorem areAll_Int.calls (A : Option Addr) (c : Nat) (l : List (Int)) (g : Nat) (lb : Array Value) (p : Int → Bool) (w : World) (eg : ∀ args w, (callFunc g args).run Try.prog w = .ok (.enter g args) w)
    (hr : Kd.C (Kd.int .i64) w A l.length l) (hp : PredOn Try.prog g lb (One (Kd.int .i64)) p l w) :
    Calls Try.prog 78 #[.slice A l.length c, .func (.func g) #[] lb] w fun e w' => e = .returned (.bool (l.all p)) ∧ Below w.heap.size w w' := by
  have hb1 : Below w.heap.size w (w.alloc (.cells #[.func (.func g) #[] lb] 110)) := below_alloc (Below.refl _ _) _
  have hp1 := areAll1_Int.pred w.heap.size l g lb p (w.alloc (.cells #[.func (.func g) #[] lb] 110)) eg (by simp) (hp.grown hb1)
  have HR := Aside0.mk (Kd.C_below hr hb1)
  have HP := Aside0.mk hp1
  have HB1 := Aside0.mk hb1
  clear hr hp hp1 hb1
  obtain ⟨b, hb⟩ : ∃ b, b = l.any (fun x => !p x) := ⟨_, rfl⟩
  have hall : l.all p = !b := by rw [hb, List.all_eq_not_any_not]
  rw [hall]
  have hb0 := Aside0.mk hb
  clear hb hall
  have e1 := enters_of Try.func130 (by kernel_rfl) rfl
  cases b with
  | true =>
    go_enter Try.func78, Try.ntmps78
    go_wp2_with (go_at_call 129; refine (anyf_Int.calls A c l _ _ _ _ e1 HR.out HP.out).mono ?_; rw [← hb0.out]; rintro e w' ⟨rfl, hb'⟩)
    go_ret
    exact ⟨rfl, below_step HB1.out hb'⟩
  | false =>
    go_enter Try.func78, Try.ntmps78
    go_wp2_with (go_at_call 129; refine (anyf_Int.calls A c l _ _ _ _ e1 HR.out HP.out).mono ?_; rw [← hb0.out]; rintro e w' ⟨rfl, hb'⟩)
    go_ret
    exact ⟨rfl, below_step HB1.out hb'⟩

/-! ### impl_set_has: function 80 -/
def impl_set_has.f (a0 : Int) (a1 : Int) : Option (Bool) := some ((Go.bits .and .i64 a0 a1) == a1)
set_option maxHeartbeats 8000000 in
set_option maxRecDepth 100000 in
theorem impl_set_has.calls (a0 : Int) (a1 : Int) (r : Bool) (w : World) (h : impl_set_has.f a0 a1 = some r) :
    Calls Try.prog 80 #[.int .i64 a0, .int .i64 a1] w fun e w' => e = .returned (.bool r) ∧ Drawn0 w w' := by
  have H : (some ((Go.bits .and .i64 a0 a1) == a1)) = some r := h
  clear h
  obtain rfl := Option.some.inj H
  go_enter Try.func80, Try.ntmps80
  go_wp2
  go_ret
  exact ⟨by first | rfl | (simp; done) | (simp [*]; done), by repeat (first | exact Drawn0.refl _ | apply Drawn0.step)⟩

/-! ### so11: function 79 -/
/-- Has a set all of another one? -/
def hasB (a b : Int) : Bool := Go.bits .and .i64 a b == b
theorem has_some (a b : Int) : impl_set_has.f a b = some (hasB a b) := rfl
/-- The numbers of a set, rising. -/
def setL (s : Int) : List Int := ((List.range 6).filter (fun k => s.toNat.testBit k)).map (fun (k : Nat) => (k : Int))
theorem setL_mem {s x : Int} (h : x ∈ setL s) : 0 ≤ x ∧ x ≤ 5 := by
  simp only [setL, List.mem_map, List.mem_filter, List.mem_range] at h
  obtain ⟨k, ⟨hk, _⟩, rfl⟩ := h
  omega
theorem setL_some (s : Int) (h0 : 0 ≤ s) (h1 : s < 64) : impl_set_list.f 8 s = some (setL s) := by
  have key : ∀ n : Fin 64, impl_set_list.f 8 (n.val : Int) = some (setL (n.val : Int)) := by decide +kernel
  have := key ⟨s.toNat, by omega⟩
  simpa [Int.toNat_of_nonneg h0] using this
set_option maxHeartbeats 4000000 in
set_option maxRecDepth 100000 in
theorem so11.pred (Ba Bt : Nat) (ah : List Int) (t : Int) (l : List Int) (w : World) (ha : w.heap[Ba]? = some (.cells (nums .i64 ah).toArray 104 (0, 0))) (hal : ah.length = 6) (ht : w.cell? ⟨Bt, 0, none⟩ = some (.int .i64 t)) (h0 : 0 ≤ t) (h5 : t ≤ 5) (hl : ∀ o ∈ l, 0 ≤ o ∧ o ≤ 5) :
    PredOn Try.prog 79 #[.pointer (some ⟨Ba, 0, none⟩), .pointer (some ⟨Bt, 0, none⟩)] (One (Kd.int .i64)) (fun o => !hasB (rd ah o) (shl .i64 1 t)) l w := by
  intro W o v ho hW hv
  obtain ⟨rfl⟩ : v = .int .i64 o := by simpa using (List.cons.inj hv).1
  obtain ⟨q0, q5⟩ := hl o ho
  have k1 : W.drew.cell? ⟨Ba, o.toNat, none⟩ = some (.int .i64 (rd ah o)) := by
    show W.cell? _ = _
    rw [blk_cell (blk_below ha hW)]; simp [nums, rd, show o.toNat < ah.length by omega]
  have k2 : W.drew.cell? ⟨Bt, 0, none⟩ = some (.int .i64 t) := pw_cell_below hW ht
  have q6 : o < 6 := by omega
  have hs : shl .i64 1 t = wrap64 (2 ^ t.toNat) := by rw [← shl_small (x := 1) (y := t) rfl (by simp [IntKind.bits]; omega), Int.one_mul]; exact i64_w _
  show Calls Try.prog 79 #[.int .i64 o, .pointer (some ⟨Ba, 0, none⟩), .pointer (some ⟨Bt, 0, none⟩)] W fun e W' => e = .returned (.bool (!hasB (rd ah o) (shl .i64 1 t))) ∧ Below W.heap.size W W'
  rw [hs]
  obtain ⟨b, hb⟩ : ∃ b, b = hasB (rd ah o) (wrap64 (2 ^ t.toNat)) := ⟨_, rfl⟩
  rw [← hb]
  have HS := Aside0.mk hs
  have HB := Aside0.mk hb
  have HX := Aside0.mk hal
  clear hs ha hal hl hv ho hW ht hb
  go_enter Try.func79, Try.ntmps79
  go_upto_region 1 with (fail)
  refine wp_region_still_tail 5 (by kernel_rfl) (by kernel_rfl) ?_
  change wpStill _ _ W.drew _ _ _
  simp only [List.take_succ_cons, List.take_zero, List.drop_succ_cons, List.drop_zero]
  repeat still_step
  try refine wpStill_nil ?_
  change wpList _ _ _ _ _ W.drew
  go_wp2_with (go_at_call 80; refine (impl_set_has.calls _ _ b _ (by rw [has_some, HB.out])).mono ?_; rintro e w' ⟨rfl, hdr⟩)
  go_ret
  exact ⟨rfl, below_step (below_drew1 (Below.refl _ _)) hdr.below⟩

/-! ### so1: function 77 -/
/-- Does no other one of those that are left come ahead of t? -/
def freeB (ah : List Int) (left t : Int) : Bool := (setL left).all fun o => !hasB (rd ah o) (shl .i64 1 t)
set_option maxHeartbeats 4000000 in
set_option maxRecDepth 100000 in
theorem so1.pred (Bl Ba : Nat) (ah : List Int) (left : Int) (l : List Int) (w : World) (ha : w.heap[Ba]? = some (.cells (nums .i64 ah).toArray 104 (0, 0))) (hal : ah.length = 6) (hle : w.cell? ⟨Bl, 0, none⟩ = some (.int .i64 left)) (h0 : 0 ≤ left) (h5 : left < 64) (hl : ∀ o ∈ l, 0 ≤ o ∧ o ≤ 5) :
    PredOn Try.prog 77 #[.pointer (some ⟨Bl, 0, none⟩), .pointer (some ⟨Ba, 0, none⟩)] (One (Kd.int .i64)) (fun t => freeB ah left t) l w := by
  intro W t v ho hW hv
  obtain ⟨rfl⟩ : v = .int .i64 t := by simpa using (List.cons.inj hv).1
  obtain ⟨q0, q5⟩ := hl t ho
  have e1 := enters_of Try.func79 (by kernel_rfl) rfl
  have HW1 := Aside0.mk (below_alloc (Below.refl W.heap.size W) (.cells #[.int .i64 t] 3))
  have HT1 := Aside0.mk (show (W.alloc (.cells #[.int .i64 t] 3)).cell? ⟨W.heap.size, 0, none⟩ = some (.int .i64 t) from (blk_cell (blk_new W _) 0).trans rfl)
  have k2 : (W.alloc (.cells #[.int .i64 t] 3)).cell? ⟨Bl, 0, none⟩ = some (.int .i64 left) := pw_cell_below HW1.out (pw_cell_below hW hle)
  have HA := Aside0.mk (blk_below (blk_below ha hW) HW1.out)
  show Calls Try.prog 77 #[.int .i64 t, .pointer (some ⟨Bl, 0, none⟩), .pointer (some ⟨Ba, 0, none⟩)] W fun e W' => e = .returned (.bool (freeB ah left t)) ∧ Below W.heap.size W W'
  obtain ⟨b, hb⟩ : ∃ b, b = freeB ah left t := ⟨_, rfl⟩
  rw [← hb]
  have HB := Aside0.mk hb
  have HX := Aside0.mk hal
  have HS := Aside0.mk (setL_some left h0 h5)
  clear ha hal hl hv ho hW hb hle
  go_enter Try.func77, Try.ntmps77
  go_wp2_with (first | (go_at_call 76; refine (impl_set_list.calls 8 left _ _ HS.out).mono ?_; rintro e w' ⟨v0, rfl, hR, hb1⟩; obtain ⟨Ao, co, eo⟩ := Kd.R_slice hR; subst eo; have HR := Aside0.mk (Kd.R_reads' hR).2.2; have HB1 := Aside0.mk hb1; clear hR hb1) | (go_at_call 78; refine (areAll_Int.calls Ao co (setL left) _ _ _ _ e1 HR.out (so11.pred Ba W.heap.size ah t (setL left) _ (blk_below HA.out HB1.out) HX.out (pw_cell_below HB1.out HT1.out) q0 q5 (fun o ho => setL_mem ho))).mono ?_; rw [show (setL left).all (fun o => !hasB (rd ah o) (shl .i64 1 t)) = b from HB.out.symm]; rintro e w2 ⟨rfl, hb2⟩))
  go_ret
  exact ⟨rfl, below_step (below_step HW1.out HB1.out) hb2⟩

end Go.Proofs.Ytinjjpakpngaoaa.PFnExactSerialOrder
