/-
  A text of this claim's own, printed by a program of the session (wip/tools/xprint.py): functions of the program as Lean functions, each with what its call comes to.
-/
import Derived.Test.YtenlddbeehjogaaPFnExactSplitByx0
import Derived.Test.YtenlddbeehjogaaPFnExactSplitByx1
import Derived.Test.YtenlddbeehjogaaPFnExactSplitByx2
import Derived.Test.YtenlddbeehjogaaPFnExactSplitByx5
import Derived.Test.YtenlddbeehjogaaPFnExactSplitByx6
namespace Go.Proofs.Ytenlddbeehjogaa.PFnExactSplitBy
open Go.RowKit Go.Proofs.YtenlddbeehjogaaW.PrintWords Go.Proofs.YtenlddbeehjogaaW.PrintLast Go.Proofs.YtenlddbeehjogaaW.PrintMore
attribute [local go_sem] max2_int min2_int max_two min_two max_three min_three max_four min_four   -- for this text's walks alone
set_option linter.unusedVariables false
set_option linter.unusedSimpArgs false

/-! ### impl_SplitBy: function 24 -/
def impl_SplitBy.j0 : Nat → List (S44) → List Int → List Int → Bool → Option (List Int × List Int × Bool)
  | 0, _, _, _, _ => none
  | k + 1, x0, x2, x3, x37 => if x37 = true then (some (([] : List Int), ([] : List Int), false)) else ((impl_rulesOf.f k x0).bind fun t275 => ((impl_setOf.f k x2).bind fun t278 => ((impl_setOf.f k x3).bind fun t279 => ((impl_split.f k t275 t278 t279).bind fun bt280 => (if bt280.2.2 = true then ((impl_set_list.f k bt280.1).bind fun t283 => ((impl_set_list.f k bt280.2.1).bind fun t286 => (some (t283, t286, true)))) else (some (([] : List Int), ([] : List Int), false)))))))
def impl_SplitBy.f (k : Nat) (l0 : List (S44)) (a1 : Int) (l2 : List Int) (l3 : List Int) : Option (List Int × List Int × Bool) := (impl_GoodDepends.f k l0 a1).bind fun t269 => (if t269 = true then ((impl_areRising.f k l2 a1).bind fun t270 => (if t270 = true then ((impl_areRising.f k l3 a1).bind fun t271 => (if t271 = true then ((impl_setOf.f k l2).bind fun t272 => ((impl_setOf.f k l3).bind fun t273 => ((impl_set_has.f t272 t273).bind fun t274 => (impl_SplitBy.j0 k l0 l2 l3 (!t274))))) else (impl_SplitBy.j0 k l0 l2 l3 true))) else (impl_SplitBy.j0 k l0 l2 l3 true))) else (impl_SplitBy.j0 k l0 l2 l3 true))
theorem impl_SplitBy.mono_l : ∀ k, (∀ y0 y1 y2 y3, LeO (impl_SplitBy.j0 k y0 y1 y2 y3) (impl_SplitBy.j0 (k + 1) y0 y1 y2 y3))
  | 0 => fun _ _ _ _ r h => by simp [impl_SplitBy.j0] at h
  | k + 1 => by
    have ih0 := impl_SplitBy.mono_l k
    · intro y0 y1 y2 y3
      unfold impl_SplitBy.j0
      repeat' first
      | (with_reducible exact ih0 _ _ _ _)
      | (with_reducible exact impl_GoodDepends.mono _ _ _)
      | (with_reducible exact impl_areRising.mono _ _ _)
      | (with_reducible exact impl_rulesOf.mono _ _)
      | (with_reducible exact impl_setOf.mono _ _)
      | (with_reducible exact impl_set_list.mono _ _)
      | (with_reducible exact impl_split.mono _ _ _ _)
      | (with_reducible exact LeO.refl _)
      | (with_reducible exact LeO.none _)
      | (with_reducible refine LeO.ite ?_ ?_)
      | (with_reducible refine LeO.bind ?_ (fun _ => ?_))
      | exact ih0 _ _ _ _
      | exact impl_GoodDepends.mono _ _ _
      | exact impl_areRising.mono _ _ _
      | exact impl_rulesOf.mono _ _
      | exact impl_setOf.mono _ _
      | exact impl_set_list.mono _ _
      | exact impl_split.mono _ _ _ _
      | exact LeO.none _
      | refine LeO.ite ?_ ?_
      | refine LeO.bind ?_ (fun _ => ?_)
theorem impl_SplitBy.mono : ∀ a0 a1 a2 a3 k, LeO (impl_SplitBy.f k a0 a1 a2 a3) (impl_SplitBy.f (k + 1) a0 a1 a2 a3) := by
  intro a0 a1 a2 a3 k
  have ih0 := impl_SplitBy.mono_l k
  unfold impl_SplitBy.f
  repeat' first
      | (with_reducible exact ih0 _ _ _ _)
      | (with_reducible exact impl_GoodDepends.mono _ _ _)
      | (with_reducible exact impl_areRising.mono _ _ _)
      | (with_reducible exact impl_rulesOf.mono _ _)
      | (with_reducible exact impl_setOf.mono _ _)
      | (with_reducible exact impl_set_list.mono _ _)
      | (with_reducible exact impl_split.mono _ _ _ _)
      | (with_reducible exact LeO.refl _)
      | (with_reducible exact LeO.none _)
      | (with_reducible refine LeO.ite ?_ ?_)
      | (with_reducible refine LeO.bind ?_ (fun _ => ?_))
      | exact ih0 _ _ _ _
      | exact impl_GoodDepends.mono _ _ _
      | exact impl_areRising.mono _ _ _
      | exact impl_rulesOf.mono _ _
      | exact impl_setOf.mono _ _
      | exact impl_set_list.mono _ _
      | exact impl_split.mono _ _ _ _
      | exact LeO.none _
      | refine LeO.ite ?_ ?_
      | refine LeO.bind ?_ (fun _ => ?_)
set_option maxHeartbeats 8000000 in
set_option maxRecDepth 100000 in
theorem impl_SplitBy.calls (k : Nat) (A0 : Option Addr) (c0 : Nat) (l0 : List (S44)) (a1 : Int) (A2 : Option Addr) (c2 : Nat) (l2 : List Int) (A3 : Option Addr) (c3 : Nat) (l3 : List Int) (r1 : List Int) (r2 : List Int) (r3 : Bool) (w : World) (hr0 : Kd.C k44 w A0 l0.length l0) (hc0 : l0.length ≤ c0) (hr2 : Kd.C (Kd.int .i64) w A2 l2.length l2) (hc2 : l2.length ≤ c2) (hr3 : Kd.C (Kd.int .i64) w A3 l3.length l3) (hc3 : l3.length ≤ c3) (h : impl_SplitBy.f k l0 a1 l2 l3 = some (r1, r2, r3)) :
    Calls Try.prog 24 #[.slice A0 l0.length c0, .int .i64 a1, .slice A2 l2.length c2, .slice A3 l3.length c3] w fun e w' => ∃ v0_ v1_ : Value, e = .returned (.tuple #[v0_, v1_, .bool r3]) ∧ Kd.R (Kd.int .i64) 3 w' w.heap.size (fun k_ => some k_ ≠ (v1_ : Value).ownBlock) v0_ r1 ∧ Kd.R (Kd.int .i64) 3 w' w.heap.size (fun k_ => some k_ ≠ (v0_ : Value).ownBlock) v1_ r2 ∧ Below w.heap.size w w' := by
  have HR0 := Aside0.mk hr0
  have HC0 := Aside0.mk hc0
  clear hr0 hc0
  have HR2 := Aside0.mk hr2
  have HC2 := Aside0.mk hc2
  clear hr2 hc2
  have HR3 := Aside0.mk hr3
  have HC3 := Aside0.mk hc3
  clear hr3 hc3
  have HB := Aside0.mk (Below.refl w.heap.size w)
  have H : ((impl_GoodDepends.f k l0 a1).bind fun t269 => (if t269 = true then ((impl_areRising.f k l2 a1).bind fun t270 => (if t270 = true then ((impl_areRising.f k l3 a1).bind fun t271 => (if t271 = true then ((impl_setOf.f k l2).bind fun t272 => ((impl_setOf.f k l3).bind fun t273 => ((impl_set_has.f t272 t273).bind fun t274 => (impl_SplitBy.j0 k l0 l2 l3 (!t274))))) else (impl_SplitBy.j0 k l0 l2 l3 true))) else (impl_SplitBy.j0 k l0 l2 l3 true))) else (impl_SplitBy.j0 k l0 l2 l3 true))) = some (r1, r2, r3) := h
  clear h
  have HC5 := Aside0.mk H
  clear H
  go_enter Try.func24, Try.ntmps24
  go_upto_region 1 with (fail)
  go_cut [37] (fun v37 wc => ∃ (kq : Nat) (x37_4 : Bool), v37 = .bool x37_4 ∧ Aside0 (impl_SplitBy.j0 kq l0 l2 l3 x37_4 = some (r1, r2, r3)) ∧ Aside0 (kq ≤ k) ∧ Aside0 (Below w.heap.size w wc))
  case first =>
    have H := HC5.out
    clear HC5
    replace H := Option.bind_eq_some_iff.mp H
    obtain ⟨t269, A60, H⟩ := H
    replace H : (if t269 = true then ((impl_areRising.f k l2 a1).bind fun t270 => (if t270 = true then ((impl_areRising.f k l3 a1).bind fun t271 => (if t271 = true then ((impl_setOf.f k l2).bind fun t272 => ((impl_setOf.f k l3).bind fun t273 => ((impl_set_has.f t272 t273).bind fun t274 => (impl_SplitBy.j0 k l0 l2 l3 (!t274))))) else (impl_SplitBy.j0 k l0 l2 l3 true))) else (impl_SplitBy.j0 k l0 l2 l3 true))) else (impl_SplitBy.j0 k l0 l2 l3 true)) = some (r1, r2, r3) := H
    have A6 := Aside0.mk A60
    clear A60
    by_cases c7 : t269 = true
    · subst c7
      have H1 : ((impl_areRising.f k l2 a1).bind fun t270 => (if t270 = true then ((impl_areRising.f k l3 a1).bind fun t271 => (if t271 = true then ((impl_setOf.f k l2).bind fun t272 => ((impl_setOf.f k l3).bind fun t273 => ((impl_set_has.f t272 t273).bind fun t274 => (impl_SplitBy.j0 k l0 l2 l3 (!t274))))) else (impl_SplitBy.j0 k l0 l2 l3 true))) else (impl_SplitBy.j0 k l0 l2 l3 true))) = some (r1, r2, r3) := by rw [if_pos rfl] at H; exact H
      clear H
      have H := H1
      clear H1
      replace H := Option.bind_eq_some_iff.mp H
      obtain ⟨t270, A80, H⟩ := H
      replace H : (if t270 = true then ((impl_areRising.f k l3 a1).bind fun t271 => (if t271 = true then ((impl_setOf.f k l2).bind fun t272 => ((impl_setOf.f k l3).bind fun t273 => ((impl_set_has.f t272 t273).bind fun t274 => (impl_SplitBy.j0 k l0 l2 l3 (!t274))))) else (impl_SplitBy.j0 k l0 l2 l3 true))) else (impl_SplitBy.j0 k l0 l2 l3 true)) = some (r1, r2, r3) := H
      have A8 := Aside0.mk A80
      clear A80
      by_cases c9 : t270 = true
      · subst c9
        have H1 : ((impl_areRising.f k l3 a1).bind fun t271 => (if t271 = true then ((impl_setOf.f k l2).bind fun t272 => ((impl_setOf.f k l3).bind fun t273 => ((impl_set_has.f t272 t273).bind fun t274 => (impl_SplitBy.j0 k l0 l2 l3 (!t274))))) else (impl_SplitBy.j0 k l0 l2 l3 true))) = some (r1, r2, r3) := by rw [if_pos rfl] at H; exact H
        clear H
        have H := H1
        clear H1
        replace H := Option.bind_eq_some_iff.mp H
        obtain ⟨t271, A100, H⟩ := H
        replace H : (if t271 = true then ((impl_setOf.f k l2).bind fun t272 => ((impl_setOf.f k l3).bind fun t273 => ((impl_set_has.f t272 t273).bind fun t274 => (impl_SplitBy.j0 k l0 l2 l3 (!t274))))) else (impl_SplitBy.j0 k l0 l2 l3 true)) = some (r1, r2, r3) := H
        have A10 := Aside0.mk A100
        clear A100
        by_cases c11 : t271 = true
        · subst c11
          have H1 : ((impl_setOf.f k l2).bind fun t272 => ((impl_setOf.f k l3).bind fun t273 => ((impl_set_has.f t272 t273).bind fun t274 => (impl_SplitBy.j0 k l0 l2 l3 (!t274))))) = some (r1, r2, r3) := by rw [if_pos rfl] at H; exact H
          clear H
          have H := H1
          clear H1
          replace H := Option.bind_eq_some_iff.mp H
          obtain ⟨t272, A120, H⟩ := H
          replace H : ((impl_setOf.f k l3).bind fun t273 => ((impl_set_has.f t272 t273).bind fun t274 => (impl_SplitBy.j0 k l0 l2 l3 (!t274)))) = some (r1, r2, r3) := H
          have A12 := Aside0.mk A120
          clear A120
          replace H := Option.bind_eq_some_iff.mp H
          obtain ⟨t273, A130, H⟩ := H
          replace H : ((impl_set_has.f t272 t273).bind fun t274 => (impl_SplitBy.j0 k l0 l2 l3 (!t274))) = some (r1, r2, r3) := H
          have A13 := Aside0.mk A130
          clear A130
          replace H := Option.bind_eq_some_iff.mp H
          obtain ⟨t274, A140, H⟩ := H
          replace H : (impl_SplitBy.j0 k l0 l2 l3 (!t274)) = some (r1, r2, r3) := H
          have A14 := Aside0.mk A140
          clear A140
          have H' := Aside0.mk H
          clear H
          go_wp2_with (first | ((with_reducible refine gate_callee (f := 46) rfl ?_); refine goesL_ (some 16) rfl rfl Try.func46 (by kernel_rfl) rfl #[.slice A0 l0.length c0, .int .i64 a1] rfl (by (try simp only [List.map_toArray, List.map_cons, List.map_nil]); first | done | rfl | (simp only [List.length_drop, List.length_take]; rfl)) ?_; (with_reducible refine (impl_GoodDepends.calls k _ _ l0 a1 true _ ?side1 ?side2 A6.out).mono ?_); (case side1 => repeat (first | exact (Kd.C_below HR0.out HB.out) | (with_reducible refine Kd.C_alloc ?_ _) | (with_reducible refine Kd.C_drewN ?_ _) | (with_reducible refine Kd.C_drew ?_))); (case side2 => exact HC0.out); rintro e w15 ⟨rfl, hb⟩; refine ⟨_, rfl, ?_⟩; have n0_ := Aside0.mk (below_step (by repeat (first | (with_reducible first | exact HB.out | apply below_alloc | apply pw_below_drewN | apply below_drew1) | exact HB.out)) hb); clear HB; have HB := n0_; clear n0_; (try clear hb); (try clear hb2); (try clear hk); (try clear hi)) | (go_at_call 64; (with_reducible refine (impl_areRising.calls k _ _ l2 a1 true _ ?side1 ?side2 A8.out).mono ?_); (case side1 => repeat (first | exact (Kd.C_below HR2.out HB.out) | (with_reducible refine Kd.C_alloc ?_ _) | (with_reducible refine Kd.C_drewN ?_ _) | (with_reducible refine Kd.C_drew ?_))); (case side2 => exact HC2.out); rintro e w' ⟨rfl, ⟨nd, rfl⟩⟩) | (go_at_call 64; (with_reducible refine (impl_areRising.calls k _ _ l3 a1 true _ ?side1 ?side2 A10.out).mono ?_); (case side1 => repeat (first | exact (Kd.C_below HR3.out (by repeat (first | (with_reducible first | exact HB.out | apply below_alloc | apply pw_below_drewN | apply below_drew1) | exact HB.out))) | (with_reducible refine Kd.C_alloc ?_ _) | (with_reducible refine Kd.C_drewN ?_ _) | (with_reducible refine Kd.C_drew ?_))); (case side2 => exact HC3.out); rintro e w' ⟨rfl, ⟨nd, rfl⟩⟩) | (go_at_call 67; (with_reducible refine (impl_setOf.calls k _ _ l2 t272 _ ?side1 ?side2 A12.out).mono ?_); (case side1 => repeat (first | exact (Kd.C_below HR2.out (by repeat (first | (with_reducible first | exact HB.out | apply below_alloc | apply pw_below_drewN | apply below_drew1) | exact HB.out))) | (with_reducible refine Kd.C_alloc ?_ _) | (with_reducible refine Kd.C_drewN ?_ _) | (with_reducible refine Kd.C_drew ?_))); (case side2 => exact HC2.out); rintro e w' ⟨rfl, ⟨nd, rfl⟩⟩) | (go_at_call 67; (with_reducible refine (impl_setOf.calls k _ _ l3 t273 _ ?side1 ?side2 A13.out).mono ?_); (case side1 => repeat (first | exact (Kd.C_below HR3.out (by repeat (first | (with_reducible first | exact HB.out | apply below_alloc | apply pw_below_drewN | apply below_drew1) | exact HB.out))) | (with_reducible refine Kd.C_alloc ?_ _) | (with_reducible refine Kd.C_drewN ?_ _) | (with_reducible refine Kd.C_drew ?_))); (case side2 => exact HC3.out); rintro e w' ⟨rfl, ⟨nd, rfl⟩⟩) | (go_at_call 74; (with_reducible refine (impl_set_has.calls t272 t273 t274 _ A14.out).mono ?_); rintro e w' ⟨rfl, ⟨nd, rfl⟩⟩))
          go_meet
          case rel => exact ⟨_, (!t274), (by first | rfl | (simp; done) | (simp [*]; done)), H', ⟨by first | omega | exact Nat.le_refl _⟩, ⟨by repeat (first | (with_reducible first | exact HB.out | apply below_alloc | apply pw_below_drewN | apply below_drew1) | exact HB.out)⟩⟩
        · replace c11 := Bool.eq_false_iff.mpr c11
          subst c11
          have H1 : (impl_SplitBy.j0 k l0 l2 l3 true) = some (r1, r2, r3) := by rw [if_neg (show ¬ (false = true) by decide)] at H; exact H
          clear H
          have H := H1
          clear H1
          have H' := Aside0.mk H
          clear H
          go_wp2_with (first | ((with_reducible refine gate_callee (f := 46) rfl ?_); refine goesL_ (some 16) rfl rfl Try.func46 (by kernel_rfl) rfl #[.slice A0 l0.length c0, .int .i64 a1] rfl (by (try simp only [List.map_toArray, List.map_cons, List.map_nil]); first | done | rfl | (simp only [List.length_drop, List.length_take]; rfl)) ?_; (with_reducible refine (impl_GoodDepends.calls k _ _ l0 a1 true _ ?side1 ?side2 A6.out).mono ?_); (case side1 => repeat (first | exact (Kd.C_below HR0.out HB.out) | (with_reducible refine Kd.C_alloc ?_ _) | (with_reducible refine Kd.C_drewN ?_ _) | (with_reducible refine Kd.C_drew ?_))); (case side2 => exact HC0.out); rintro e w16 ⟨rfl, hb⟩; refine ⟨_, rfl, ?_⟩; have n0_ := Aside0.mk (below_step (by repeat (first | (with_reducible first | exact HB.out | apply below_alloc | apply pw_below_drewN | apply below_drew1) | exact HB.out)) hb); clear HB; have HB := n0_; clear n0_; (try clear hb); (try clear hb2); (try clear hk); (try clear hi)) | (go_at_call 64; (with_reducible refine (impl_areRising.calls k _ _ l2 a1 true _ ?side1 ?side2 A8.out).mono ?_); (case side1 => repeat (first | exact (Kd.C_below HR2.out HB.out) | (with_reducible refine Kd.C_alloc ?_ _) | (with_reducible refine Kd.C_drewN ?_ _) | (with_reducible refine Kd.C_drew ?_))); (case side2 => exact HC2.out); rintro e w' ⟨rfl, ⟨nd, rfl⟩⟩) | (go_at_call 64; (with_reducible refine (impl_areRising.calls k _ _ l3 a1 false _ ?side1 ?side2 A10.out).mono ?_); (case side1 => repeat (first | exact (Kd.C_below HR3.out (by repeat (first | (with_reducible first | exact HB.out | apply below_alloc | apply pw_below_drewN | apply below_drew1) | exact HB.out))) | (with_reducible refine Kd.C_alloc ?_ _) | (with_reducible refine Kd.C_drewN ?_ _) | (with_reducible refine Kd.C_drew ?_))); (case side2 => exact HC3.out); rintro e w' ⟨rfl, ⟨nd, rfl⟩⟩))
          go_meet
          case rel => exact ⟨_, (true), (by first | rfl | (simp; done) | (simp [*]; done)), H', ⟨by first | omega | exact Nat.le_refl _⟩, ⟨by repeat (first | (with_reducible first | exact HB.out | apply below_alloc | apply pw_below_drewN | apply below_drew1) | exact HB.out)⟩⟩
      · replace c9 := Bool.eq_false_iff.mpr c9
        subst c9
        have H1 : (impl_SplitBy.j0 k l0 l2 l3 true) = some (r1, r2, r3) := by rw [if_neg (show ¬ (false = true) by decide)] at H; exact H
        clear H
        have H := H1
        clear H1
        have H' := Aside0.mk H
        clear H
        go_wp2_with (first | ((with_reducible refine gate_callee (f := 46) rfl ?_); refine goesL_ (some 16) rfl rfl Try.func46 (by kernel_rfl) rfl #[.slice A0 l0.length c0, .int .i64 a1] rfl (by (try simp only [List.map_toArray, List.map_cons, List.map_nil]); first | done | rfl | (simp only [List.length_drop, List.length_take]; rfl)) ?_; (with_reducible refine (impl_GoodDepends.calls k _ _ l0 a1 true _ ?side1 ?side2 A6.out).mono ?_); (case side1 => repeat (first | exact (Kd.C_below HR0.out HB.out) | (with_reducible refine Kd.C_alloc ?_ _) | (with_reducible refine Kd.C_drewN ?_ _) | (with_reducible refine Kd.C_drew ?_))); (case side2 => exact HC0.out); rintro e w17 ⟨rfl, hb⟩; refine ⟨_, rfl, ?_⟩; have n0_ := Aside0.mk (below_step (by repeat (first | (with_reducible first | exact HB.out | apply below_alloc | apply pw_below_drewN | apply below_drew1) | exact HB.out)) hb); clear HB; have HB := n0_; clear n0_; (try clear hb); (try clear hb2); (try clear hk); (try clear hi)) | (go_at_call 64; (with_reducible refine (impl_areRising.calls k _ _ l2 a1 false _ ?side1 ?side2 A8.out).mono ?_); (case side1 => repeat (first | exact (Kd.C_below HR2.out HB.out) | (with_reducible refine Kd.C_alloc ?_ _) | (with_reducible refine Kd.C_drewN ?_ _) | (with_reducible refine Kd.C_drew ?_))); (case side2 => exact HC2.out); rintro e w' ⟨rfl, ⟨nd, rfl⟩⟩))
        go_meet
        case rel => exact ⟨_, (true), (by first | rfl | (simp; done) | (simp [*]; done)), H', ⟨by first | omega | exact Nat.le_refl _⟩, ⟨by repeat (first | (with_reducible first | exact HB.out | apply below_alloc | apply pw_below_drewN | apply below_drew1) | exact HB.out)⟩⟩
    · replace c7 := Bool.eq_false_iff.mpr c7
      subst c7
      have H1 : (impl_SplitBy.j0 k l0 l2 l3 true) = some (r1, r2, r3) := by rw [if_neg (show ¬ (false = true) by decide)] at H; exact H
      clear H
      have H := H1
      clear H1
      have H' := Aside0.mk H
      clear H
      go_wp2_with (first | ((with_reducible refine gate_callee (f := 46) rfl ?_); refine goesL_ (some 16) rfl rfl Try.func46 (by kernel_rfl) rfl #[.slice A0 l0.length c0, .int .i64 a1] rfl (by (try simp only [List.map_toArray, List.map_cons, List.map_nil]); first | done | rfl | (simp only [List.length_drop, List.length_take]; rfl)) ?_; (with_reducible refine (impl_GoodDepends.calls k _ _ l0 a1 false _ ?side1 ?side2 A6.out).mono ?_); (case side1 => repeat (first | exact (Kd.C_below HR0.out HB.out) | (with_reducible refine Kd.C_alloc ?_ _) | (with_reducible refine Kd.C_drewN ?_ _) | (with_reducible refine Kd.C_drew ?_))); (case side2 => exact HC0.out); rintro e w18 ⟨rfl, hb⟩; refine ⟨_, rfl, ?_⟩; have n0_ := Aside0.mk (below_step (by repeat (first | (with_reducible first | exact HB.out | apply below_alloc | apply pw_below_drewN | apply below_drew1) | exact HB.out)) hb); clear HB; have HB := n0_; clear n0_; (try clear hb); (try clear hb2); (try clear hk); (try clear hi)))
      go_meet
      case rel => exact ⟨_, (true), (by first | rfl | (simp; done) | (simp [*]; done)), H', ⟨by first | omega | exact Nat.le_refl _⟩, ⟨by repeat (first | (with_reducible first | exact HB.out | apply below_alloc | apply pw_below_drewN | apply below_drew1) | exact HB.out)⟩⟩
  case rest =>
    clear HC5
    try clear c1
    try clear c2
    try clear p2
    try clear c3
    try clear c4
    try clear c7
    try clear c9
    try clear c11
    obtain ⟨kq, x37_4, rfl, HA, HJ4, HB⟩ := hcut
    cases kq with
    | zero => exact absurd HA.out (by simp [impl_SplitBy.j0])
    | succ kj4 =>
      have H := HA.out
      clear HA
      simp only [impl_SplitBy.j0] at H
      by_cases c19 : x37_4 = true
      · subst c19
        have H1 : (some (([] : List Int), ([] : List Int), false)) = some (r1, r2, r3) := by rw [if_pos rfl] at H; exact H
        clear H
        have H := H1
        clear H1
        simp only [Option.some.injEq, Prod.mk.injEq] at H
        obtain ⟨rfl, rfl, rfl⟩ := H
        go_wp2
        go_ret3
        exact ⟨_, _, by first | rfl | (simp [errW_none, errW_some] <;> rfl) | (simp [*, errW_none, errW_some] <;> rfl), by first | exact Kd.R_nil _ _ _ _ _ | exact Kd.N_nil _ _ _ _ _ | exact Kd.V_nil _ _ _ _ _ | exact Kd.Q_nil _ _ _ _ _ | exact Kd.S_nil _ _ _ _ _, by first | exact Kd.R_nil _ _ _ _ _ | exact Kd.N_nil _ _ _ _ _ | exact Kd.V_nil _ _ _ _ _ | exact Kd.Q_nil _ _ _ _ _ | exact Kd.S_nil _ _ _ _ _, by repeat (first | (with_reducible first | exact HB.out | apply below_alloc | apply pw_below_drewN | apply below_drew1) | exact HB.out)⟩
      · replace c19 := Bool.eq_false_iff.mpr c19
        subst c19
        have H1 : ((impl_rulesOf.f kj4 l0).bind fun t275 => ((impl_setOf.f kj4 l2).bind fun t278 => ((impl_setOf.f kj4 l3).bind fun t279 => ((impl_split.f kj4 t275 t278 t279).bind fun bt280 => (if bt280.2.2 = true then ((impl_set_list.f kj4 bt280.1).bind fun t283 => ((impl_set_list.f kj4 bt280.2.1).bind fun t286 => (some (t283, t286, true)))) else (some (([] : List Int), ([] : List Int), false))))))) = some (r1, r2, r3) := by rw [if_neg (show ¬ (false = true) by decide)] at H; exact H
        clear H
        have H := H1
        clear H1
        replace H := Option.bind_eq_some_iff.mp H
        obtain ⟨t275, A200, H⟩ := H
        replace H : ((impl_setOf.f kj4 l2).bind fun t278 => ((impl_setOf.f kj4 l3).bind fun t279 => ((impl_split.f kj4 t275 t278 t279).bind fun bt280 => (if bt280.2.2 = true then ((impl_set_list.f kj4 bt280.1).bind fun t283 => ((impl_set_list.f kj4 bt280.2.1).bind fun t286 => (some (t283, t286, true)))) else (some (([] : List Int), ([] : List Int), false)))))) = some (r1, r2, r3) := H
        have A20 := Aside0.mk A200
        clear A200
        replace H := Option.bind_eq_some_iff.mp H
        obtain ⟨t278, A210, H⟩ := H
        replace H : ((impl_setOf.f kj4 l3).bind fun t279 => ((impl_split.f kj4 t275 t278 t279).bind fun bt280 => (if bt280.2.2 = true then ((impl_set_list.f kj4 bt280.1).bind fun t283 => ((impl_set_list.f kj4 bt280.2.1).bind fun t286 => (some (t283, t286, true)))) else (some (([] : List Int), ([] : List Int), false))))) = some (r1, r2, r3) := H
        have A21 := Aside0.mk A210
        clear A210
        replace H := Option.bind_eq_some_iff.mp H
        obtain ⟨t279, A220, H⟩ := H
        replace H : ((impl_split.f kj4 t275 t278 t279).bind fun bt280 => (if bt280.2.2 = true then ((impl_set_list.f kj4 bt280.1).bind fun t283 => ((impl_set_list.f kj4 bt280.2.1).bind fun t286 => (some (t283, t286, true)))) else (some (([] : List Int), ([] : List Int), false)))) = some (r1, r2, r3) := H
        have A22 := Aside0.mk A220
        clear A220
        replace H := Option.bind_eq_some_iff.mp H
        obtain ⟨⟨t280, t281, t282⟩, A230, H⟩ := H
        replace H : (if t282 = true then ((impl_set_list.f kj4 t280).bind fun t283 => ((impl_set_list.f kj4 t281).bind fun t286 => (some (t283, t286, true)))) else (some (([] : List Int), ([] : List Int), false))) = some (r1, r2, r3) := H
        have A23 := Aside0.mk A230
        clear A230
        by_cases c24 : t282 = true
        · subst c24
          have H1 : ((impl_set_list.f kj4 t280).bind fun t283 => ((impl_set_list.f kj4 t281).bind fun t286 => (some (t283, t286, true)))) = some (r1, r2, r3) := by rw [if_pos rfl] at H; exact H
          clear H
          have H := H1
          clear H1
          replace H := Option.bind_eq_some_iff.mp H
          obtain ⟨t283, A250, H⟩ := H
          replace H : ((impl_set_list.f kj4 t281).bind fun t286 => (some (t283, t286, true))) = some (r1, r2, r3) := H
          have A25 := Aside0.mk A250
          clear A250
          replace H := Option.bind_eq_some_iff.mp H
          obtain ⟨t286, A260, H⟩ := H
          replace H : (some (t283, t286, true)) = some (r1, r2, r3) := H
          have A26 := Aside0.mk A260
          clear A260
          simp only [Option.some.injEq, Prod.mk.injEq] at H
          obtain ⟨rfl, rfl, rfl⟩ := H
          go_wp2_with (first | ((with_reducible refine gate_callee (f := 66) rfl ?_); refine goesL_ (some 40) rfl rfl Try.func66 (by kernel_rfl) rfl #[.slice A0 l0.length c0] rfl (by (try simp only [List.map_toArray, List.map_cons, List.map_nil]); first | done | rfl | (simp only [List.length_drop, List.length_take]; rfl)) ?_; (with_reducible refine (impl_rulesOf.calls kj4 _ _ l0 t275 _ ?side1 ?side2 A20.out).mono ?_); (case side1 => repeat (first | exact (Kd.C_below HR0.out HB.out) | (with_reducible refine Kd.C_alloc ?_ _) | (with_reducible refine Kd.C_drewN ?_ _) | (with_reducible refine Kd.C_drew ?_))); (case side2 => exact HC0.out); rintro e w27 ⟨v276, rfl, ho0, hb⟩; refine ⟨_, rfl, ?_⟩; have n0_ := Aside0.mk (Kd.R_lower ho0 (below_size (by repeat (first | (with_reducible first | exact HB.out | apply below_alloc | apply pw_below_drewN | apply below_drew1) | exact HB.out)))); have n1_ := Aside0.mk (below_step (by repeat (first | (with_reducible first | exact HB.out | apply below_alloc | apply pw_below_drewN | apply below_drew1) | exact HB.out)) hb); clear HB; have HO277 := n0_; have HB := n1_; clear n0_ n1_; (try clear hb); (try clear hb2); (try clear hk); (try clear hi); (try clear ho0)) | ((with_reducible refine gate_callee (f := 67) rfl ?_); refine goesL_ (some 42) rfl rfl Try.func67 (by kernel_rfl) rfl #[.slice A2 l2.length c2] rfl (by (try simp only [List.map_toArray, List.map_cons, List.map_nil]); first | done | rfl | (simp only [List.length_drop, List.length_take]; rfl)) ?_; (with_reducible refine (impl_setOf.calls kj4 _ _ l2 t278 _ ?side1 ?side2 A21.out).mono ?_); (case side1 => repeat (first | exact (Kd.C_below HR2.out HB.out) | (with_reducible refine Kd.C_alloc ?_ _) | (with_reducible refine Kd.C_drewN ?_ _) | (with_reducible refine Kd.C_drew ?_))); (case side2 => exact HC2.out); rintro e w' ⟨rfl, ⟨nd, rfl⟩⟩; refine ⟨_, rfl, ?_⟩) | ((with_reducible refine gate_callee (f := 67) rfl ?_); refine goesL_ (some 44) rfl rfl Try.func67 (by kernel_rfl) rfl #[.slice A3 l3.length c3] rfl (by (try simp only [List.map_toArray, List.map_cons, List.map_nil]); first | done | rfl | (simp only [List.length_drop, List.length_take]; rfl)) ?_; (with_reducible refine (impl_setOf.calls kj4 _ _ l3 t279 _ ?side1 ?side2 A22.out).mono ?_); (case side1 => repeat (first | exact (Kd.C_below HR3.out (by repeat (first | (with_reducible first | exact HB.out | apply below_alloc | apply pw_below_drewN | apply below_drew1) | exact HB.out))) | (with_reducible refine Kd.C_alloc ?_ _) | (with_reducible refine Kd.C_drewN ?_ _) | (with_reducible refine Kd.C_drew ?_))); (case side2 => exact HC3.out); rintro e w' ⟨rfl, ⟨nd, rfl⟩⟩; refine ⟨_, rfl, ?_⟩; obtain ⟨Ao28, co28, eo28⟩ := Kd.R_slice HO277.out; subst eo28) | ((with_reducible refine gate_callee (f := 75) rfl ?_); refine goesL_ (some 45) rfl rfl Try.func75 (by kernel_rfl) rfl #[.slice Ao28 t275.length co28, .int .i64 t278, .int .i64 t279] rfl (by (try simp only [List.map_toArray, List.map_cons, List.map_nil]); first | done | rfl | (simp only [List.length_drop, List.length_take]; rfl)) ?_; (with_reducible refine (impl_split.calls kj4 _ _ t275 t278 t279 t280 t281 true _ ?side1 ?side2 A23.out).mono ?_); (case side1 => repeat (first | exact (Kd.R_reads' HO277.out).2.2 | (with_reducible refine Kd.C_alloc ?_ _) | (with_reducible refine Kd.C_drewN ?_ _) | (with_reducible refine Kd.C_drew ?_))); (case side2 => exact (Kd.R_reads' HO277.out).2.1); rintro e w29 ⟨rfl, hb⟩; refine ⟨_, rfl, ?_⟩; have n0_ := Aside0.mk (Kd.R_below (by (with_reducible repeat (first | apply Kd.R_alloc | apply Kd.R_drewN | apply Kd.R_drew)); exact HO277.out) hb); have n1_ := Aside0.mk (below_step (by repeat (first | (with_reducible first | exact HB.out | apply below_alloc | apply pw_below_drewN | apply below_drew1) | exact HB.out)) hb); clear HO277; clear HB; have HO277 := n0_; have HB := n1_; clear n0_ n1_; (try clear hb); (try clear hb2); (try clear hk); (try clear hi)) | ((with_reducible refine gate_callee (f := 68) rfl ?_); refine goesL_ (some 52) rfl rfl Try.func68 (by kernel_rfl) rfl #[.int .i64 t280] rfl (by (try simp only [List.map_toArray, List.map_cons, List.map_nil]); first | done | rfl | (simp only [List.length_drop, List.length_take]; rfl)) ?_; (with_reducible refine (impl_set_list.calls kj4 t280 t283 _ A25.out).mono ?_); rintro e w30 ⟨v284, rfl, ho0, hb⟩; refine ⟨_, rfl, ?_⟩; have n0_ := Aside0.mk (Kd.R_below (by (with_reducible repeat (first | apply Kd.R_alloc | apply Kd.R_drewN | apply Kd.R_drew)); exact HO277.out) hb); have n1_ := Aside0.mk (Kd.R_lower ho0 (below_size (by repeat (first | (with_reducible first | exact HB.out | apply below_alloc | apply pw_below_drewN | apply below_drew1) | exact HB.out)))); have n2_ := Aside0.mk (below_step (by repeat (first | (with_reducible first | exact HB.out | apply below_alloc | apply pw_below_drewN | apply below_drew1) | exact HB.out)) hb); clear HO277; clear HB; have HO277 := n0_; have HO285 := n1_; have HB := n2_; clear n0_ n1_ n2_; (try clear hb); (try clear hb2); (try clear hk); (try clear hi); (try clear ho0)) | ((with_reducible refine gate_callee (f := 68) rfl ?_); refine goesL_ (some 54) rfl rfl Try.func68 (by kernel_rfl) rfl #[.int .i64 t281] rfl (by (try simp only [List.map_toArray, List.map_cons, List.map_nil]); first | done | rfl | (simp only [List.length_drop, List.length_take]; rfl)) ?_; (with_reducible refine (impl_set_list.calls kj4 t281 t286 _ A26.out).mono ?_); rintro e w31 ⟨v287, rfl, ho0, hb⟩; refine ⟨_, rfl, ?_⟩; have n0_ := Aside0.mk (Kd.R_below (by (with_reducible repeat (first | apply Kd.R_alloc | apply Kd.R_drewN | apply Kd.R_drew)); exact HO277.out) hb); have n1_ := Aside0.mk (Kd.R_elder' (by (with_reducible repeat (first | apply Kd.R_alloc | apply Kd.R_drewN | apply Kd.R_drew)); exact HO285.out) (Kd.R_base ho0) hb); have n2_ := Aside0.mk (Kd.R_lower (Kd.R_new' ho0 (Kd.R_lt (by (with_reducible repeat (first | apply Kd.R_alloc | apply Kd.R_drewN | apply Kd.R_drew)); exact HO285.out))) (below_size (by repeat (first | (with_reducible first | exact HB.out | apply below_alloc | apply pw_below_drewN | apply below_drew1) | exact HB.out)))); have n3_ := Aside0.mk (below_step (by repeat (first | (with_reducible first | exact HB.out | apply below_alloc | apply pw_below_drewN | apply below_drew1) | exact HB.out)) hb); clear HO277; clear HO285; clear HB; have HO277 := n0_; have HO285 := n1_; have HO288 := n2_; have HB := n3_; clear n0_ n1_ n2_ n3_; (try clear hb); (try clear hb2); (try clear hk); (try clear hi); (try clear ho0)))
          go_ret3
          exact ⟨_, _, by first | rfl | (simp [errW_none, errW_some] <;> rfl) | (simp [*, errW_none, errW_some] <;> rfl), by (with_reducible repeat (first | apply Kd.R_alloc | apply Kd.R_drewN | apply Kd.R_drew)); exact Kd.R_mono HO285.out (fun _ hk => hk.2), by (with_reducible repeat (first | apply Kd.R_alloc | apply Kd.R_drewN | apply Kd.R_drew)); exact Kd.R_mono HO288.out (fun _ hk => hk.2), by repeat (first | (with_reducible first | exact HB.out | apply below_alloc | apply pw_below_drewN | apply below_drew1) | exact HB.out)⟩
        · replace c24 := Bool.eq_false_iff.mpr c24
          subst c24
          have H1 : (some (([] : List Int), ([] : List Int), false)) = some (r1, r2, r3) := by rw [if_neg (show ¬ (false = true) by decide)] at H; exact H
          clear H
          have H := H1
          clear H1
          simp only [Option.some.injEq, Prod.mk.injEq] at H
          obtain ⟨rfl, rfl, rfl⟩ := H
          go_wp2_with (first | ((with_reducible refine gate_callee (f := 66) rfl ?_); refine goesL_ (some 40) rfl rfl Try.func66 (by kernel_rfl) rfl #[.slice A0 l0.length c0] rfl (by (try simp only [List.map_toArray, List.map_cons, List.map_nil]); first | done | rfl | (simp only [List.length_drop, List.length_take]; rfl)) ?_; (with_reducible refine (impl_rulesOf.calls kj4 _ _ l0 t275 _ ?side1 ?side2 A20.out).mono ?_); (case side1 => repeat (first | exact (Kd.C_below HR0.out HB.out) | (with_reducible refine Kd.C_alloc ?_ _) | (with_reducible refine Kd.C_drewN ?_ _) | (with_reducible refine Kd.C_drew ?_))); (case side2 => exact HC0.out); rintro e w32 ⟨v276, rfl, ho0, hb⟩; refine ⟨_, rfl, ?_⟩; have n0_ := Aside0.mk (Kd.R_lower ho0 (below_size (by repeat (first | (with_reducible first | exact HB.out | apply below_alloc | apply pw_below_drewN | apply below_drew1) | exact HB.out)))); have n1_ := Aside0.mk (below_step (by repeat (first | (with_reducible first | exact HB.out | apply below_alloc | apply pw_below_drewN | apply below_drew1) | exact HB.out)) hb); clear HB; have HO277 := n0_; have HB := n1_; clear n0_ n1_; (try clear hb); (try clear hb2); (try clear hk); (try clear hi); (try clear ho0)) | ((with_reducible refine gate_callee (f := 67) rfl ?_); refine goesL_ (some 42) rfl rfl Try.func67 (by kernel_rfl) rfl #[.slice A2 l2.length c2] rfl (by (try simp only [List.map_toArray, List.map_cons, List.map_nil]); first | done | rfl | (simp only [List.length_drop, List.length_take]; rfl)) ?_; (with_reducible refine (impl_setOf.calls kj4 _ _ l2 t278 _ ?side1 ?side2 A21.out).mono ?_); (case side1 => repeat (first | exact (Kd.C_below HR2.out HB.out) | (with_reducible refine Kd.C_alloc ?_ _) | (with_reducible refine Kd.C_drewN ?_ _) | (with_reducible refine Kd.C_drew ?_))); (case side2 => exact HC2.out); rintro e w' ⟨rfl, ⟨nd, rfl⟩⟩; refine ⟨_, rfl, ?_⟩) | ((with_reducible refine gate_callee (f := 67) rfl ?_); refine goesL_ (some 44) rfl rfl Try.func67 (by kernel_rfl) rfl #[.slice A3 l3.length c3] rfl (by (try simp only [List.map_toArray, List.map_cons, List.map_nil]); first | done | rfl | (simp only [List.length_drop, List.length_take]; rfl)) ?_; (with_reducible refine (impl_setOf.calls kj4 _ _ l3 t279 _ ?side1 ?side2 A22.out).mono ?_); (case side1 => repeat (first | exact (Kd.C_below HR3.out (by repeat (first | (with_reducible first | exact HB.out | apply below_alloc | apply pw_below_drewN | apply below_drew1) | exact HB.out))) | (with_reducible refine Kd.C_alloc ?_ _) | (with_reducible refine Kd.C_drewN ?_ _) | (with_reducible refine Kd.C_drew ?_))); (case side2 => exact HC3.out); rintro e w' ⟨rfl, ⟨nd, rfl⟩⟩; refine ⟨_, rfl, ?_⟩; obtain ⟨Ao33, co33, eo33⟩ := Kd.R_slice HO277.out; subst eo33) | ((with_reducible refine gate_callee (f := 75) rfl ?_); refine goesL_ (some 45) rfl rfl Try.func75 (by kernel_rfl) rfl #[.slice Ao33 t275.length co33, .int .i64 t278, .int .i64 t279] rfl (by (try simp only [List.map_toArray, List.map_cons, List.map_nil]); first | done | rfl | (simp only [List.length_drop, List.length_take]; rfl)) ?_; (with_reducible refine (impl_split.calls kj4 _ _ t275 t278 t279 t280 t281 false _ ?side1 ?side2 A23.out).mono ?_); (case side1 => repeat (first | exact (Kd.R_reads' HO277.out).2.2 | (with_reducible refine Kd.C_alloc ?_ _) | (with_reducible refine Kd.C_drewN ?_ _) | (with_reducible refine Kd.C_drew ?_))); (case side2 => exact (Kd.R_reads' HO277.out).2.1); rintro e w34 ⟨rfl, hb⟩; refine ⟨_, rfl, ?_⟩; have n0_ := Aside0.mk (Kd.R_below (by (with_reducible repeat (first | apply Kd.R_alloc | apply Kd.R_drewN | apply Kd.R_drew)); exact HO277.out) hb); have n1_ := Aside0.mk (below_step (by repeat (first | (with_reducible first | exact HB.out | apply below_alloc | apply pw_below_drewN | apply below_drew1) | exact HB.out)) hb); clear HO277; clear HB; have HO277 := n0_; have HB := n1_; clear n0_ n1_; (try clear hb); (try clear hb2); (try clear hk); (try clear hi)))
          go_ret3
          exact ⟨_, _, by first | rfl | (simp [errW_none, errW_some] <;> rfl) | (simp [*, errW_none, errW_some] <;> rfl), by first | exact Kd.R_nil _ _ _ _ _ | exact Kd.N_nil _ _ _ _ _ | exact Kd.V_nil _ _ _ _ _ | exact Kd.Q_nil _ _ _ _ _ | exact Kd.S_nil _ _ _ _ _, by first | exact Kd.R_nil _ _ _ _ _ | exact Kd.N_nil _ _ _ _ _ | exact Kd.V_nil _ _ _ _ _ | exact Kd.Q_nil _ _ _ _ _ | exact Kd.S_nil _ _ _ _ _, by repeat (first | (with_reducible first | exact HB.out | apply below_alloc | apply pw_below_drewN | apply below_drew1) | exact HB.out)⟩

/-! ### laws_FnExactSplitBy: function 4 -/
theorem laws_szIntS_some (l : List Int) (a : Int) (h0 : 0 ≤ a) (h1 : a ≤ 1048576) (hl : l.length ≤ maxLen) : laws_szIntS.f l a = some (if a < (l.length : Int) then -1 else a - (l.length : Int)) := by
  unfold maxLen at hl
  unfold laws_szIntS.f
  rw [wrap_id (by omega) (by omega)]
  by_cases h : a < (l.length : Int)
  · rw [if_pos (by omega), if_pos h]
  · rw [if_neg (by omega), if_neg h]
theorem toIntS_ev (l : List Int) (hl : l.length ≤ 1048576) : Ev (fun k => laws_toIntS.f k l) l := by
  have loop := loop_up (n := l.length) (P := fun i => ∀ x : List Int, x.length = l.length → x.take i = l.take i → Ev (fun k => laws_toIntS.l0 k l x (i : Int)) l) ?_ ?_
  · unfold laws_toIntS.f
    refine Ev.pos (by omega) (Ev.pos (by omega) ?_)
    exact loop 0 (Nat.zero_le _) (List.replicate _ 0) (by simp) (by simp)
  · intro x hx ht
    refine Ev.succ ?_
    simp only [laws_toIntS.l0]
    refine Ev.neg (by omega) (Ev.const ?_)
    rw [List.take_of_length_le (by omega), List.take_of_length_le (by omega)] at ht
    rw [ht]
  · intro i hi ih x hx ht
    refine Ev.succ ?_
    simp only [laws_toIntS.l0]
    refine Ev.pos (by omega) (Ev.pos (by omega) (Ev.pos (by omega) ?_))
    rw [wrap_add (by omega) (by omega), rd_nat hi]
    refine ih _ (by simp [hx]) ?_
    rw [List.take_succ_eq_append_getElem (by simp [hx]; omega), List.take_succ_eq_append_getElem hi]
    simp only [Int.toNat_natCast, List.getElem_set_self]
    rw [List.take_set_of_le (by omega), ht]
theorem laws_toIntS_x (l : List Int) (hl : l.length ≤ 1048576) : ∃ k, laws_toIntS.f k l = some l := (toIntS_ev l hl).rounds
theorem eqIntS_ev (l : List Int) (hl : l.length ≤ 1048576) : Ev (fun k => laws_eqIntS.f k l l) true := by
  have loop := loop_up (n := l.length) (P := fun i => Ev (fun k => laws_eqIntS.l0 k l l (i : Int)) true) ?_ ?_
  · unfold laws_eqIntS.f
    exact Ev.pos rfl (loop 0 (Nat.zero_le _))
  · refine Ev.succ ?_
    simp only [laws_eqIntS.l0]
    exact Ev.neg (by omega) (Ev.const rfl)
  · intro i hi ih
    refine Ev.succ ?_
    simp only [laws_eqIntS.l0]
    refine Ev.pos (by omega) (Ev.pos (by omega) (Ev.pos (by omega) (Ev.pos trivial ?_)))
    rw [wrap_add (by omega) (by omega)]
    exact ih
theorem laws_eqIntS_x (l : List Int) (hl : l.length ≤ 1048576) : ∃ k, laws_eqIntS.f k l l = some true := (eqIntS_ev l hl).rounds
def markedIntS (n : Nat) (a : Int) : List Int := (List.range n).map (fun (j : Nat) => a + (j : Int))
def cntIntS (l : List Int) : Int := (l.length : Int)
theorem markIntS_ev (l : List Int) (a : Int) (hl : l.length ≤ 1048576) (h0 : 0 ≤ a) (h1 : a ≤ 1099511627776) : Ev (fun k => laws_markIntS.f k l a) (a + (l.length : Int), markedIntS l.length a) := by
  unfold markedIntS
  have loop := loop_up (n := l.length) (P := fun i => ∀ x : List Int, x.length = l.length → x.take i = (List.range i).map (fun (j : Nat) => a + (j : Int)) → Ev (fun k => laws_markIntS.l0 k x (a + (i : Int)) (i : Int)) (a + (l.length : Int), (List.range l.length).map (fun (j : Nat) => a + (j : Int)))) ?_ ?_
  · unfold laws_markIntS.f
    have := loop 0 (Nat.zero_le _) l rfl (by simp)
    rwa [show a + ((0 : Nat) : Int) = a by omega] at this
  · intro x hx ht
    refine Ev.succ ?_
    simp only [laws_markIntS.l0]
    refine Ev.neg (by omega) (Ev.const ?_)
    rw [List.take_of_length_le (by omega)] at ht
    rw [ht]
  · intro i hi ih x hx ht
    have h2 : wrap64 ((i : Int) + 1) = ((i + 1 : Nat) : Int) := by unfold wrap64; omega
    have h3 : wrap64 (a + (i : Int) + 1) = a + ((i + 1 : Nat) : Int) := by unfold wrap64; omega
    refine Ev.succ ?_
    simp only [laws_markIntS.l0]
    refine Ev.pos (by omega) (Ev.pos (by omega) ?_)
    rw [h3, h2]
    refine ih _ (by simp [hx]) ?_
    rw [List.take_succ_eq_append_getElem (by simp [hx]; omega), List.range_succ, List.map_append]
    simp only [Int.toNat_natCast, List.getElem_set_self]
    rw [List.take_set_of_le (by omega), ht]
    rfl
theorem laws_markIntS_x (l : List Int) (a : Int) (hl : l.length ≤ 1048576) (h0 : 0 ≤ a) (h1 : a ≤ 1099511627776) : ∃ k, laws_markIntS.f k l a = some (a + cntIntS l, markedIntS l.length a) := (markIntS_ev l a hl h0 h1).rounds
theorem cntIntS_ok (l : List Int) (hl : l.length ≤ 1048576) : 0 ≤ cntIntS l ∧ cntIntS l ≤ 16777216 := by unfold cntIntS; omega
theorem cntIntS_le (l : List Int) (hl : l.length ≤ 1048576) : 0 ≤ cntIntS l ∧ cntIntS l ≤ 16777216 := by unfold cntIntS; omega
theorem heldIntS_ev (n : Nat) (a : Int) (hn : n ≤ 1048576) (h0 : 0 ≤ a) (h1 : a ≤ 1099511627776) : Ev (fun k => laws_heldIntS.f k (markedIntS n a) a) (a + (n : Int)) := by
  unfold markedIntS
  have loop := loop_up (n := n) (P := fun i => Ev (fun k => laws_heldIntS.l0 k ((List.range n).map (fun (j : Nat) => a + (j : Int))) (a + (i : Int)) (i : Int)) (a + (n : Int))) ?_ ?_
  · unfold laws_heldIntS.f
    have := loop 0 (Nat.zero_le _)
    rwa [show a + ((0 : Nat) : Int) = a by omega] at this
  · refine Ev.succ ?_
    simp only [laws_heldIntS.l0]
    exact Ev.neg (by simp) (Ev.const rfl)
  · intro i hi ih
    have h2 : wrap64 ((i : Int) + 1) = ((i + 1 : Nat) : Int) := by unfold wrap64; omega
    have h3 : wrap64 (a + (i : Int) + 1) = a + ((i + 1 : Nat) : Int) := by unfold wrap64; omega
    refine Ev.succ ?_
    simp only [laws_heldIntS.l0]
    refine Ev.pos (by simp; omega) (Ev.pos (by omega) (Ev.pos (by rw [rd_nat (by simpa using hi)]; simp) ?_))
    rw [h3, h2]
    exact ih
theorem laws_heldIntS_x (l : List Int) (a : Int) (hl : l.length ≤ 1048576) (h0 : 0 ≤ a) (h1 : a ≤ 1099511627776) : ∃ k, laws_heldIntS.f k (markedIntS l.length a) a = some (a + cntIntS l) := (heldIntS_ev l.length a hl h0 h1).rounds
def wtD (x : S80) : Nat := x.f0.length + x.f1.length
theorem sum_ge : ∀ {l : List Nat} {x : Nat}, x ∈ l → x ≤ l.sum
  | a :: l, x, h => by
    rw [List.sum_cons]
    rcases List.mem_cons.1 h with rfl | h
    · omega
    · have := sum_ge h; omega
def szOk_laws_szDependS (l : List S80) : Prop := l.length + (l.map wtD).sum ≤ 1048576
theorem laws_szDependS_x (l : List S80) (a : Int) (h0 : 0 ≤ a) (h1 : a ≤ 1048576) (hl : l.length ≤ maxLen ∧ ∀ x, x ∈ l → (x.f0.length ≤ maxLen ∧ ∀ y, y ∈ x.f0 → (Lit.int .i64 y).wf = true) ∧ (x.f1.length ≤ maxLen ∧ ∀ y, y ∈ x.f1 → (Lit.int .i64 y).wf = true)) :
    ∃ s, (∃ k, laws_szDependS.f k l a = some s) ∧ (s < 0 ∨ szOk_laws_szDependS l ∧ 0 ≤ s ∧ s ≤ 1048576) := by
  have hm : l.length ≤ 9223372036854775807 := by have := hl.1; unfold maxLen at this; omega
  have loop := loop_up (n := l.length) (P := fun i => ∀ b : Int, 0 ≤ b → b ≤ 1048576 → ∃ s, Ev (fun k => laws_szDependS.l0 k l b (i : Int)) s ∧ (s < 0 ∨ (((l.drop i).map wtD).sum : Nat) ≤ b ∧ 0 ≤ s ∧ s ≤ b)) ?_ ?_
  · unfold laws_szDependS.f
    rw [wrap_id (by omega) (by omega)]
    by_cases h : a - (l.length : Int) < 0
    · exact ⟨-1, (Ev.pos h (Ev.const rfl)).rounds, .inl (by omega)⟩
    · obtain ⟨s, hs, hq⟩ := loop 0 (Nat.zero_le _) (a - (l.length : Int)) (by omega) (by omega)
      refine ⟨s, (Ev.neg h hs).rounds, ?_⟩
      rcases hq with hq | ⟨q1, q2, q3⟩
      · exact .inl hq
      · refine .inr ⟨?_, q2, by omega⟩
        unfold szOk_laws_szDependS
        simp only [List.drop_zero] at q1
        omega
  · intro b b0 b1
    refine ⟨b, Ev.succ ?_, .inr ⟨by simp; omega, b0, by omega⟩⟩
    simp only [laws_szDependS.l0]
    exact Ev.neg (by omega) (Ev.const rfl)
  · intro i hi ih b b0 b1
    have hx := hl.2 l[i] (List.getElem_mem hi)
    have hr : rd_T80 l (i : Int) = l[i] := by simp [rd_T80, hi]
    have hd : ((l.drop i).map wtD).sum = wtD l[i] + ((l.drop (i + 1)).map wtD).sum := by rw [List.drop_eq_getElem_cons hi, List.map_cons, List.sum_cons]
    have e1 := laws_szIntS_some l[i].f0 b b0 b1 hx.1.1
    by_cases c1 : b < (l[i].f0.length : Int)
    · rw [if_pos c1] at e1
      refine ⟨-1, Ev.succ ?_, .inl (by omega)⟩
      simp only [laws_szDependS.l0]
      rw [hr]
      refine Ev.pos (by omega) (Ev.pos (by omega) (Ev.bind (Ev.const (by unfold laws_szDepend.f; rw [e1]; simp; rfl)) (Ev.pos (by omega) (Ev.const rfl))))
    rw [if_neg c1] at e1
    have e2 := laws_szIntS_some l[i].f1 (b - (l[i].f0.length : Int)) (by omega) (by omega) hx.2.1
    by_cases c2 : b - (l[i].f0.length : Int) < (l[i].f1.length : Int)
    · rw [if_pos c2] at e2
      refine ⟨-1, Ev.succ ?_, .inl (by omega)⟩
      simp only [laws_szDependS.l0]
      rw [hr]
      refine Ev.pos (by omega) (Ev.pos (by omega) (Ev.bind (Ev.const (by unfold laws_szDepend.f; rw [e1]; simp only [Option.bind_some]; rw [if_neg (by omega), e2]; simp; rfl)) (Ev.pos (by omega) (Ev.const rfl))))
    rw [if_neg c2] at e2
    obtain ⟨s, hs, hq⟩ := ih (b - (l[i].f0.length : Int) - (l[i].f1.length : Int)) (by omega) (by omega)
    refine ⟨s, Ev.succ ?_, ?_⟩
    · simp only [laws_szDependS.l0]
      rw [hr, wrap_add (by omega) (by omega)]
      exact Ev.pos (by omega) (Ev.pos (by omega) (Ev.bind (Ev.const (by unfold laws_szDepend.f; rw [e1]; simp only [Option.bind_some]; rw [if_neg (by omega), e2]; simp only [Option.bind_some]; rw [if_neg (by omega)])) (Ev.neg (by omega) hs)))
    · rcases hq with hq | ⟨q1, q2, q3⟩
      · exact .inl hq
      · rw [hd]; unfold wtD at *; exact .inr ⟨by omega, q2, by omega⟩
def cvD (x : S80) : S44 := ⟨x.f0, x.f1⟩
def cvDependS (l : List S80) : List S44 := l.map cvD
theorem wtD_le {l : List S80} (h : szOk_laws_szDependS l) : l.length ≤ 1048576 ∧ ∀ x ∈ l, x.f0.length ≤ 1048576 ∧ x.f1.length ≤ 1048576 := by
  unfold szOk_laws_szDependS at h
  refine ⟨by omega, fun x hx => ?_⟩
  have := sum_ge (List.mem_map_of_mem (f := wtD) hx)
  unfold wtD at *
  omega
theorem laws_toDependS_x (l : List S80) (h : szOk_laws_szDependS l) : ∃ k, laws_toDependS.f k l = some (cvDependS l) := by
  obtain ⟨hl, hx⟩ := wtD_le h
  unfold cvDependS
  have loop := loop_up (n := l.length) (P := fun i => ∀ x : List S44, x.length = l.length → x.take i = (l.map cvD).take i → Ev (fun k => laws_toDependS.l0 k l x (i : Int)) (l.map cvD)) ?_ ?_
  · refine Ev.rounds ?_
    unfold laws_toDependS.f
    refine Ev.pos (by omega) (Ev.pos (by omega) ?_)
    exact loop 0 (Nat.zero_le _) (List.replicate _ z44) (by simp) (by simp)
  · intro x hx2 ht
    refine Ev.succ ?_
    simp only [laws_toDependS.l0]
    refine Ev.neg (by omega) (Ev.const ?_)
    rw [List.take_of_length_le (by omega), List.take_of_length_le (by simp)] at ht
    rw [ht]
  · intro i hi ih x hx2 ht
    have hr : rd_T80 l (i : Int) = l[i] := by simp [rd_T80, hi]
    obtain ⟨b0, b1⟩ := hx l[i] (List.getElem_mem hi)
    refine Ev.succ ?_
    simp only [laws_toDependS.l0]
    rw [hr]
    refine Ev.pos (by omega) (Ev.pos (by omega) (Ev.bind (a := (l[i].f0, l[i].f1)) ?_ (Ev.pos (by omega) ?_)))
    · unfold laws_toDepend.f
      exact Ev.bind (toIntS_ev _ b0) (Ev.bind (toIntS_ev _ b1) (Ev.const rfl))
    rw [wrap_add (by omega) (by omega)]
    refine ih _ (by simp [hx2]) ?_
    rw [List.take_succ_eq_append_getElem (by simp [hx2]; omega), List.take_succ_eq_append_getElem (by simpa using hi)]
    simp only [Int.toNat_natCast, List.getElem_set_self, List.getElem_map]
    rw [List.take_set_of_le (by omega), ht]
    rfl
def okDependS (l : List S44) : Prop := l.length ≤ 1048576 ∧ ∀ x ∈ l, x.f0.length ≤ 1048576 ∧ x.f1.length ≤ 1048576
theorem okDependS_cv {l : List S80} (h : szOk_laws_szDependS l) : okDependS (cvDependS l) := by
  obtain ⟨hl, hx⟩ := wtD_le h
  refine ⟨by unfold cvDependS; simpa using hl, fun x hx2 => ?_⟩
  obtain ⟨y, hy, rfl⟩ := List.mem_map.1 hx2
  exact hx y hy
theorem laws_eqDependS_x (l : List S44) (h : okDependS l) : ∃ k, laws_eqDependS.f k l l = some true := by
  obtain ⟨hl, hx⟩ := h
  have loop := loop_up (n := l.length) (P := fun i => Ev (fun k => laws_eqDependS.l0 k l l (i : Int)) true) ?_ ?_
  · refine Ev.rounds ?_
    unfold laws_eqDependS.f
    exact Ev.pos rfl (loop 0 (Nat.zero_le _))
  · refine Ev.succ ?_
    simp only [laws_eqDependS.l0]
    exact Ev.neg (by omega) (Ev.const rfl)
  · intro i hi ih
    have hr : rd_T44 l (i : Int) = l[i] := by simp [rd_T44, hi]
    obtain ⟨b0, b1⟩ := hx l[i] (List.getElem_mem hi)
    refine Ev.succ ?_
    simp only [laws_eqDependS.l0]
    rw [hr, wrap_add (by omega) (by omega)]
    refine Ev.pos (by omega) (Ev.pos (by omega) (Ev.pos (by omega) (Ev.bind (a := true) ?_ (Ev.pos rfl ih))))
    unfold laws_eqDepend.f
    exact Ev.bind (eqIntS_ev _ b0) (Ev.pos rfl (Ev.bind (eqIntS_ev _ b1) (Ev.pos rfl (Ev.const rfl))))
def cntDependS (l : List S44) : Int := (((l.map fun x => x.f0.length + x.f1.length).sum : Nat) : Int)
def markedDependS : List S44 → Int → List S44
  | [], _ => []
  | x :: l, a => ⟨markedIntS x.f0.length a, markedIntS x.f1.length (a + (x.f0.length : Int))⟩ :: markedDependS l (a + (x.f0.length : Int) + (x.f1.length : Int))
theorem markDependS_ev (l : List S44) (a : Int) (hl : l.length ≤ 1048576) (hx : ∀ x ∈ l, x.f0.length ≤ 1048576 ∧ x.f1.length ≤ 1048576) (h0 : 0 ≤ a) (h1 : a + cntDependS l ≤ 1099511627776) :
    Ev (fun k => laws_markDependS.f k l a) (a + cntDependS l, markedDependS l a) := by
  have key : ∀ (d : Nat) (x : List S44) (i : Nat) (p q : List S44) (b : Int), x = p ++ q → p.length = i → q.length = d → x.length ≤ 1048576 → (∀ z ∈ q, z.f0.length ≤ 1048576 ∧ z.f1.length ≤ 1048576) → 0 ≤ b → b + cntDependS q ≤ 1099511627776 →
      Ev (fun k => laws_markDependS.l0 k x b (i : Int)) (b + cntDependS q, p ++ markedDependS q b) := by
    intro d
    induction d with
    | zero =>
      intro x i p q b hxe hp hq hxl _ _ _
      obtain rfl := List.length_eq_zero_iff.1 hq
      refine Ev.succ ?_
      simp only [laws_markDependS.l0]
      refine Ev.neg (by rw [hxe]; simp [hp]) (Ev.const ?_)
      simp [cntDependS, markedDependS, hxe]
    | succ d ih =>
      intro x i p q b hxe hp hq hxl hb b0 b1
      obtain ⟨z, q, rfl⟩ : ∃ z t, q = z :: t := by cases q with
        | nil => simp at hq
        | cons z t => exact ⟨z, t, rfl⟩
      have hlen : x.length = i + (d + 1) := by rw [hxe, List.length_append, hp, hq]
      have hr : rd_T44 x (i : Int) = z := by rw [hxe]; simp [rd_T44, ← hp]
      obtain ⟨c0, c1⟩ := hb z List.mem_cons_self
      have hc : cntDependS (z :: q) = (z.f0.length : Int) + (z.f1.length : Int) + cntDependS q := by unfold cntDependS; rw [List.map_cons, List.sum_cons]; omega
      have hn : 0 ≤ cntDependS q := by unfold cntDependS; omega
      rw [hc] at b1
      refine Ev.succ ?_
      simp only [laws_markDependS.l0]
      rw [hr, wrap_add (by omega) (by omega)]
      refine Ev.pos (by omega) (Ev.pos (by omega) (Ev.bind (markIntS_ev _ b c0 b0 (by omega)) (Ev.bind (markIntS_ev _ (b + (z.f0.length : Int)) c1 (by omega) (by omega)) ?_)))
      have hset : x.set (i : Int).toNat ⟨markedIntS z.f0.length b, markedIntS z.f1.length (b + (z.f0.length : Int))⟩ = (p ++ [⟨markedIntS z.f0.length b, markedIntS z.f1.length (b + (z.f0.length : Int))⟩]) ++ q := by
        rw [hxe, Int.toNat_natCast, ← hp]; simp
      rw [hset]
      have := ih _ (i + 1) (p ++ [⟨markedIntS z.f0.length b, markedIntS z.f1.length (b + (z.f0.length : Int))⟩]) q (b + (z.f0.length : Int) + (z.f1.length : Int)) rfl (by simp [hp]) (by simpa using hq) (by simp at hlen hq ⊢; omega) (fun y hy => hb y (List.mem_cons_of_mem _ hy)) (by omega) (by omega)
      have e1 : b + (z.f0.length : Int) + (z.f1.length : Int) + cntDependS q = b + cntDependS (z :: q) := by rw [hc]; omega
      rw [e1] at this
      simpa [markedDependS, List.append_assoc] using this
  exact key l.length l 0 [] l a rfl rfl rfl hl hx h0 h1
theorem cntDependS_sz {l : List S80} (h : szOk_laws_szDependS l) : 0 ≤ cntDependS (cvDependS l) ∧ cntDependS (cvDependS l) ≤ 16777216 := by
  unfold szOk_laws_szDependS at h
  have : cntDependS (cvDependS l) = (((l.map wtD).sum : Nat) : Int) := by
    unfold cntDependS cvDependS
    rw [List.map_map]; rfl
  rw [this]; omega
theorem laws_markDependS_x (l : List S44) (a : Int) (h : okDependS l) (h0 : 0 ≤ a) (h1 : a + cntDependS l ≤ 1099511627776) : ∃ k, laws_markDependS.f k l a = some (a + cntDependS l, markedDependS l a) := (markDependS_ev l a h.1 h.2 h0 h1).rounds
/-- THE ONE PURE STATEMENT of laws_FnExactSplitBy: what the reference tells, the program tells. -/
def laws_FnExactSplitBy.Pure : Prop := ∀ (l0 : List (S80)) (a1 : Int) (l2 : List Int) (l3 : List Int), (l0.length ≤ maxLen ∧ ∀ x_, x_ ∈ l0 → (x_.f0.length ≤ maxLen ∧ ∀ x__, x__ ∈ x_.f0 → (Lit.int .i64 x__).wf = true) ∧ (x_.f1.length ≤ maxLen ∧ ∀ x__, x__ ∈ x_.f1 → (Lit.int .i64 x__).wf = true)) → ((Lit.int .i64 a1).wf = true) → (l2.length ≤ maxLen ∧ ∀ x_, x_ ∈ l2 → (Lit.int .i64 x_).wf = true) → (l3.length ≤ maxLen ∧ ∀ x_, x_ ∈ l3 → (Lit.int .i64 x_).wf = true) → l2.length ≤ 1048576 → l3.length ≤ 1048576 → szOk_laws_szDependS l0 → ∃ (k : Nat) (r : (List Int) × (List Int) × Bool), spec_SplitBy.f k (cvDependS l0) a1 l2 l3 = some r ∧ impl_SplitBy.f k (cvDependS l0) a1 l2 l3 = some r ∧ r.1.length ≤ 1048576 ∧ r.2.1.length ≤ 1048576
set_option maxHeartbeats 16000000 in
set_option maxRecDepth 100000 in
theorem laws_FnExactSplitBy.walk (P : laws_FnExactSplitBy.Pure) (A0 : Option Addr) (c0 : Nat) (l0 : List (S80)) (a1 : Int) (A2 : Option Addr) (c2 : Nat) (l2 : List Int) (A3 : Option Addr) (c3 : Nat) (l3 : List Int) (w : World) (hr0 : Kd.C k80 w A0 l0.length l0) (hc0 : l0.length ≤ c0) (hr2 : Kd.C (Kd.int .i64) w A2 l2.length l2) (hc2 : l2.length ≤ c2) (hr3 : Kd.C (Kd.int .i64) w A3 l3.length l3) (hc3 : l3.length ≤ c3) (wq0 : l0.length ≤ maxLen ∧ ∀ x_, x_ ∈ l0 → (x_.f0.length ≤ maxLen ∧ ∀ x__, x__ ∈ x_.f0 → (Lit.int .i64 x__).wf = true) ∧ (x_.f1.length ≤ maxLen ∧ ∀ x__, x__ ∈ x_.f1 → (Lit.int .i64 x__).wf = true)) (wq1 : (Lit.int .i64 a1).wf = true) (wq2 : l2.length ≤ maxLen ∧ ∀ x_, x_ ∈ l2 → (Lit.int .i64 x_).wf = true) (wq3 : l3.length ≤ maxLen ∧ ∀ x_, x_ ∈ l3 → (Lit.int .i64 x_).wf = true) :
    Calls Try.prog 4 #[.slice A0 l0.length c0, .int .i64 a1, .slice A2 l2.length c2, .slice A3 l3.length c3] w fun e w' => e = .returned (.bool true) ∧ Below w.heap.size w w' := by
  have HR0 := Aside0.mk hr0
  have HC0 := Aside0.mk hc0
  clear hr0 hc0
  have HR2 := Aside0.mk hr2
  have HC2 := Aside0.mk hc2
  clear hr2 hc2
  have HR3 := Aside0.mk hr3
  have HC3 := Aside0.mk hc3
  clear hr3 hc3
  have HB := Aside0.mk (Below.refl w.heap.size w)
  by_cases g0_ : (l2.length : Int) > 1048576
  · have g0_b : decide ((l2.length : Int) > 1048576) = true := decide_eq_true g0_
    clear g0_
    go_enter Try.func4, Try.ntmps4
    go_wp2
    go_ret
    exact ⟨rfl, HB.out⟩
  have g0_b : decide ((l2.length : Int) > 1048576) = false := decide_eq_false g0_
  by_cases g1_ : (l3.length : Int) > 1048576
  · have g1_b : decide ((l3.length : Int) > 1048576) = true := decide_eq_true g1_
    clear g1_
    go_enter Try.func4, Try.ntmps4
    go_wp2
    go_ret
    exact ⟨rfl, HB.out⟩
  have g1_b : decide ((l3.length : Int) > 1048576) = false := decide_eq_false g1_
  obtain ⟨s1_, Nr1_, q1_⟩ := laws_szDependS_x l0 1048576 (by omega) (by omega) wq0
  obtain ⟨kz1_, Nr1_⟩ := Nr1_
  have N1 := Aside0.mk Nr1_
  clear Nr1_
  by_cases g2_ : s1_ < 0
  · have g2_b : decide (s1_ < 0) = true := decide_eq_true g2_
    clear g2_ q1_
    go_enter Try.func4, Try.ntmps4
    go_wp2_with (first | ((with_reducible refine gate_callee (f := 13) rfl ?_); refine goesL_ (some 33) rfl rfl Try.func13 (by kernel_rfl) rfl #[.slice A0 l0.length c0, .int .i64 1048576] rfl (by (try simp only [List.map_toArray, List.map_cons, List.map_nil]); first | done | rfl | (simp only [List.length_drop, List.length_take]; rfl)) ?_; (with_reducible refine (laws_szDependS.calls (hr0 := Kd.C_below HR0.out HB.out) (hc0 := HC0.out) (h := N1.out)).mono ?_); rintro e w1 ⟨rfl, hb⟩; have HST := Aside0.mk (hb); have HB1 := Aside0.mk (below_step HB.out HST.out); have HS1 := Aside0.mk (show w.heap.size ≤ w1.heap.size from HST.out.size); clear hb HST; refine ⟨_, rfl, ?_⟩))
    go_ret
    exact ⟨rfl, HB1.out⟩
  have g2_b : decide (s1_ < 0) = false := decide_eq_false g2_
  have hz1_ : szOk_laws_szDependS l0 := by rcases q1_ with h_ | h_; exact absurd h_ g2_; exact h_.1
  have hs1_ : 0 ≤ s1_ ∧ s1_ ≤ 1048576 := by rcases q1_ with h_ | h_; exact absurd h_ g2_; exact h_.2
  clear q1_
  obtain ⟨k_, ⟨o0_, o1_, o2_⟩, P1, P2, P3, P4⟩ := P l0 a1 l2 l3 wq0 wq1 wq2 wq3 (by omega) (by omega) hz1_
  replace P3 : o0_.length ≤ 1048576 := P3
  replace P4 : o1_.length ≤ 1048576 := P4
  obtain ⟨k2_, Nr2_⟩ := laws_toDependS_x l0 hz1_
  obtain ⟨k3_, Nr3_⟩ := laws_toIntS_x l2 (show l2.length ≤ 1048576 by omega)
  obtain ⟨k4_, Nr4_⟩ := laws_toIntS_x l3 (show l3.length ≤ 1048576 by omega)
  have Nr5_ := P1
  obtain ⟨k6_, Nr6_⟩ := laws_toDependS_x l0 hz1_
  obtain ⟨k7_, Nr7_⟩ := laws_toIntS_x l2 (show l2.length ≤ 1048576 by omega)
  obtain ⟨k8_, Nr8_⟩ := laws_toIntS_x l3 (show l3.length ≤ 1048576 by omega)
  have Nr9_ := P2
  obtain ⟨k10_, Nr10_⟩ := laws_eqIntS_x o0_ P3
  obtain ⟨k11_, Nr11_⟩ := laws_eqIntS_x o1_ P4
  obtain ⟨k12_, Nr12_⟩ := laws_toDependS_x l0 hz1_
  obtain ⟨k13_, Nr13_⟩ := laws_eqDependS_x (cvDependS l0) (okDependS_cv hz1_)
  obtain ⟨k14_, Nr14_⟩ := laws_toIntS_x l2 (show l2.length ≤ 1048576 by omega)
  obtain ⟨k15_, Nr15_⟩ := laws_eqIntS_x l2 (show l2.length ≤ 1048576 by omega)
  obtain ⟨k16_, Nr16_⟩ := laws_toIntS_x l3 (show l3.length ≤ 1048576 by omega)
  obtain ⟨k17_, Nr17_⟩ := laws_eqIntS_x l3 (show l3.length ≤ 1048576 by omega)
  have hb18_ := cntDependS_sz hz1_
  obtain ⟨k18_, Nr18_⟩ := laws_markDependS_x (cvDependS l0) 1 (okDependS_cv hz1_) (by omega) (by omega)
  obtain ⟨m18_, hm18_⟩ : ∃ z_, z_ = 1 + cntDependS (cvDependS l0) := ⟨_, rfl⟩
  rw [← hm18_] at Nr18_
  obtain ⟨y18_0, hy18_0⟩ : ∃ z_, z_ = markedDependS (cvDependS l0) 1 := ⟨_, rfl⟩
  rw [← hy18_0] at Nr18_
  clear hy18_0
  have hb19_ := cntIntS_le _ (show l2.length ≤ 1048576 by omega)
  obtain ⟨k19_, Nr19_⟩ := laws_markIntS_x l2 m18_ (show l2.length ≤ 1048576 by omega) (by omega) (by omega)
  obtain ⟨m19_, hm19_⟩ : ∃ z_, z_ = m18_ + cntIntS l2 := ⟨_, rfl⟩
  rw [← hm19_] at Nr19_
  obtain ⟨y19_0, hy19_0⟩ : ∃ z_, z_ = markedIntS l2.length m18_ := ⟨_, rfl⟩
  rw [← hy19_0] at Nr19_
  clear hy19_0
  have hb20_ := cntIntS_le _ (show l3.length ≤ 1048576 by omega)
  obtain ⟨k20_, Nr20_⟩ := laws_markIntS_x l3 m19_ (show l3.length ≤ 1048576 by omega) (by omega) (by omega)
  obtain ⟨m20_, hm20_⟩ : ∃ z_, z_ = m19_ + cntIntS l3 := ⟨_, rfl⟩
  rw [← hm20_] at Nr20_
  obtain ⟨y20_0, hy20_0⟩ : ∃ z_, z_ = markedIntS l3.length m19_ := ⟨_, rfl⟩
  rw [← hy20_0] at Nr20_
  clear hy20_0
  obtain ⟨k21_, Nr21_⟩ := laws_eqIntS_x o0_ P3
  obtain ⟨k22_, Nr22_⟩ := laws_eqIntS_x o1_ P4
  have hb23_ := cntIntS_ok _ P3
  obtain ⟨k23_, Nr23_⟩ := laws_markIntS_x o0_ 1 P3 (by omega) (by omega)
  obtain ⟨k25_, Nr25_⟩ := laws_heldIntS_x o0_ 1 P3 (by omega) (by omega)
  obtain ⟨m23_, hm23_⟩ : ∃ z_, z_ = 1 + cntIntS o0_ := ⟨_, rfl⟩
  rw [← hm23_] at Nr23_ Nr25_
  obtain ⟨y23_0, hy23_0⟩ : ∃ z_, z_ = markedIntS o0_.length 1 := ⟨_, rfl⟩
  rw [← hy23_0] at Nr23_ Nr25_
  clear hy23_0
  have Nr33_ := Nr25_
  have hb24_ := cntIntS_ok _ P4
  obtain ⟨k24_, Nr24_⟩ := laws_markIntS_x o1_ m23_ P4 (by omega) (by omega)
  obtain ⟨k26_, Nr26_⟩ := laws_heldIntS_x o1_ m23_ P4 (by omega) (by omega)
  obtain ⟨m24_, hm24_⟩ : ∃ z_, z_ = m23_ + cntIntS o1_ := ⟨_, rfl⟩
  rw [← hm24_] at Nr24_ Nr26_
  obtain ⟨y24_0, hy24_0⟩ : ∃ z_, z_ = markedIntS o1_.length m23_ := ⟨_, rfl⟩
  rw [← hy24_0] at Nr24_ Nr26_
  clear hy24_0
  have Nr34_ := Nr26_
  obtain ⟨k27_, Nr27_⟩ := laws_toDependS_x l0 hz1_
  obtain ⟨k28_, Nr28_⟩ := laws_toIntS_x l2 (show l2.length ≤ 1048576 by omega)
  obtain ⟨k29_, Nr29_⟩ := laws_toIntS_x l3 (show l3.length ≤ 1048576 by omega)
  have Nr30_ := P2
  obtain ⟨k31_, Nr31_⟩ := laws_eqIntS_x o0_ P3
  obtain ⟨k32_, Nr32_⟩ := laws_eqIntS_x o1_ P4
  have N2 := Aside0.mk Nr2_
  have N3 := Aside0.mk Nr3_
  have N4 := Aside0.mk Nr4_
  have N5 := Aside0.mk Nr5_
  have N6 := Aside0.mk Nr6_
  have N7 := Aside0.mk Nr7_
  have N8 := Aside0.mk Nr8_
  have N9 := Aside0.mk Nr9_
  have N10 := Aside0.mk Nr10_
  have N11 := Aside0.mk Nr11_
  have N12 := Aside0.mk Nr12_
  have N13 := Aside0.mk Nr13_
  have N14 := Aside0.mk Nr14_
  have N15 := Aside0.mk Nr15_
  have N16 := Aside0.mk Nr16_
  have N17 := Aside0.mk Nr17_
  have N18 := Aside0.mk Nr18_
  have N19 := Aside0.mk Nr19_
  have N20 := Aside0.mk Nr20_
  have N21 := Aside0.mk Nr21_
  have N22 := Aside0.mk Nr22_
  have N23 := Aside0.mk Nr23_
  have N24 := Aside0.mk Nr24_
  have N25 := Aside0.mk Nr25_
  have N26 := Aside0.mk Nr26_
  have N27 := Aside0.mk Nr27_
  have N28 := Aside0.mk Nr28_
  have N29 := Aside0.mk Nr29_
  have N30 := Aside0.mk Nr30_
  have N31 := Aside0.mk Nr31_
  have N32 := Aside0.mk Nr32_
  have N33 := Aside0.mk Nr33_
  have N34 := Aside0.mk Nr34_
  have cdm20_ : decide (m20_ < 0) = false := decide_eq_false (by omega)
  have cdm23_ : decide (m23_ < 0) = false := decide_eq_false (by omega)
  have cdm24_ : decide (m24_ < 0) = false := decide_eq_false (by omega)
  have cnm24_ : (m24_ != m24_) = false := bne_self_eq_false _
  have cno2_ : (o2_ != o2_) = false := bne_self_eq_false _
  clear P1 P2 P3 P4 Nr2_ Nr3_ Nr4_ Nr5_ Nr6_ Nr7_ Nr8_ Nr9_ Nr10_ Nr11_ Nr12_ Nr13_ Nr14_ Nr15_ Nr16_ Nr17_ Nr18_ Nr19_ Nr20_ Nr21_ Nr22_ Nr23_ Nr24_ Nr25_ Nr26_ Nr27_ Nr28_ Nr29_ Nr30_ Nr31_ Nr32_ Nr33_ Nr34_ hm18_ hb18_ hm19_ hb19_ hm20_ hb20_ hm23_ hb23_ hm24_ hb24_
  clear P g0_ g1_ g2_ hz1_ hs1_ wq0 wq1 wq2 wq3
  go_enter Try.func4, Try.ntmps4
  go_upto_region 7 with (first | ((with_reducible refine gate_callee (f := 13) rfl ?_); refine goesL_ (some 33) rfl rfl Try.func13 (by kernel_rfl) rfl #[.slice A0 l0.length c0, .int .i64 1048576] rfl (by (try simp only [List.map_toArray, List.map_cons, List.map_nil]); first | done | rfl | (simp only [List.length_drop, List.length_take]; rfl)) ?_; (with_reducible refine (laws_szDependS.calls (hr0 := Kd.C_below HR0.out HB.out) (hc0 := HC0.out) (h := N1.out)).mono ?_); rintro e w1 ⟨rfl, hb⟩; have HST := Aside0.mk (hb); have HB1 := Aside0.mk (below_step HB.out HST.out); have HS1 := Aside0.mk (show w.heap.size ≤ w1.heap.size from HST.out.size); clear hb HST; refine ⟨_, rfl, ?_⟩))
  go_upto_region 10 with (first | ((with_reducible refine gate_callee (f := 15) rfl ?_); refine goesL_ (some 38) rfl rfl Try.func15 (by kernel_rfl) rfl #[.slice A0 l0.length c0] rfl (by (try simp only [List.map_toArray, List.map_cons, List.map_nil]); first | done | rfl | (simp only [List.length_drop, List.length_take]; rfl)) ?_; (with_reducible refine (laws_toDependS.calls (hr0 := Kd.C_below HR0.out HB1.out) (hc0 := HC0.out) (h := N2.out)).mono ?_); rintro e w2 ⟨v0_, rfl, ho0, hb⟩; have HST := Aside0.mk (hb); have HB2 := Aside0.mk (below_step HB1.out HST.out); have HS2 := Aside0.mk (show w1.heap.size ≤ w2.heap.size from HST.out.size); obtain ⟨Af1, cf1, ef1⟩ := Kd.S_slice ho0; subst ef1; have F1 := Aside0.mk (show Kd.S k44 44 w2 w.heap.size (fun k_ => w1.heap.size ≤ k_ ∧ k_ < w2.heap.size) (.slice Af1 (cvDependS l0).length cf1) (cvDependS l0) from Kd.S_lower (Kd.S_mono (Kd.S_bound ho0) (fun k_ hk_ => ⟨hk_.2.1, hk_.2.2.1⟩)) (below_size HB1.out)); clear hb HST ho0; clear HB1; refine ⟨_, rfl, ?_⟩) | ((with_reducible refine gate_callee (f := 16) rfl ?_); refine goesL_ (some 41) rfl rfl Try.func16 (by kernel_rfl) rfl #[.slice A2 l2.length c2] rfl (by (try simp only [List.map_toArray, List.map_cons, List.map_nil]); first | done | rfl | (simp only [List.length_drop, List.length_take]; rfl)) ?_; (with_reducible refine (laws_toIntS.calls (hr0 := Kd.C_below HR2.out HB2.out) (hc0 := HC2.out) (h := N3.out)).mono ?_); rintro e w3 ⟨v0_, rfl, ho0, hb⟩; have HST := Aside0.mk (hb); have HB3 := Aside0.mk (below_step HB2.out HST.out); have HS3 := Aside0.mk (show w2.heap.size ≤ w3.heap.size from HST.out.size); obtain ⟨Af2, cf2, ef2⟩ := Kd.R_slice ho0; subst ef2; have F2 := Aside0.mk (show Kd.R (Kd.int .i64) 3 w3 w.heap.size (fun k_ => w2.heap.size ≤ k_ ∧ k_ < w3.heap.size) (.slice Af2 l2.length cf2) l2 from Kd.R_lower (Kd.R_mono (Kd.R_bound ho0) (fun k_ hk_ => ⟨hk_.2.1, hk_.2.2.1⟩)) (below_size HB2.out)); have F1_ := Aside0.mk (Kd.S_below F1.out HST.out); clear F1; have F1 := F1_; clear F1_; clear hb HST ho0; clear HB2; refine ⟨_, rfl, ?_⟩) | ((with_reducible refine gate_callee (f := 16) rfl ?_); refine goesL_ (some 43) rfl rfl Try.func16 (by kernel_rfl) rfl #[.slice A3 l3.length c3] rfl (by (try simp only [List.map_toArray, List.map_cons, List.map_nil]); first | done | rfl | (simp only [List.length_drop, List.length_take]; rfl)) ?_; (with_reducible refine (laws_toIntS.calls (hr0 := Kd.C_below HR3.out HB3.out) (hc0 := HC3.out) (h := N4.out)).mono ?_); rintro e w4 ⟨v0_, rfl, ho0, hb⟩; have HST := Aside0.mk (hb); have HB4 := Aside0.mk (below_step HB3.out HST.out); have HS4 := Aside0.mk (show w3.heap.size ≤ w4.heap.size from HST.out.size); obtain ⟨Af3, cf3, ef3⟩ := Kd.R_slice ho0; subst ef3; have F3 := Aside0.mk (show Kd.R (Kd.int .i64) 3 w4 w.heap.size (fun k_ => w3.heap.size ≤ k_ ∧ k_ < w4.heap.size) (.slice Af3 l3.length cf3) l3 from Kd.R_lower (Kd.R_mono (Kd.R_bound ho0) (fun k_ hk_ => ⟨hk_.2.1, hk_.2.2.1⟩)) (below_size HB3.out)); have F1_ := Aside0.mk (Kd.S_below F1.out HST.out); clear F1; have F1 := F1_; clear F1_; have F2_ := Aside0.mk (Kd.R_below F2.out HST.out); clear F2; have F2 := F2_; clear F2_; clear hb HST ho0; clear HB3; refine ⟨_, rfl, ?_⟩) | ((with_reducible refine gate_callee (f := 23) rfl ?_); refine goesL_ (some 44) rfl rfl Try.func23 (by kernel_rfl) rfl #[.slice Af1 (cvDependS l0).length cf1, .int .i64 a1, .slice Af2 l2.length cf2, .slice Af3 l3.length cf3] rfl (by (try simp only [List.map_toArray, List.map_cons, List.map_nil]); first | done | rfl | (simp only [List.length_drop, List.length_take]; rfl)) ?_; (with_reducible refine (spec_SplitBy.calls (hr0 := (Kd.S_reads' F1.out).2.2) (hc0 := (Kd.S_reads' F1.out).2.1) (hr2 := (Kd.R_reads' F2.out).2.2) (hc2 := (Kd.R_reads' F2.out).2.1) (hr3 := (Kd.R_reads' F3.out).2.2) (hc3 := (Kd.R_reads' F3.out).2.1) (h := N5.out)).mono ?_); rintro e w5 ⟨v0_, v1_, rfl, ho0, ho1, hb⟩; have HST := Aside0.mk (hb); have HB5 := Aside0.mk (below_step HB4.out HST.out); have HS5 := Aside0.mk (show w4.heap.size ≤ w5.heap.size from HST.out.size); obtain ⟨Af4, cf4, ef4⟩ := Kd.R_slice ho0; subst ef4; obtain ⟨Af5, cf5, ef5⟩ := Kd.R_slice ho1; subst ef5; have F4 := Aside0.mk (show Kd.R (Kd.int .i64) 3 w5 w.heap.size (fun k_ => w4.heap.size ≤ k_ ∧ k_ < w5.heap.size ∧ some k_ = (.slice Af4 o0_.length cf4 : Value).ownBlock) (.slice Af4 o0_.length cf4) o0_ from Kd.R_lower (Kd.R_mono (Kd.R_bound (Kd.R_tight rfl ho0)) (fun k_ hk_ => ⟨hk_.2.1, hk_.2.2.1, hk_.1⟩)) (below_size HB4.out)); have HN4_5 := Aside0.mk (show ∀ k_, some k_ = (.slice Af4 o0_.length cf4 : Value).ownBlock → ¬ some k_ = (.slice Af5 o1_.length cf5 : Value).ownBlock from fun k_ a_ b_ => by have h_ := ho0.1 k_ a_.symm; first | exact h_ b_ | exact h_.1 b_ | exact h_.2 b_ | exact h_.2.1 b_ | exact h_.2.2 b_ | simp_all); have F5 := Aside0.mk (show Kd.R (Kd.int .i64) 3 w5 w.heap.size (fun k_ => w4.heap.size ≤ k_ ∧ k_ < w5.heap.size ∧ some k_ = (.slice Af5 o1_.length cf5 : Value).ownBlock) (.slice Af5 o1_.length cf5) o1_ from Kd.R_lower (Kd.R_mono (Kd.R_bound (Kd.R_tight rfl ho1)) (fun k_ hk_ => ⟨hk_.2.1, hk_.2.2.1, hk_.1⟩)) (below_size HB4.out)); have HN5_4 := Aside0.mk (show ∀ k_, some k_ = (.slice Af5 o1_.length cf5 : Value).ownBlock → ¬ some k_ = (.slice Af4 o0_.length cf4 : Value).ownBlock from fun k_ a_ b_ => by have h_ := ho1.1 k_ a_.symm; first | exact h_ b_ | exact h_.1 b_ | exact h_.2 b_ | exact h_.2.1 b_ | exact h_.2.2 b_ | simp_all); clear F1; clear F2; clear F3; clear hb HST ho0 ho1; clear HB4; refine ⟨_, rfl, ?_⟩))
  go_upto_region 11 with (first | ((with_reducible refine gate_callee (f := 15) rfl ?_); refine goesL_ (some 49) rfl rfl Try.func15 (by kernel_rfl) rfl #[.slice A0 l0.length c0] rfl (by (try simp only [List.map_toArray, List.map_cons, List.map_nil]); first | done | rfl | (simp only [List.length_drop, List.length_take]; rfl)) ?_; (with_reducible refine (laws_toDependS.calls (hr0 := Kd.C_below HR0.out HB5.out) (hc0 := HC0.out) (h := N6.out)).mono ?_); rintro e w6 ⟨v0_, rfl, ho0, hb⟩; have HST := Aside0.mk (hb); have HB6 := Aside0.mk (below_step HB5.out HST.out); have HS6 := Aside0.mk (show w5.heap.size ≤ w6.heap.size from HST.out.size); obtain ⟨Af6, cf6, ef6⟩ := Kd.S_slice ho0; subst ef6; have F6 := Aside0.mk (show Kd.S k44 44 w6 w.heap.size (fun k_ => w5.heap.size ≤ k_ ∧ k_ < w6.heap.size) (.slice Af6 (cvDependS l0).length cf6) (cvDependS l0) from Kd.S_lower (Kd.S_mono (Kd.S_bound ho0) (fun k_ hk_ => ⟨hk_.2.1, hk_.2.2.1⟩)) (below_size HB5.out)); have F4_ := Aside0.mk (Kd.R_below F4.out HST.out); clear F4; have F4 := F4_; clear F4_; have F5_ := Aside0.mk (Kd.R_below F5.out HST.out); clear F5; have F5 := F5_; clear F5_; clear hb HST ho0; clear HB5; refine ⟨_, rfl, ?_⟩))
  go_upto_region 12 with (first | ((with_reducible refine gate_callee (f := 16) rfl ?_); refine goesL_ (some 51) rfl rfl Try.func16 (by kernel_rfl) rfl #[.slice A2 l2.length c2] rfl (by (try simp only [List.map_toArray, List.map_cons, List.map_nil]); first | done | rfl | (simp only [List.length_drop, List.length_take]; rfl)) ?_; (with_reducible refine (laws_toIntS.calls (hr0 := Kd.C_below HR2.out HB6.out) (hc0 := HC2.out) (h := N7.out)).mono ?_); rintro e w7 ⟨v0_, rfl, ho0, hb⟩; have HST := Aside0.mk (hb); have HB7 := Aside0.mk (below_step HB6.out HST.out); have HS7 := Aside0.mk (show w6.heap.size ≤ w7.heap.size from HST.out.size); obtain ⟨Af7, cf7, ef7⟩ := Kd.R_slice ho0; subst ef7; have F7 := Aside0.mk (show Kd.R (Kd.int .i64) 3 w7 w.heap.size (fun k_ => w6.heap.size ≤ k_ ∧ k_ < w7.heap.size) (.slice Af7 l2.length cf7) l2 from Kd.R_lower (Kd.R_mono (Kd.R_bound ho0) (fun k_ hk_ => ⟨hk_.2.1, hk_.2.2.1⟩)) (below_size HB6.out)); have F4_ := Aside0.mk (Kd.R_below F4.out HST.out); clear F4; have F4 := F4_; clear F4_; have F5_ := Aside0.mk (Kd.R_below F5.out HST.out); clear F5; have F5 := F5_; clear F5_; have F6_ := Aside0.mk (Kd.S_below F6.out HST.out); clear F6; have F6 := F6_; clear F6_; clear hb HST ho0; clear HB6; refine ⟨_, rfl, ?_⟩))
  go_upto_region 13 with (first | ((with_reducible refine gate_callee (f := 16) rfl ?_); refine goesL_ (some 53) rfl rfl Try.func16 (by kernel_rfl) rfl #[.slice A3 l3.length c3] rfl (by (try simp only [List.map_toArray, List.map_cons, List.map_nil]); first | done | rfl | (simp only [List.length_drop, List.length_take]; rfl)) ?_; (with_reducible refine (laws_toIntS.calls (hr0 := Kd.C_below HR3.out HB7.out) (hc0 := HC3.out) (h := N8.out)).mono ?_); rintro e w8 ⟨v0_, rfl, ho0, hb⟩; have HST := Aside0.mk (hb); have HB8 := Aside0.mk (below_step HB7.out HST.out); have HS8 := Aside0.mk (show w7.heap.size ≤ w8.heap.size from HST.out.size); obtain ⟨Af8, cf8, ef8⟩ := Kd.R_slice ho0; subst ef8; have F8 := Aside0.mk (show Kd.R (Kd.int .i64) 3 w8 w.heap.size (fun k_ => w7.heap.size ≤ k_ ∧ k_ < w8.heap.size) (.slice Af8 l3.length cf8) l3 from Kd.R_lower (Kd.R_mono (Kd.R_bound ho0) (fun k_ hk_ => ⟨hk_.2.1, hk_.2.2.1⟩)) (below_size HB7.out)); have F4_ := Aside0.mk (Kd.R_below F4.out HST.out); clear F4; have F4 := F4_; clear F4_; have F5_ := Aside0.mk (Kd.R_below F5.out HST.out); clear F5; have F5 := F5_; clear F5_; have F6_ := Aside0.mk (Kd.S_below F6.out HST.out); clear F6; have F6 := F6_; clear F6_; have F7_ := Aside0.mk (Kd.R_below F7.out HST.out); clear F7; have F7 := F7_; clear F7_; clear hb HST ho0; clear HB7; refine ⟨_, rfl, ?_⟩))
  go_upto_region 14 with (first | ((with_reducible refine gate_callee (f := 24) rfl ?_); refine goesL_ (some 59) rfl rfl Try.func24 (by kernel_rfl) rfl #[.slice Af6 (cvDependS l0).length cf6, .int .i64 a1, .slice Af7 l2.length cf7, .slice Af8 l3.length cf8] rfl (by (try simp only [List.map_toArray, List.map_cons, List.map_nil]); first | done | rfl | (simp only [List.length_drop, List.length_take]; rfl)) ?_; (with_reducible refine (impl_SplitBy.calls (hr0 := (Kd.S_reads' F6.out).2.2) (hc0 := (Kd.S_reads' F6.out).2.1) (hr2 := (Kd.R_reads' F7.out).2.2) (hc2 := (Kd.R_reads' F7.out).2.1) (hr3 := (Kd.R_reads' F8.out).2.2) (hc3 := (Kd.R_reads' F8.out).2.1) (h := N9.out)).mono ?_); rintro e w9 ⟨v0_, v1_, rfl, ho0, ho1, hb⟩; have HST := Aside0.mk (hb); have HB9 := Aside0.mk (below_step HB8.out HST.out); have HS9 := Aside0.mk (show w8.heap.size ≤ w9.heap.size from HST.out.size); obtain ⟨Af9, cf9, ef9⟩ := Kd.R_slice ho0; subst ef9; obtain ⟨Af10, cf10, ef10⟩ := Kd.R_slice ho1; subst ef10; have F9 := Aside0.mk (show Kd.R (Kd.int .i64) 3 w9 w.heap.size (fun k_ => w8.heap.size ≤ k_ ∧ k_ < w9.heap.size ∧ some k_ = (.slice Af9 o0_.length cf9 : Value).ownBlock) (.slice Af9 o0_.length cf9) o0_ from Kd.R_lower (Kd.R_mono (Kd.R_bound (Kd.R_tight rfl ho0)) (fun k_ hk_ => ⟨hk_.2.1, hk_.2.2.1, hk_.1⟩)) (below_size HB8.out)); have HN9_10 := Aside0.mk (show ∀ k_, some k_ = (.slice Af9 o0_.length cf9 : Value).ownBlock → ¬ some k_ = (.slice Af10 o1_.length cf10 : Value).ownBlock from fun k_ a_ b_ => by have h_ := ho0.1 k_ a_.symm; first | exact h_ b_ | exact h_.1 b_ | exact h_.2 b_ | exact h_.2.1 b_ | exact h_.2.2 b_ | simp_all); have F10 := Aside0.mk (show Kd.R (Kd.int .i64) 3 w9 w.heap.size (fun k_ => w8.heap.size ≤ k_ ∧ k_ < w9.heap.size ∧ some k_ = (.slice Af10 o1_.length cf10 : Value).ownBlock) (.slice Af10 o1_.length cf10) o1_ from Kd.R_lower (Kd.R_mono (Kd.R_bound (Kd.R_tight rfl ho1)) (fun k_ hk_ => ⟨hk_.2.1, hk_.2.2.1, hk_.1⟩)) (below_size HB8.out)); have HN10_9 := Aside0.mk (show ∀ k_, some k_ = (.slice Af10 o1_.length cf10 : Value).ownBlock → ¬ some k_ = (.slice Af9 o0_.length cf9 : Value).ownBlock from fun k_ a_ b_ => by have h_ := ho1.1 k_ a_.symm; first | exact h_ b_ | exact h_.1 b_ | exact h_.2 b_ | exact h_.2.1 b_ | exact h_.2.2 b_ | simp_all); have F4_ := Aside0.mk (Kd.R_below F4.out HST.out); clear F4; have F4 := F4_; clear F4_; have F5_ := Aside0.mk (Kd.R_below F5.out HST.out); clear F5; have F5 := F5_; clear F5_; have F6_ := Aside0.mk (Kd.S_below F6.out HST.out); clear F6; have F6 := F6_; clear F6_; have F7_ := Aside0.mk (Kd.R_below F7.out HST.out); clear F7; have F7 := F7_; clear F7_; have F8_ := Aside0.mk (Kd.R_below F8.out HST.out); clear F8; have F8 := F8_; clear F8_; clear hb HST ho0 ho1; clear HB8; refine ⟨_, rfl, ?_⟩))
  go_upto_region 16 with (first | ((with_reducible refine gate_callee (f := 18) rfl ?_); refine goesL_ (some 65) rfl rfl Try.func18 (by kernel_rfl) rfl #[.slice Af9 o0_.length cf9, .slice Af4 o0_.length cf4] rfl (by (try simp only [List.map_toArray, List.map_cons, List.map_nil]); first | done | rfl | (simp only [List.length_drop, List.length_take]; rfl)) ?_; (with_reducible refine (laws_eqIntS.calls (hr0 := (Kd.R_reads' F9.out).2.2) (hc0 := (Kd.R_reads' F9.out).2.1) (hr1 := (Kd.R_reads' F4.out).2.2) (hc1 := (Kd.R_reads' F4.out).2.1) (h := N10.out)).mono ?_); rintro e w10 ⟨rfl, hdr⟩; have HST := Aside0.mk (hdr.below); have HB10 := Aside0.mk (below_step HB9.out HST.out); have HS10 := Aside0.mk (show w9.heap.size ≤ w10.heap.size from HST.out.size); have F4_ := Aside0.mk (Kd.R_below F4.out HST.out); clear F4; have F4 := F4_; clear F4_; have F5_ := Aside0.mk (Kd.R_below F5.out HST.out); clear F5; have F5 := F5_; clear F5_; have F6_ := Aside0.mk (Kd.S_below F6.out HST.out); clear F6; have F6 := F6_; clear F6_; have F7_ := Aside0.mk (Kd.R_below F7.out HST.out); clear F7; have F7 := F7_; clear F7_; have F8_ := Aside0.mk (Kd.R_below F8.out HST.out); clear F8; have F8 := F8_; clear F8_; have F9_ := Aside0.mk (Kd.R_below F9.out HST.out); clear F9; have F9 := F9_; clear F9_; have F10_ := Aside0.mk (Kd.R_below F10.out HST.out); clear F10; have F10 := F10_; clear F10_; clear hdr HST; clear HB9; refine ⟨_, rfl, ?_⟩) | (go_at_call 18; (with_reducible refine (laws_eqIntS.calls (hr0 := (Kd.R_reads' F10.out).2.2) (hc0 := (Kd.R_reads' F10.out).2.1) (hr1 := (Kd.R_reads' F5.out).2.2) (hc1 := (Kd.R_reads' F5.out).2.1) (h := N11.out)).mono ?_); rintro e w11 ⟨rfl, hdr⟩; have HST := Aside0.mk (hdr.below); have HB11 := Aside0.mk (below_step HB10.out HST.out); have HS11 := Aside0.mk (show w10.heap.size ≤ w11.heap.size from HST.out.size); have F4_ := Aside0.mk (Kd.R_below F4.out HST.out); clear F4; have F4 := F4_; clear F4_; have F5_ := Aside0.mk (Kd.R_below F5.out HST.out); clear F5; have F5 := F5_; clear F5_; have F6_ := Aside0.mk (Kd.S_below F6.out HST.out); clear F6; have F6 := F6_; clear F6_; have F7_ := Aside0.mk (Kd.R_below F7.out HST.out); clear F7; have F7 := F7_; clear F7_; have F8_ := Aside0.mk (Kd.R_below F8.out HST.out); clear F8; have F8 := F8_; clear F8_; have F9_ := Aside0.mk (Kd.R_below F9.out HST.out); clear F9; have F9 := F9_; clear F9_; have F10_ := Aside0.mk (Kd.R_below F10.out HST.out); clear F10; have F10 := F10_; clear F10_; clear hdr HST; clear HB10))
  go_upto_region 18 with (first | ((with_reducible refine gate_callee (f := 15) rfl ?_); refine goesL_ (some 80) rfl rfl Try.func15 (by kernel_rfl) rfl #[.slice A0 l0.length c0] rfl (by (try simp only [List.map_toArray, List.map_cons, List.map_nil]); first | done | rfl | (simp only [List.length_drop, List.length_take]; rfl)) ?_; (with_reducible refine (laws_toDependS.calls (hr0 := Kd.C_below HR0.out HB11.out) (hc0 := HC0.out) (h := N12.out)).mono ?_); rintro e w12 ⟨v0_, rfl, ho0, hb⟩; have HST := Aside0.mk (hb); have HB12 := Aside0.mk (below_step HB11.out HST.out); have HS12 := Aside0.mk (show w11.heap.size ≤ w12.heap.size from HST.out.size); obtain ⟨Af11, cf11, ef11⟩ := Kd.S_slice ho0; subst ef11; have F11 := Aside0.mk (show Kd.S k44 44 w12 w.heap.size (fun k_ => w11.heap.size ≤ k_ ∧ k_ < w12.heap.size) (.slice Af11 (cvDependS l0).length cf11) (cvDependS l0) from Kd.S_lower (Kd.S_mono (Kd.S_bound ho0) (fun k_ hk_ => ⟨hk_.2.1, hk_.2.2.1⟩)) (below_size HB11.out)); have F4_ := Aside0.mk (Kd.R_below F4.out HST.out); clear F4; have F4 := F4_; clear F4_; have F5_ := Aside0.mk (Kd.R_below F5.out HST.out); clear F5; have F5 := F5_; clear F5_; have F6_ := Aside0.mk (Kd.S_below F6.out HST.out); clear F6; have F6 := F6_; clear F6_; have F7_ := Aside0.mk (Kd.R_below F7.out HST.out); clear F7; have F7 := F7_; clear F7_; have F8_ := Aside0.mk (Kd.R_below F8.out HST.out); clear F8; have F8 := F8_; clear F8_; have F9_ := Aside0.mk (Kd.R_below F9.out HST.out); clear F9; have F9 := F9_; clear F9_; have F10_ := Aside0.mk (Kd.R_below F10.out HST.out); clear F10; have F10 := F10_; clear F10_; clear hb HST ho0; clear HB11; refine ⟨_, rfl, ?_⟩) | ((with_reducible refine gate_callee (f := 19) rfl ?_); refine goesL_ (some 81) rfl rfl Try.func19 (by kernel_rfl) rfl #[.slice Af6 (cvDependS l0).length cf6, .slice Af11 (cvDependS l0).length cf11] rfl (by (try simp only [List.map_toArray, List.map_cons, List.map_nil]); first | done | rfl | (simp only [List.length_drop, List.length_take]; rfl)) ?_; (with_reducible refine (laws_eqDependS.calls (hr0 := (Kd.S_reads' F6.out).2.2) (hc0 := (Kd.S_reads' F6.out).2.1) (hr1 := (Kd.S_reads' F11.out).2.2) (hc1 := (Kd.S_reads' F11.out).2.1) (h := N13.out)).mono ?_); rintro e w13 ⟨rfl, hb⟩; have HST := Aside0.mk (hb); have HB13 := Aside0.mk (below_step HB12.out HST.out); have HS13 := Aside0.mk (show w12.heap.size ≤ w13.heap.size from HST.out.size); have F4_ := Aside0.mk (Kd.R_below F4.out HST.out); clear F4; have F4 := F4_; clear F4_; have F5_ := Aside0.mk (Kd.R_below F5.out HST.out); clear F5; have F5 := F5_; clear F5_; have F6_ := Aside0.mk (Kd.S_below F6.out HST.out); clear F6; have F6 := F6_; clear F6_; have F7_ := Aside0.mk (Kd.R_below F7.out HST.out); clear F7; have F7 := F7_; clear F7_; have F8_ := Aside0.mk (Kd.R_below F8.out HST.out); clear F8; have F8 := F8_; clear F8_; have F9_ := Aside0.mk (Kd.R_below F9.out HST.out); clear F9; have F9 := F9_; clear F9_; have F10_ := Aside0.mk (Kd.R_below F10.out HST.out); clear F10; have F10 := F10_; clear F10_; clear F11; clear hb HST; clear HB12; refine ⟨_, rfl, ?_⟩))
  go_upto_region 20 with (first | ((with_reducible refine gate_callee (f := 16) rfl ?_); refine goesL_ (some 85) rfl rfl Try.func16 (by kernel_rfl) rfl #[.slice A2 l2.length c2] rfl (by (try simp only [List.map_toArray, List.map_cons, List.map_nil]); first | done | rfl | (simp only [List.length_drop, List.length_take]; rfl)) ?_; (with_reducible refine (laws_toIntS.calls (hr0 := Kd.C_below HR2.out HB13.out) (hc0 := HC2.out) (h := N14.out)).mono ?_); rintro e w14 ⟨v0_, rfl, ho0, hb⟩; have HST := Aside0.mk (hb); have HB14 := Aside0.mk (below_step HB13.out HST.out); have HS14 := Aside0.mk (show w13.heap.size ≤ w14.heap.size from HST.out.size); obtain ⟨Af12, cf12, ef12⟩ := Kd.R_slice ho0; subst ef12; have F12 := Aside0.mk (show Kd.R (Kd.int .i64) 3 w14 w.heap.size (fun k_ => w13.heap.size ≤ k_ ∧ k_ < w14.heap.size) (.slice Af12 l2.length cf12) l2 from Kd.R_lower (Kd.R_mono (Kd.R_bound ho0) (fun k_ hk_ => ⟨hk_.2.1, hk_.2.2.1⟩)) (below_size HB13.out)); have F4_ := Aside0.mk (Kd.R_below F4.out HST.out); clear F4; have F4 := F4_; clear F4_; have F5_ := Aside0.mk (Kd.R_below F5.out HST.out); clear F5; have F5 := F5_; clear F5_; have F6_ := Aside0.mk (Kd.S_below F6.out HST.out); clear F6; have F6 := F6_; clear F6_; have F7_ := Aside0.mk (Kd.R_below F7.out HST.out); clear F7; have F7 := F7_; clear F7_; have F8_ := Aside0.mk (Kd.R_below F8.out HST.out); clear F8; have F8 := F8_; clear F8_; have F9_ := Aside0.mk (Kd.R_below F9.out HST.out); clear F9; have F9 := F9_; clear F9_; have F10_ := Aside0.mk (Kd.R_below F10.out HST.out); clear F10; have F10 := F10_; clear F10_; clear hb HST ho0; clear HB13; refine ⟨_, rfl, ?_⟩) | ((with_reducible refine gate_callee (f := 18) rfl ?_); refine goesL_ (some 86) rfl rfl Try.func18 (by kernel_rfl) rfl #[.slice Af7 l2.length cf7, .slice Af12 l2.length cf12] rfl (by (try simp only [List.map_toArray, List.map_cons, List.map_nil]); first | done | rfl | (simp only [List.length_drop, List.length_take]; rfl)) ?_; (with_reducible refine (laws_eqIntS.calls (hr0 := (Kd.R_reads' F7.out).2.2) (hc0 := (Kd.R_reads' F7.out).2.1) (hr1 := (Kd.R_reads' F12.out).2.2) (hc1 := (Kd.R_reads' F12.out).2.1) (h := N15.out)).mono ?_); rintro e w15 ⟨rfl, hdr⟩; have HST := Aside0.mk (hdr.below); have HB15 := Aside0.mk (below_step HB14.out HST.out); have HS15 := Aside0.mk (show w14.heap.size ≤ w15.heap.size from HST.out.size); have F4_ := Aside0.mk (Kd.R_below F4.out HST.out); clear F4; have F4 := F4_; clear F4_; have F5_ := Aside0.mk (Kd.R_below F5.out HST.out); clear F5; have F5 := F5_; clear F5_; have F6_ := Aside0.mk (Kd.S_below F6.out HST.out); clear F6; have F6 := F6_; clear F6_; have F7_ := Aside0.mk (Kd.R_below F7.out HST.out); clear F7; have F7 := F7_; clear F7_; have F8_ := Aside0.mk (Kd.R_below F8.out HST.out); clear F8; have F8 := F8_; clear F8_; have F9_ := Aside0.mk (Kd.R_below F9.out HST.out); clear F9; have F9 := F9_; clear F9_; have F10_ := Aside0.mk (Kd.R_below F10.out HST.out); clear F10; have F10 := F10_; clear F10_; clear F12; clear hdr HST; clear HB14; refine ⟨_, rfl, ?_⟩))
  go_upto_region 22 with (first | ((with_reducible refine gate_callee (f := 16) rfl ?_); refine goesL_ (some 90) rfl rfl Try.func16 (by kernel_rfl) rfl #[.slice A3 l3.length c3] rfl (by (try simp only [List.map_toArray, List.map_cons, List.map_nil]); first | done | rfl | (simp only [List.length_drop, List.length_take]; rfl)) ?_; (with_reducible refine (laws_toIntS.calls (hr0 := Kd.C_below HR3.out HB15.out) (hc0 := HC3.out) (h := N16.out)).mono ?_); rintro e w16 ⟨v0_, rfl, ho0, hb⟩; have HST := Aside0.mk (hb); have HB16 := Aside0.mk (below_step HB15.out HST.out); have HS16 := Aside0.mk (show w15.heap.size ≤ w16.heap.size from HST.out.size); obtain ⟨Af13, cf13, ef13⟩ := Kd.R_slice ho0; subst ef13; have F13 := Aside0.mk (show Kd.R (Kd.int .i64) 3 w16 w.heap.size (fun k_ => w15.heap.size ≤ k_ ∧ k_ < w16.heap.size) (.slice Af13 l3.length cf13) l3 from Kd.R_lower (Kd.R_mono (Kd.R_bound ho0) (fun k_ hk_ => ⟨hk_.2.1, hk_.2.2.1⟩)) (below_size HB15.out)); have F4_ := Aside0.mk (Kd.R_below F4.out HST.out); clear F4; have F4 := F4_; clear F4_; have F5_ := Aside0.mk (Kd.R_below F5.out HST.out); clear F5; have F5 := F5_; clear F5_; have F6_ := Aside0.mk (Kd.S_below F6.out HST.out); clear F6; have F6 := F6_; clear F6_; have F7_ := Aside0.mk (Kd.R_below F7.out HST.out); clear F7; have F7 := F7_; clear F7_; have F8_ := Aside0.mk (Kd.R_below F8.out HST.out); clear F8; have F8 := F8_; clear F8_; have F9_ := Aside0.mk (Kd.R_below F9.out HST.out); clear F9; have F9 := F9_; clear F9_; have F10_ := Aside0.mk (Kd.R_below F10.out HST.out); clear F10; have F10 := F10_; clear F10_; clear hb HST ho0; clear HB15; refine ⟨_, rfl, ?_⟩) | ((with_reducible refine gate_callee (f := 18) rfl ?_); refine goesL_ (some 91) rfl rfl Try.func18 (by kernel_rfl) rfl #[.slice Af8 l3.length cf8, .slice Af13 l3.length cf13] rfl (by (try simp only [List.map_toArray, List.map_cons, List.map_nil]); first | done | rfl | (simp only [List.length_drop, List.length_take]; rfl)) ?_; (with_reducible refine (laws_eqIntS.calls (hr0 := (Kd.R_reads' F8.out).2.2) (hc0 := (Kd.R_reads' F8.out).2.1) (hr1 := (Kd.R_reads' F13.out).2.2) (hc1 := (Kd.R_reads' F13.out).2.1) (h := N17.out)).mono ?_); rintro e w17 ⟨rfl, hdr⟩; have HST := Aside0.mk (hdr.below); have HB17 := Aside0.mk (below_step HB16.out HST.out); have HS17 := Aside0.mk (show w16.heap.size ≤ w17.heap.size from HST.out.size); have F4_ := Aside0.mk (Kd.R_below F4.out HST.out); clear F4; have F4 := F4_; clear F4_; have F5_ := Aside0.mk (Kd.R_below F5.out HST.out); clear F5; have F5 := F5_; clear F5_; have F6_ := Aside0.mk (Kd.S_below F6.out HST.out); clear F6; have F6 := F6_; clear F6_; have F7_ := Aside0.mk (Kd.R_below F7.out HST.out); clear F7; have F7 := F7_; clear F7_; have F8_ := Aside0.mk (Kd.R_below F8.out HST.out); clear F8; have F8 := F8_; clear F8_; have F9_ := Aside0.mk (Kd.R_below F9.out HST.out); clear F9; have F9 := F9_; clear F9_; have F10_ := Aside0.mk (Kd.R_below F10.out HST.out); clear F10; have F10 := F10_; clear F10_; clear F13; clear hdr HST; clear HB16; refine ⟨_, rfl, ?_⟩))
  go_upto_region 24 with (first | ((with_reducible refine gate_callee (f := 20) rfl ?_); refine goesL_ (some 95) rfl rfl Try.func20 (by kernel_rfl) rfl #[.slice Af6 (cvDependS l0).length cf6, .int .i64 1] rfl (by (try simp only [List.map_toArray, List.map_cons, List.map_nil]); first | done | rfl | (simp only [List.length_drop, List.length_take]; rfl)) ?_; (with_reducible refine (laws_markDependS.calls (w0 := w) (hB := HB17.out) (ho0 := F6.out) (h := N18.out)).mono ?_); rintro e w18 ⟨rfl, hy0, hb, hk⟩; have HB18 := Aside0.mk hb; have HKK := Aside0.mk hk; have HS18 := Aside0.mk (show w17.heap.size ≤ w18.heap.size from hk.1); have HEy18_0 := Aside0.mk (show (cvDependS l0).length = y18_0.length from (Kd.S_reads' hy0).1); have F6_ := Aside0.mk (show Kd.S k44 44 w18 w.heap.size (fun k_ => w5.heap.size ≤ k_ ∧ k_ < w6.heap.size) (.slice Af6 y18_0.length cf6) y18_0 from by have hz_ := hy0; have he_ : (cvDependS l0).length = y18_0.length := (by have := (Kd.S_reads' hz_).1; omega); rw [← he_]; exact hz_); have F4_ := Aside0.mk (Kd.R_kept F4.out HKK.out (fun k_ h1_ => by intro h2_; exact (fun k_ h1_ h2_ => by have h3_ := h1_.1; have h4_ := h1_.2.1; have h5_ := h2_.1; have h6_ := h2_.2; skip; omega) k_ h1_ h2_)); clear F4; have F4 := F4_; clear F4_; have F5_ := Aside0.mk (Kd.R_kept F5.out HKK.out (fun k_ h1_ => by intro h2_; exact (fun k_ h1_ h2_ => by have h3_ := h1_.1; have h4_ := h1_.2.1; have h5_ := h2_.1; have h6_ := h2_.2; skip; omega) k_ h1_ h2_)); clear F5; have F5 := F5_; clear F5_; clear F6 F6_; have F7_ := Aside0.mk (Kd.R_kept F7.out HKK.out (fun k_ h1_ => by intro h2_; exact (fun k_ h1_ h2_ => by have h3_ := h1_.1; have h4_ := h1_.2; have h5_ := h2_.1; have h6_ := h2_.2; skip; omega) k_ h1_ h2_)); clear F7; have F7 := F7_; clear F7_; have F8_ := Aside0.mk (Kd.R_kept F8.out HKK.out (fun k_ h1_ => by intro h2_; exact (fun k_ h1_ h2_ => by have h3_ := h1_.1; have h4_ := h1_.2; have h5_ := h2_.1; have h6_ := h2_.2; have z7_ := HS7.out; omega) k_ h1_ h2_)); clear F8; have F8 := F8_; clear F8_; have F9_ := Aside0.mk (Kd.R_kept F9.out HKK.out (fun k_ h1_ => by intro h2_; exact (fun k_ h1_ h2_ => by have h3_ := h1_.1; have h4_ := h1_.2.1; have h5_ := h2_.1; have h6_ := h2_.2; have z7_ := HS7.out; have z8_ := HS8.out; omega) k_ h1_ h2_)); clear F9; have F9 := F9_; clear F9_; have F10_ := Aside0.mk (Kd.R_kept F10.out HKK.out (fun k_ h1_ => by intro h2_; exact (fun k_ h1_ h2_ => by have h3_ := h1_.1; have h4_ := h1_.2.1; have h5_ := h2_.1; have h6_ := h2_.2; have z7_ := HS7.out; have z8_ := HS8.out; omega) k_ h1_ h2_)); clear F10; have F10 := F10_; clear F10_; clear hb hk HKK hy0; clear HB17; refine ⟨_, rfl, ?_⟩))
  go_upto_region 25 with (first | ((with_reducible refine gate_callee (f := 21) rfl ?_); refine goesL_ (some 98) rfl rfl Try.func21 (by kernel_rfl) rfl #[.slice Af7 l2.length cf7, .int .i64 m18_] rfl (by (try simp only [List.map_toArray, List.map_cons, List.map_nil]); first | done | rfl | (simp only [List.length_drop, List.length_take]; rfl)) ?_; (with_reducible refine (laws_markIntS.calls (w0 := w) (hB := HB18.out) (ho0 := F7.out) (h := N19.out)).mono ?_); rintro e w19 ⟨rfl, hy0, hb, hk⟩; have HB19 := Aside0.mk hb; have HKK := Aside0.mk hk; have HS19 := Aside0.mk (show w18.heap.size ≤ w19.heap.size from hk.1); have HEy19_0 := Aside0.mk (show l2.length = y19_0.length from (Kd.R_reads' hy0).1); have F7_ := Aside0.mk (show Kd.R (Kd.int .i64) 3 w19 w.heap.size (fun k_ => w6.heap.size ≤ k_ ∧ k_ < w7.heap.size) (.slice Af7 y19_0.length cf7) y19_0 from by have hz_ := R_again rfl F7.out hy0; have he_ : l2.length = y19_0.length := (by have := (Kd.R_reads' hz_).1; omega); rw [← he_]; exact hz_); have F4_ := Aside0.mk (Kd.R_kept F4.out HKK.out (fun k_ h1_ => by intro h2_; exact (fun k_ h1_ h2_ => by have h3_ := h1_.1; have h4_ := h1_.2.1; have h5_ := h2_.1; have h6_ := h2_.2; have z6_ := HS6.out; omega) k_ h1_ h2_)); clear F4; have F4 := F4_; clear F4_; have F5_ := Aside0.mk (Kd.R_kept F5.out HKK.out (fun k_ h1_ => by intro h2_; exact (fun k_ h1_ h2_ => by have h3_ := h1_.1; have h4_ := h1_.2.1; have h5_ := h2_.1; have h6_ := h2_.2; have z6_ := HS6.out; omega) k_ h1_ h2_)); clear F5; have F5 := F5_; clear F5_; clear F7 F7_; have F8_ := Aside0.mk (Kd.R_kept F8.out HKK.out (fun k_ h1_ => by intro h2_; exact (fun k_ h1_ h2_ => by have h3_ := h1_.1; have h4_ := h1_.2; have h5_ := h2_.1; have h6_ := h2_.2; skip; omega) k_ h1_ h2_)); clear F8; have F8 := F8_; clear F8_; have F9_ := Aside0.mk (Kd.R_kept F9.out HKK.out (fun k_ h1_ => by intro h2_; exact (fun k_ h1_ h2_ => by have h3_ := h1_.1; have h4_ := h1_.2.1; have h5_ := h2_.1; have h6_ := h2_.2; have z8_ := HS8.out; omega) k_ h1_ h2_)); clear F9; have F9 := F9_; clear F9_; have F10_ := Aside0.mk (Kd.R_kept F10.out HKK.out (fun k_ h1_ => by intro h2_; exact (fun k_ h1_ h2_ => by have h3_ := h1_.1; have h4_ := h1_.2.1; have h5_ := h2_.1; have h6_ := h2_.2; have z8_ := HS8.out; omega) k_ h1_ h2_)); clear F10; have F10 := F10_; clear F10_; clear hb hk HKK hy0; clear HB18; refine ⟨_, rfl, ?_⟩))
  go_upto_region 26 with (first | ((with_reducible refine gate_callee (f := 21) rfl ?_); refine goesL_ (some 101) rfl rfl Try.func21 (by kernel_rfl) rfl #[.slice Af8 l3.length cf8, .int .i64 m19_] rfl (by (try simp only [List.map_toArray, List.map_cons, List.map_nil]); first | done | rfl | (simp only [List.length_drop, List.length_take]; rfl)) ?_; (with_reducible refine (laws_markIntS.calls (w0 := w) (hB := HB19.out) (ho0 := F8.out) (h := N20.out)).mono ?_); rintro e w20 ⟨rfl, hy0, hb, hk⟩; have HB20 := Aside0.mk hb; have HKK := Aside0.mk hk; have HS20 := Aside0.mk (show w19.heap.size ≤ w20.heap.size from hk.1); have HEy20_0 := Aside0.mk (show l3.length = y20_0.length from (Kd.R_reads' hy0).1); have F8_ := Aside0.mk (show Kd.R (Kd.int .i64) 3 w20 w.heap.size (fun k_ => w7.heap.size ≤ k_ ∧ k_ < w8.heap.size) (.slice Af8 y20_0.length cf8) y20_0 from by have hz_ := R_again rfl F8.out hy0; have he_ : l3.length = y20_0.length := (by have := (Kd.R_reads' hz_).1; omega); rw [← he_]; exact hz_); have F4_ := Aside0.mk (Kd.R_kept F4.out HKK.out (fun k_ h1_ => by intro h2_; exact (fun k_ h1_ h2_ => by have h3_ := h1_.1; have h4_ := h1_.2.1; have h5_ := h2_.1; have h6_ := h2_.2; have z6_ := HS6.out; have z7_ := HS7.out; omega) k_ h1_ h2_)); clear F4; have F4 := F4_; clear F4_; have F5_ := Aside0.mk (Kd.R_kept F5.out HKK.out (fun k_ h1_ => by intro h2_; exact (fun k_ h1_ h2_ => by have h3_ := h1_.1; have h4_ := h1_.2.1; have h5_ := h2_.1; have h6_ := h2_.2; have z6_ := HS6.out; have z7_ := HS7.out; omega) k_ h1_ h2_)); clear F5; have F5 := F5_; clear F5_; clear F8 F8_; have F9_ := Aside0.mk (Kd.R_kept F9.out HKK.out (fun k_ h1_ => by intro h2_; exact (fun k_ h1_ h2_ => by have h3_ := h1_.1; have h4_ := h1_.2.1; have h5_ := h2_.1; have h6_ := h2_.2; skip; omega) k_ h1_ h2_)); clear F9; have F9 := F9_; clear F9_; have F10_ := Aside0.mk (Kd.R_kept F10.out HKK.out (fun k_ h1_ => by intro h2_; exact (fun k_ h1_ h2_ => by have h3_ := h1_.1; have h4_ := h1_.2.1; have h5_ := h2_.1; have h6_ := h2_.2; skip; omega) k_ h1_ h2_)); clear F10; have F10 := F10_; clear F10_; clear hb hk HKK hy0; clear HB19; refine ⟨_, rfl, ?_⟩))
  go_upto_region 28 with (first | (go_at_call 18; (with_reducible refine (laws_eqIntS.calls (hr0 := (Kd.R_reads' F9.out).2.2) (hc0 := (Kd.R_reads' F9.out).2.1) (hr1 := (Kd.R_reads' F4.out).2.2) (hc1 := (Kd.R_reads' F4.out).2.1) (h := N21.out)).mono ?_); rintro e w21 ⟨rfl, hdr⟩; have HST := Aside0.mk (hdr.below); have HB21 := Aside0.mk (below_step HB20.out HST.out); have HS21 := Aside0.mk (show w20.heap.size ≤ w21.heap.size from HST.out.size); have F4_ := Aside0.mk (Kd.R_below F4.out HST.out); clear F4; have F4 := F4_; clear F4_; have F5_ := Aside0.mk (Kd.R_below F5.out HST.out); clear F5; have F5 := F5_; clear F5_; have F9_ := Aside0.mk (Kd.R_below F9.out HST.out); clear F9; have F9 := F9_; clear F9_; have F10_ := Aside0.mk (Kd.R_below F10.out HST.out); clear F10; have F10 := F10_; clear F10_; clear hdr HST; clear HB20) | (go_at_call 18; (with_reducible refine (laws_eqIntS.calls (hr0 := (Kd.R_reads' F10.out).2.2) (hc0 := (Kd.R_reads' F10.out).2.1) (hr1 := (Kd.R_reads' F5.out).2.2) (hc1 := (Kd.R_reads' F5.out).2.1) (h := N22.out)).mono ?_); rintro e w22 ⟨rfl, hdr⟩; have HST := Aside0.mk (hdr.below); have HB22 := Aside0.mk (below_step HB21.out HST.out); have HS22 := Aside0.mk (show w21.heap.size ≤ w22.heap.size from HST.out.size); have F4_ := Aside0.mk (Kd.R_below F4.out HST.out); clear F4; have F4 := F4_; clear F4_; have F5_ := Aside0.mk (Kd.R_below F5.out HST.out); clear F5; have F5 := F5_; clear F5_; have F9_ := Aside0.mk (Kd.R_below F9.out HST.out); clear F9; have F9 := F9_; clear F9_; have F10_ := Aside0.mk (Kd.R_below F10.out HST.out); clear F10; have F10 := F10_; clear F10_; clear hdr HST; clear HB21))
  go_upto_region 30 with (first | ((with_reducible refine gate_callee (f := 21) rfl ?_); refine goesL_ (some 123) rfl rfl Try.func21 (by kernel_rfl) rfl #[.slice Af9 o0_.length cf9, .int .i64 1] rfl (by (try simp only [List.map_toArray, List.map_cons, List.map_nil]); first | done | rfl | (simp only [List.length_drop, List.length_take]; rfl)) ?_; (with_reducible refine (laws_markIntS.calls (w0 := w) (hB := HB22.out) (ho0 := F9.out) (h := N23.out)).mono ?_); rintro e w23 ⟨rfl, hy0, hb, hk⟩; have HB23 := Aside0.mk hb; have HKK := Aside0.mk hk; have HS23 := Aside0.mk (show w22.heap.size ≤ w23.heap.size from hk.1); have HEy23_0 := Aside0.mk (show o0_.length = y23_0.length from (Kd.R_reads' hy0).1); have F9_ := Aside0.mk (show Kd.R (Kd.int .i64) 3 w23 w.heap.size (fun k_ => w8.heap.size ≤ k_ ∧ k_ < w9.heap.size ∧ some k_ = (.slice Af9 o0_.length cf9 : Value).ownBlock) (.slice Af9 y23_0.length cf9) y23_0 from by have hz_ := R_again rfl F9.out hy0; have he_ : o0_.length = y23_0.length := (by have := (Kd.R_reads' hz_).1; omega); rw [← he_]; exact hz_); have F4_ := Aside0.mk (Kd.R_kept F4.out HKK.out (fun k_ h1_ => by intro h2_; exact (fun k_ h1_ h2_ => by have h3_ := h1_.1; have h4_ := h1_.2.1; have h5_ := h2_.1; have h6_ := h2_.2.1; have z6_ := HS6.out; have z7_ := HS7.out; have z8_ := HS8.out; omega) k_ h1_ h2_)); clear F4; have F4 := F4_; clear F4_; have F5_ := Aside0.mk (Kd.R_kept F5.out HKK.out (fun k_ h1_ => by intro h2_; exact (fun k_ h1_ h2_ => by have h3_ := h1_.1; have h4_ := h1_.2.1; have h5_ := h2_.1; have h6_ := h2_.2.1; have z6_ := HS6.out; have z7_ := HS7.out; have z8_ := HS8.out; omega) k_ h1_ h2_)); clear F5; have F5 := F5_; clear F5_; clear F9; have F9 := F9_; clear F9_; have F10_ := Aside0.mk (Kd.R_kept F10.out HKK.out (fun k_ h1_ => by intro h2_; exact (fun k_ h1_ h2_ => HN10_9.out _ h1_.2.2 h2_.2.2) k_ h1_ h2_)); clear F10; have F10 := F10_; clear F10_; clear hb hk HKK hy0; clear HB22; refine ⟨_, rfl, ?_⟩))
  go_upto_region 31 with (first | ((with_reducible refine gate_callee (f := 21) rfl ?_); refine goesL_ (some 126) rfl rfl Try.func21 (by kernel_rfl) rfl #[.slice Af10 o1_.length cf10, .int .i64 m23_] rfl (by (try simp only [List.map_toArray, List.map_cons, List.map_nil]); first | done | rfl | (simp only [List.length_drop, List.length_take]; rfl)) ?_; (with_reducible refine (laws_markIntS.calls (w0 := w) (hB := HB23.out) (ho0 := F10.out) (h := N24.out)).mono ?_); rintro e w24 ⟨rfl, hy0, hb, hk⟩; have HB24 := Aside0.mk hb; have HKK := Aside0.mk hk; have HS24 := Aside0.mk (show w23.heap.size ≤ w24.heap.size from hk.1); have HEy24_0 := Aside0.mk (show o1_.length = y24_0.length from (Kd.R_reads' hy0).1); have F10_ := Aside0.mk (show Kd.R (Kd.int .i64) 3 w24 w.heap.size (fun k_ => w8.heap.size ≤ k_ ∧ k_ < w9.heap.size ∧ some k_ = (.slice Af10 o1_.length cf10 : Value).ownBlock) (.slice Af10 y24_0.length cf10) y24_0 from by have hz_ := R_again rfl F10.out hy0; have he_ : o1_.length = y24_0.length := (by have := (Kd.R_reads' hz_).1; omega); rw [← he_]; exact hz_); have F4_ := Aside0.mk (Kd.R_kept F4.out HKK.out (fun k_ h1_ => by intro h2_; exact (fun k_ h1_ h2_ => by have h3_ := h1_.1; have h4_ := h1_.2.1; have h5_ := h2_.1; have h6_ := h2_.2.1; have z6_ := HS6.out; have z7_ := HS7.out; have z8_ := HS8.out; omega) k_ h1_ h2_)); clear F4; have F4 := F4_; clear F4_; have F5_ := Aside0.mk (Kd.R_kept F5.out HKK.out (fun k_ h1_ => by intro h2_; exact (fun k_ h1_ h2_ => by have h3_ := h1_.1; have h4_ := h1_.2.1; have h5_ := h2_.1; have h6_ := h2_.2.1; have z6_ := HS6.out; have z7_ := HS7.out; have z8_ := HS8.out; omega) k_ h1_ h2_)); clear F5; have F5 := F5_; clear F5_; have F9_ := Aside0.mk (Kd.R_kept F9.out HKK.out (fun k_ h1_ => by intro h2_; exact (fun k_ h1_ h2_ => HN9_10.out _ h1_.2.2 h2_.2.2) k_ h1_ h2_)); clear F9; have F9 := F9_; clear F9_; clear F10; have F10 := F10_; clear F10_; clear hb hk HKK hy0; clear HB23; refine ⟨_, rfl, ?_⟩))
  go_upto_region 33 with (first | ((with_reducible refine gate_callee (f := 22) rfl ?_); refine goesL_ (some 129) rfl rfl Try.func22 (by kernel_rfl) rfl #[.slice Af9 o0_.length cf9, .int .i64 1] rfl (by (try simp only [List.map_toArray, List.map_cons, List.map_nil]); first | done | rfl | (simp only [List.length_drop, List.length_take]; rfl)) ?_; refine calls_of_args (args' := #[.slice Af9 y23_0.length cf9, .int .i64 1]) (by rw [HEy23_0.out]) ?_; (with_reducible refine (laws_heldIntS.calls (hr0 := (Kd.R_reads' F9.out).2.2) (hc0 := (Kd.R_reads' F9.out).2.1) (h := N25.out)).mono ?_); rintro e w25 ⟨rfl, hdr⟩; have HST := Aside0.mk (hdr.below); have HB25 := Aside0.mk (below_step HB24.out HST.out); have HS25 := Aside0.mk (show w24.heap.size ≤ w25.heap.size from HST.out.size); have F4_ := Aside0.mk (Kd.R_below F4.out HST.out); clear F4; have F4 := F4_; clear F4_; have F5_ := Aside0.mk (Kd.R_below F5.out HST.out); clear F5; have F5 := F5_; clear F5_; have F9_ := Aside0.mk (Kd.R_below F9.out HST.out); clear F9; have F9 := F9_; clear F9_; have F10_ := Aside0.mk (Kd.R_below F10.out HST.out); clear F10; have F10 := F10_; clear F10_; clear hdr HST; clear HB24; refine ⟨_, rfl, ?_⟩))
  go_upto_region 36 with (first | ((with_reducible refine gate_callee (f := 22) rfl ?_); refine goesL_ (some 134) rfl rfl Try.func22 (by kernel_rfl) rfl #[.slice Af10 o1_.length cf10, .int .i64 m23_] rfl (by (try simp only [List.map_toArray, List.map_cons, List.map_nil]); first | done | rfl | (simp only [List.length_drop, List.length_take]; rfl)) ?_; refine calls_of_args (args' := #[.slice Af10 y24_0.length cf10, .int .i64 m23_]) (by rw [HEy24_0.out]) ?_; (with_reducible refine (laws_heldIntS.calls (hr0 := (Kd.R_reads' F10.out).2.2) (hc0 := (Kd.R_reads' F10.out).2.1) (h := N26.out)).mono ?_); rintro e w26 ⟨rfl, hdr⟩; have HST := Aside0.mk (hdr.below); have HB26 := Aside0.mk (below_step HB25.out HST.out); have HS26 := Aside0.mk (show w25.heap.size ≤ w26.heap.size from HST.out.size); have F4_ := Aside0.mk (Kd.R_below F4.out HST.out); clear F4; have F4 := F4_; clear F4_; have F5_ := Aside0.mk (Kd.R_below F5.out HST.out); clear F5; have F5 := F5_; clear F5_; have F9_ := Aside0.mk (Kd.R_below F9.out HST.out); clear F9; have F9 := F9_; clear F9_; have F10_ := Aside0.mk (Kd.R_below F10.out HST.out); clear F10; have F10 := F10_; clear F10_; clear hdr HST; clear HB25; refine ⟨_, rfl, ?_⟩))
  go_upto_region 41 with (first | ((with_reducible refine gate_callee (f := 15) rfl ?_); refine goesL_ (some 142) rfl rfl Try.func15 (by kernel_rfl) rfl #[.slice A0 l0.length c0] rfl (by (try simp only [List.map_toArray, List.map_cons, List.map_nil]); first | done | rfl | (simp only [List.length_drop, List.length_take]; rfl)) ?_; (with_reducible refine (laws_toDependS.calls (hr0 := Kd.C_below HR0.out HB26.out) (hc0 := HC0.out) (h := N27.out)).mono ?_); rintro e w27 ⟨v0_, rfl, ho0, hb⟩; have HST := Aside0.mk (hb); have HB27 := Aside0.mk (below_step HB26.out HST.out); have HS27 := Aside0.mk (show w26.heap.size ≤ w27.heap.size from HST.out.size); obtain ⟨Af14, cf14, ef14⟩ := Kd.S_slice ho0; subst ef14; have F14 := Aside0.mk (show Kd.S k44 44 w27 w.heap.size (fun k_ => w26.heap.size ≤ k_ ∧ k_ < w27.heap.size) (.slice Af14 (cvDependS l0).length cf14) (cvDependS l0) from Kd.S_lower (Kd.S_mono (Kd.S_bound ho0) (fun k_ hk_ => ⟨hk_.2.1, hk_.2.2.1⟩)) (below_size HB26.out)); have F4_ := Aside0.mk (Kd.R_below F4.out HST.out); clear F4; have F4 := F4_; clear F4_; have F5_ := Aside0.mk (Kd.R_below F5.out HST.out); clear F5; have F5 := F5_; clear F5_; have F9_ := Aside0.mk (Kd.R_below F9.out HST.out); clear F9; have F9 := F9_; clear F9_; have F10_ := Aside0.mk (Kd.R_below F10.out HST.out); clear F10; have F10 := F10_; clear F10_; clear hb HST ho0; clear HB26; refine ⟨_, rfl, ?_⟩) | ((with_reducible refine gate_callee (f := 16) rfl ?_); refine goesL_ (some 145) rfl rfl Try.func16 (by kernel_rfl) rfl #[.slice A2 l2.length c2] rfl (by (try simp only [List.map_toArray, List.map_cons, List.map_nil]); first | done | rfl | (simp only [List.length_drop, List.length_take]; rfl)) ?_; (with_reducible refine (laws_toIntS.calls (hr0 := Kd.C_below HR2.out HB27.out) (hc0 := HC2.out) (h := N28.out)).mono ?_); rintro e w28 ⟨v0_, rfl, ho0, hb⟩; have HST := Aside0.mk (hb); have HB28 := Aside0.mk (below_step HB27.out HST.out); have HS28 := Aside0.mk (show w27.heap.size ≤ w28.heap.size from HST.out.size); obtain ⟨Af15, cf15, ef15⟩ := Kd.R_slice ho0; subst ef15; have F15 := Aside0.mk (show Kd.R (Kd.int .i64) 3 w28 w.heap.size (fun k_ => w27.heap.size ≤ k_ ∧ k_ < w28.heap.size) (.slice Af15 l2.length cf15) l2 from Kd.R_lower (Kd.R_mono (Kd.R_bound ho0) (fun k_ hk_ => ⟨hk_.2.1, hk_.2.2.1⟩)) (below_size HB27.out)); have F4_ := Aside0.mk (Kd.R_below F4.out HST.out); clear F4; have F4 := F4_; clear F4_; have F5_ := Aside0.mk (Kd.R_below F5.out HST.out); clear F5; have F5 := F5_; clear F5_; have F9_ := Aside0.mk (Kd.R_below F9.out HST.out); clear F9; have F9 := F9_; clear F9_; have F10_ := Aside0.mk (Kd.R_below F10.out HST.out); clear F10; have F10 := F10_; clear F10_; have F14_ := Aside0.mk (Kd.S_below F14.out HST.out); clear F14; have F14 := F14_; clear F14_; clear hb HST ho0; clear HB27; refine ⟨_, rfl, ?_⟩) | ((with_reducible refine gate_callee (f := 16) rfl ?_); refine goesL_ (some 147) rfl rfl Try.func16 (by kernel_rfl) rfl #[.slice A3 l3.length c3] rfl (by (try simp only [List.map_toArray, List.map_cons, List.map_nil]); first | done | rfl | (simp only [List.length_drop, List.length_take]; rfl)) ?_; (with_reducible refine (laws_toIntS.calls (hr0 := Kd.C_below HR3.out HB28.out) (hc0 := HC3.out) (h := N29.out)).mono ?_); rintro e w29 ⟨v0_, rfl, ho0, hb⟩; have HST := Aside0.mk (hb); have HB29 := Aside0.mk (below_step HB28.out HST.out); have HS29 := Aside0.mk (show w28.heap.size ≤ w29.heap.size from HST.out.size); obtain ⟨Af16, cf16, ef16⟩ := Kd.R_slice ho0; subst ef16; have F16 := Aside0.mk (show Kd.R (Kd.int .i64) 3 w29 w.heap.size (fun k_ => w28.heap.size ≤ k_ ∧ k_ < w29.heap.size) (.slice Af16 l3.length cf16) l3 from Kd.R_lower (Kd.R_mono (Kd.R_bound ho0) (fun k_ hk_ => ⟨hk_.2.1, hk_.2.2.1⟩)) (below_size HB28.out)); have F4_ := Aside0.mk (Kd.R_below F4.out HST.out); clear F4; have F4 := F4_; clear F4_; have F5_ := Aside0.mk (Kd.R_below F5.out HST.out); clear F5; have F5 := F5_; clear F5_; have F9_ := Aside0.mk (Kd.R_below F9.out HST.out); clear F9; have F9 := F9_; clear F9_; have F10_ := Aside0.mk (Kd.R_below F10.out HST.out); clear F10; have F10 := F10_; clear F10_; have F14_ := Aside0.mk (Kd.S_below F14.out HST.out); clear F14; have F14 := F14_; clear F14_; have F15_ := Aside0.mk (Kd.R_below F15.out HST.out); clear F15; have F15 := F15_; clear F15_; clear hb HST ho0; clear HB28; refine ⟨_, rfl, ?_⟩) | ((with_reducible refine gate_callee (f := 24) rfl ?_); refine goesL_ (some 148) rfl rfl Try.func24 (by kernel_rfl) rfl #[.slice Af14 (cvDependS l0).length cf14, .int .i64 a1, .slice Af15 l2.length cf15, .slice Af16 l3.length cf16] rfl (by (try simp only [List.map_toArray, List.map_cons, List.map_nil]); first | done | rfl | (simp only [List.length_drop, List.length_take]; rfl)) ?_; (with_reducible refine (impl_SplitBy.calls (hr0 := (Kd.S_reads' F14.out).2.2) (hc0 := (Kd.S_reads' F14.out).2.1) (hr2 := (Kd.R_reads' F15.out).2.2) (hc2 := (Kd.R_reads' F15.out).2.1) (hr3 := (Kd.R_reads' F16.out).2.2) (hc3 := (Kd.R_reads' F16.out).2.1) (h := N30.out)).mono ?_); rintro e w30 ⟨v0_, v1_, rfl, ho0, ho1, hb⟩; have HST := Aside0.mk (hb); have HB30 := Aside0.mk (below_step HB29.out HST.out); have HS30 := Aside0.mk (show w29.heap.size ≤ w30.heap.size from HST.out.size); obtain ⟨Af17, cf17, ef17⟩ := Kd.R_slice ho0; subst ef17; obtain ⟨Af18, cf18, ef18⟩ := Kd.R_slice ho1; subst ef18; have F17 := Aside0.mk (show Kd.R (Kd.int .i64) 3 w30 w.heap.size (fun k_ => w29.heap.size ≤ k_ ∧ k_ < w30.heap.size ∧ some k_ = (.slice Af17 o0_.length cf17 : Value).ownBlock) (.slice Af17 o0_.length cf17) o0_ from Kd.R_lower (Kd.R_mono (Kd.R_bound (Kd.R_tight rfl ho0)) (fun k_ hk_ => ⟨hk_.2.1, hk_.2.2.1, hk_.1⟩)) (below_size HB29.out)); have HN17_18 := Aside0.mk (show ∀ k_, some k_ = (.slice Af17 o0_.length cf17 : Value).ownBlock → ¬ some k_ = (.slice Af18 o1_.length cf18 : Value).ownBlock from fun k_ a_ b_ => by have h_ := ho0.1 k_ a_.symm; first | exact h_ b_ | exact h_.1 b_ | exact h_.2 b_ | exact h_.2.1 b_ | exact h_.2.2 b_ | simp_all); have F18 := Aside0.mk (show Kd.R (Kd.int .i64) 3 w30 w.heap.size (fun k_ => w29.heap.size ≤ k_ ∧ k_ < w30.heap.size ∧ some k_ = (.slice Af18 o1_.length cf18 : Value).ownBlock) (.slice Af18 o1_.length cf18) o1_ from Kd.R_lower (Kd.R_mono (Kd.R_bound (Kd.R_tight rfl ho1)) (fun k_ hk_ => ⟨hk_.2.1, hk_.2.2.1, hk_.1⟩)) (below_size HB29.out)); have HN18_17 := Aside0.mk (show ∀ k_, some k_ = (.slice Af18 o1_.length cf18 : Value).ownBlock → ¬ some k_ = (.slice Af17 o0_.length cf17 : Value).ownBlock from fun k_ a_ b_ => by have h_ := ho1.1 k_ a_.symm; first | exact h_ b_ | exact h_.1 b_ | exact h_.2 b_ | exact h_.2.1 b_ | exact h_.2.2 b_ | simp_all); have F4_ := Aside0.mk (Kd.R_below F4.out HST.out); clear F4; have F4 := F4_; clear F4_; have F5_ := Aside0.mk (Kd.R_below F5.out HST.out); clear F5; have F5 := F5_; clear F5_; have F9_ := Aside0.mk (Kd.R_below F9.out HST.out); clear F9; have F9 := F9_; clear F9_; have F10_ := Aside0.mk (Kd.R_below F10.out HST.out); clear F10; have F10 := F10_; clear F10_; clear F14; clear F15; clear F16; clear hb HST ho0 ho1; clear HB29; refine ⟨_, rfl, ?_⟩))
  go_upto_region 43 with (first | ((with_reducible refine gate_callee (f := 18) rfl ?_); refine goesL_ (some 154) rfl rfl Try.func18 (by kernel_rfl) rfl #[.slice Af17 o0_.length cf17, .slice Af4 o0_.length cf4] rfl (by (try simp only [List.map_toArray, List.map_cons, List.map_nil]); first | done | rfl | (simp only [List.length_drop, List.length_take]; rfl)) ?_; (with_reducible refine (laws_eqIntS.calls (hr0 := (Kd.R_reads' F17.out).2.2) (hc0 := (Kd.R_reads' F17.out).2.1) (hr1 := (Kd.R_reads' F4.out).2.2) (hc1 := (Kd.R_reads' F4.out).2.1) (h := N31.out)).mono ?_); rintro e w31 ⟨rfl, hdr⟩; have HST := Aside0.mk (hdr.below); have HB31 := Aside0.mk (below_step HB30.out HST.out); have HS31 := Aside0.mk (show w30.heap.size ≤ w31.heap.size from HST.out.size); clear F4; have F5_ := Aside0.mk (Kd.R_below F5.out HST.out); clear F5; have F5 := F5_; clear F5_; have F9_ := Aside0.mk (Kd.R_below F9.out HST.out); clear F9; have F9 := F9_; clear F9_; have F10_ := Aside0.mk (Kd.R_below F10.out HST.out); clear F10; have F10 := F10_; clear F10_; clear F17; have F18_ := Aside0.mk (Kd.R_below F18.out HST.out); clear F18; have F18 := F18_; clear F18_; clear hdr HST; clear HB30; refine ⟨_, rfl, ?_⟩) | (go_at_call 18; (with_reducible refine (laws_eqIntS.calls (hr0 := (Kd.R_reads' F18.out).2.2) (hc0 := (Kd.R_reads' F18.out).2.1) (hr1 := (Kd.R_reads' F5.out).2.2) (hc1 := (Kd.R_reads' F5.out).2.1) (h := N32.out)).mono ?_); rintro e w32 ⟨rfl, hdr⟩; have HST := Aside0.mk (hdr.below); have HB32 := Aside0.mk (below_step HB31.out HST.out); have HS32 := Aside0.mk (show w31.heap.size ≤ w32.heap.size from HST.out.size); clear F5; have F9_ := Aside0.mk (Kd.R_below F9.out HST.out); clear F9; have F9 := F9_; clear F9_; have F10_ := Aside0.mk (Kd.R_below F10.out HST.out); clear F10; have F10 := F10_; clear F10_; clear F18; clear hdr HST; clear HB31))
  go_upto_region 45 with (first | ((with_reducible refine gate_callee (f := 22) rfl ?_); refine goesL_ (some 169) rfl rfl Try.func22 (by kernel_rfl) rfl #[.slice Af9 o0_.length cf9, .int .i64 1] rfl (by (try simp only [List.map_toArray, List.map_cons, List.map_nil]); first | done | rfl | (simp only [List.length_drop, List.length_take]; rfl)) ?_; refine calls_of_args (args' := #[.slice Af9 y23_0.length cf9, .int .i64 1]) (by rw [HEy23_0.out]) ?_; (with_reducible refine (laws_heldIntS.calls (hr0 := (Kd.R_reads' F9.out).2.2) (hc0 := (Kd.R_reads' F9.out).2.1) (h := N33.out)).mono ?_); rintro e w33 ⟨rfl, hdr⟩; have HST := Aside0.mk (hdr.below); have HB33 := Aside0.mk (below_step HB32.out HST.out); have HS33 := Aside0.mk (show w32.heap.size ≤ w33.heap.size from HST.out.size); clear F9; have F10_ := Aside0.mk (Kd.R_below F10.out HST.out); clear F10; have F10 := F10_; clear F10_; clear hdr HST; clear HB32; refine ⟨_, rfl, ?_⟩))
  go_upto_region 48 with (first | ((with_reducible refine gate_callee (f := 22) rfl ?_); refine goesL_ (some 174) rfl rfl Try.func22 (by kernel_rfl) rfl #[.slice Af10 o1_.length cf10, .int .i64 m23_] rfl (by (try simp only [List.map_toArray, List.map_cons, List.map_nil]); first | done | rfl | (simp only [List.length_drop, List.length_take]; rfl)) ?_; refine calls_of_args (args' := #[.slice Af10 y24_0.length cf10, .int .i64 m23_]) (by rw [HEy24_0.out]) ?_; (with_reducible refine (laws_heldIntS.calls (hr0 := (Kd.R_reads' F10.out).2.2) (hc0 := (Kd.R_reads' F10.out).2.1) (h := N34.out)).mono ?_); rintro e w34 ⟨rfl, hdr⟩; have HST := Aside0.mk (hdr.below); have HB34 := Aside0.mk (below_step HB33.out HST.out); have HS34 := Aside0.mk (show w33.heap.size ≤ w34.heap.size from HST.out.size); clear F10; clear hdr HST; clear HB33; refine ⟨_, rfl, ?_⟩))
  go_wp2
  go_ret
  exact ⟨rfl, HB34.out⟩

end Go.Proofs.Ytenlddbeehjogaa.PFnExactSplitBy
