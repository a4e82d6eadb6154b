/-
  slices.Clone at whole numbers: words of this claim's own, over any program (the shelf's contract, said of the print's rows).
-/
import Derived.Test.YtecebaeifmddnaaWWords
import Derived.Test.YtecebaeifmddnaaWMore
import Derived.Test.YtecebaeifmddnaaHo
import Derived.Shelf.Slices.Clone
import Derived.Ground.Names2Prog
namespace Go.Proofs.YtecebaeifmddnaaW.PrintMore
open Go.RowKit Go.Shelf Go.Lib Go.Proofs.YtecebaeifmddnaaW.PrintWords
theorem clone_C {P : Program} {ρ : Ren} (L : Go.Proofs.Lays2.n15 P ρ) {A : Option Addr} {c : Nat} {l : List Int} {w : World} (hr : Kd.C (Kd.int .i64) w A l.length l) (hl : l.length ≤ 17592186044416) :
    Calls P (ρ.f 15) #[.slice A l.length c] w fun e w' => ∃ v0, e = .returned v0 ∧ Kd.R (Kd.int .i64) (ρ.t 3) w' w.heap.size (fun _ => True) v0 l ∧ Below w.heap.size w w' := by
  by_cases h0 : l.length = 0
  · obtain rfl := List.eq_nil_of_length_eq_zero h0
    cases A with
    | none =>
      refine (Go.Proofs.Any.slices_Clone_int_nil L 0 c w).mono ?_
      rintro e w' ⟨rfl, rfl⟩
      exact ⟨_, rfl, Kd.R_nil _ _ _ _ _, Below.refl _ _⟩
    | some a =>
      refine (Go.Proofs.Any.slices_Clone_int_zero L a c w).mono ?_
      rintro e w' ⟨v, rfl, ho, _, hb⟩
      exact ⟨_, rfl, Kd.R_of_own (by simpa [encs] using ho) (fun _ _ => trivial), hb⟩
  · obtain ⟨ad, rfl, hc0⟩ := at_int hr 0 (by omega) (by omega)
    obtain ⟨b, off, spot⟩ := ad
    have hs : spot = none := by
      cases spot with
      | none => rfl
      | some s =>
        simp [World.cell?, Addr.add] at hc0
        split at hc0 <;> cases hc0
    subst hs
    have hc : ∀ j, j < l.length → w.cell? ⟨b, off + j, none⟩ = some (.int .i64 (l.getD j 0)) := fun j hj => by
      obtain ⟨ad, e, h⟩ := at_int hr (j : Int) (by omega) (by omega)
      cases e
      rw [Addr.add_lit] at h
      simpa [rd] using h
    refine (Go.Proofs.Any.slices_Clone_int L b off l.length c l w (Nat.le_refl _) (by omega) hc).mono ?_
    rintro e w' ⟨v, rfl, ho, _, hb⟩
    rw [List.take_length] at ho
    exact ⟨_, rfl, Kd.R_of_own (by simpa [encs] using ho) (fun _ _ => trivial), hb⟩
end Go.Proofs.YtecebaeifmddnaaW.PrintMore
