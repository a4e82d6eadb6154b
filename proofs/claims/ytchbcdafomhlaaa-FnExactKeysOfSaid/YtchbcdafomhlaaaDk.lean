/-
  Structs of rows that lie apart: words of this claim's own, over any program.
-/
import Derived.Test.YtchbcdafomhlaaaWWords
import Derived.Test.YtchbcdafomhlaaaWApart
import Derived.Test.YtchbcdafomhlaaaWKept
import Derived.Test.YtchbcdafomhlaaaWShare
import Derived.Test.YtchbcdafomhlaaaWMore
namespace Go.Proofs.YtchbcdafomhlaaaW.PrintMore
open Go.RowKit Go.Proofs.YtchbcdafomhlaaaW.PrintWords Go.Proofs.YtchbcdafomhlaaaW.PrintLast
/-- A pair whose parts lead to blocks of their own each. -/
def pairD {α β : Type} (a : Kd α) (b : Kd β) : Kd (α × β) where
  sz := a.sz + b.sz
  E := a.E ++ b.E
  K := fun w x cs => ∃ c0 c1, cs = c0 ++ c1 ∧ a.K w x.1 c0 ∧ b.K w x.2 c1
  M := fun w base ok x cs => ∃ c0 c1, cs = c0 ++ c1 ∧ ∃ o0 o1 : Nat → Prop, (∀ k, o0 k → ok k) ∧ (∀ k, o1 k → ok k) ∧ (∀ k, o0 k → ¬ o1 k) ∧ a.M w base o0 x.1 c0 ∧ b.M w base o1 x.2 c1
  K_len := by
    rintro w x cs ⟨c0, c1, rfl, h0, h1⟩
    rw [List.length_append, a.K_len h0, b.K_len h1]
  K_one := by
    rintro w x cs ⟨c0, c1, rfl, h0, h1⟩ u hu
    rcases List.mem_append.1 hu with hu | hu
    · exact a.K_one h0 u hu
    · exact b.K_one h1 u hu
  K_below := by
    rintro w w1 x cs hb ⟨c0, c1, rfl, h0, h1⟩
    exact ⟨c0, c1, rfl, a.K_below hb h0, b.K_below hb h1⟩
  K_of_M := by
    rintro w base ok x cs ⟨c0, c1, rfl, _, _, _, _, _, h0, h1⟩
    exact ⟨c0, c1, rfl, a.K_of_M h0, b.K_of_M h1⟩
  M_mono := by
    rintro w base ok ok' x cs hok ⟨c0, c1, rfl, o0, o1, h2, h3, h4, h0, h1⟩
    exact ⟨c0, c1, rfl, o0, o1, fun k hk => hok k (h2 k hk), fun k hk => hok k (h3 k hk), h4, h0, h1⟩
  M_bound := by
    rintro w base ok x cs ⟨c0, c1, rfl, o0, o1, h2, h3, h4, h0, h1⟩
    refine ⟨c0, c1, rfl, _, _, ?_, ?_, ?_, a.M_bound h0, b.M_bound h1⟩
    · rintro k ⟨hk, q1, q2, q, hq, hc⟩
      exact ⟨h2 k hk, q1, q2, q, List.mem_append.2 (.inl hq), hc⟩
    · rintro k ⟨hk, q1, q2, q, hq, hc⟩
      exact ⟨h3 k hk, q1, q2, q, List.mem_append.2 (.inr hq), hc⟩
    · rintro k ⟨hk, _⟩ ⟨hk', _⟩
      exact h4 k hk hk'
  M_move := by
    rintro w w1 base ok x cs hm ⟨c0, c1, rfl, o0, o1, h2, h3, h4, h0, h1⟩
    exact ⟨c0, c1, rfl, o0, o1, h2, h3, h4, a.M_move (fun k hk => hm k (h2 k hk)) h0, b.M_move (fun k hk => hm k (h3 k hk)) h1⟩
  M_lower := by
    rintro w base base' ok x cs hb ⟨c0, c1, rfl, o0, o1, h2, h3, h4, h0, h1⟩
    exact ⟨c0, c1, rfl, o0, o1, h2, h3, h4, a.M_lower hb h0, b.M_lower hb h1⟩
theorem heap_pairD {α β : Type} {a : Kd α} {b : Kd β} (ha : Kd.Heap a) (hb : Kd.Heap b) : Kd.Heap (pairD a b) := ⟨fun hh h => (Kd.heap_pair ha hb).K hh h⟩
theorem R_neOf {α : Type} {d : Kd α} {e base : Nat} {w : World} {u v : Value} {xs : List α} (h : d.R e w base (fun k => some k ≠ u.ownBlock) v xs) : v.ownBlock = none ∨ v.ownBlock ≠ u.ownBlock := by
  cases hv : v.ownBlock with
  | none => exact .inl rfl
  | some k => exact .inr (h.1 k hv)
theorem R_neOfT {α : Type} {d : Kd α} {e base : Nat} {w : World} {u v : Value} {xs : List α} (h : d.R e w base (fun k => True ∧ some k ≠ u.ownBlock) v xs) : v.ownBlock = none ∨ v.ownBlock ≠ u.ownBlock :=
  R_neOf (Kd.R_mono h (fun _ hk => hk.2))
theorem ne_apart {u v : Value} (ne : v.ownBlock = none ∨ v.ownBlock ≠ u.ownBlock) : ∀ k, some k = v.ownBlock → ¬ some k = u.ownBlock := by
  intro k a b
  rcases ne with h | h
  · rw [h] at a; cases a
  · exact h (a.symm.trans b)
theorem ne_swap {u v : Value} (ne : v.ownBlock = none ∨ v.ownBlock ≠ u.ownBlock) : u.ownBlock = none ∨ u.ownBlock ≠ v.ownBlock := by
  rcases ne with h | h
  · rw [h]; cases u.ownBlock <;> simp
  · exact .inr h.symm
/-- A row of rows' element. -/
def rdLL (xs : List (List Int)) (i : Int) : List Int := xs.getD i.toNat []
/-- What a row was, it is behind the writing, at its own blocks. -/
theorem R_again {α : Type} {d : Kd α} {e e' base base' : Nat} {w w1 : World} {ok ok1 : Nat → Prop} {v : Value} {xs ys : List α} (hE : d.E = []) (h0 : d.R e w base ok v xs) (h : d.R e' w1 base' ok1 v ys) : d.R e' w1 base' ok v ys :=
  Kd.R_mono (Kd.R_tight hE h) (fun k hk => h0.1 k hk.symm)
end Go.Proofs.YtchbcdafomhlaaaW.PrintMore
