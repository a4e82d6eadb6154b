/-
  Plain words for the pure statements: what holds from some number of rounds on, loops over lists, sums that do not wrap.
-/
import Derived.Test.YtchbcdafomhlaaaWWords
import Derived.Test.YtchbcdafomhlaaaWMore
namespace Go.Proofs.YtchbcdafomhlaaaW.PrintMore
open Go.RowKit Go.Proofs.YtchbcdafomhlaaaW.PrintWords Go.Proofs.YtchbcdafomhlaaaW.PrintLast
theorem Ev.succ {α : Type} {g : Nat → Option α} {r : α} (h : Ev (fun k => g (k + 1)) r) : Ev g r := Ev.step (fun _ => rfl) h
theorem Ev.pos {α : Type} {c : Prop} [Decidable c] {a b : Nat → Option α} {r : α} (hc : c) (h : Ev a r) : Ev (fun k => if c then a k else b k) r := Ev.congr (fun _ => if_pos hc) h
theorem Ev.neg {α : Type} {c : Prop} [Decidable c] {a b : Nat → Option α} {r : α} (hc : ¬ c) (h : Ev b r) : Ev (fun k => if c then a k else b k) r := Ev.congr (fun _ => if_neg hc) h
theorem Ev.const {α : Type} {g : Option α} {r : α} (h : g = some r) : Ev (fun _ => g) r := ⟨0, fun _ _ => h⟩
theorem Ev.some_bind {α β : Type} {x : α} {f : Nat → α → Option β} {r : β} (h : Ev (fun k => f k x) r) : Ev (fun k => (some x).bind (f k)) r := h
/-- From some number of rounds on it comes to one and the same thing, of which P is true. -/
def EvX {α : Type} (g : Nat → Option α) (P : α → Prop) : Prop := ∃ r, Ev g r ∧ P r
theorem Ev.x {α : Type} {g : Nat → Option α} {r : α} {P : α → Prop} (h : Ev g r) (hp : P r) : EvX g P := ⟨r, h, hp⟩
theorem EvX.ev {α : Type} {g : Nat → Option α} {r : α} (h : EvX g (fun x => x = r)) : Ev g r := by
  obtain ⟨_, h, rfl⟩ := h
  exact h
theorem EvX.succ {α : Type} {g : Nat → Option α} {P : α → Prop} (h : EvX (fun k => g (k + 1)) P) : EvX g P := by
  obtain ⟨r, h, hp⟩ := h
  exact ⟨r, Ev.succ h, hp⟩
theorem EvX.pos {α : Type} {c : Prop} [Decidable c] {a b : Nat → Option α} {P : α → Prop} (hc : c) (h : EvX a P) : EvX (fun k => if c then a k else b k) P := by
  obtain ⟨r, h, hp⟩ := h
  exact ⟨r, Ev.pos hc h, hp⟩
theorem EvX.neg {α : Type} {c : Prop} [Decidable c] {a b : Nat → Option α} {P : α → Prop} (hc : ¬ c) (h : EvX b P) : EvX (fun k => if c then a k else b k) P := by
  obtain ⟨r, h, hp⟩ := h
  exact ⟨r, Ev.neg hc h, hp⟩
theorem EvX.const {α : Type} {g : Option α} {r : α} {P : α → Prop} (h : g = some r) (hp : P r) : EvX (fun _ => g) P := ⟨r, Ev.const h, hp⟩
theorem EvX.some_bind {α β : Type} {x : α} {f : Nat → α → Option β} {P : β → Prop} (h : EvX (fun k => f k x) P) : EvX (fun k => (some x).bind (f k)) P := h
theorem EvX.bind {α β : Type} {g : Nat → Option α} {f : Nat → α → Option β} {P : α → Prop} {Q : β → Prop} (h : EvX g P) (k : ∀ a, P a → EvX (fun n => f n a) Q) : EvX (fun n => (g n).bind (f n)) Q := by
  obtain ⟨a, h, hp⟩ := h
  obtain ⟨r, k, hq⟩ := k a hp
  exact ⟨r, Ev.bind h k, hq⟩
theorem Ev.bindX {α β : Type} {g : Nat → Option α} {f : Nat → α → Option β} {a : α} {Q : β → Prop} (h : Ev g a) (k : EvX (fun n => f n a) Q) : EvX (fun n => (g n).bind (f n)) Q := by
  obtain ⟨r, k, hq⟩ := k
  exact ⟨r, Ev.bind h k, hq⟩
theorem EvX.rounds {α : Type} {g : Nat → Option α} {r : α} (h : EvX g (fun x => x = r)) : ∃ k, g k = some r := h.ev.rounds
theorem wrap_add {a b : Int} (h0 : -9223372036854775808 ≤ a + b) (h1 : a + b ≤ 9223372036854775807) : wrap64 (a + b) = a + b := by unfold wrap64; omega
theorem wrap_id {a : Int} (h0 : -9223372036854775808 ≤ a) (h1 : a ≤ 9223372036854775807) : wrap64 a = a := by unfold wrap64; omega
theorem rd_nat {l : List Int} {i : Nat} (h : i < l.length) : rd l (i : Int) = l[i] := by simp [rd, h]
/-- A counting loop over places 0..n: what each round comes to gives what the loop comes to. -/
theorem loop_up {P : Nat → Prop} {n : Nat} (last : P n) (step : ∀ i, i < n → P (i + 1) → P i) : ∀ i, i ≤ n → P i := by
  intro i hi
  obtain ⟨d, rfl⟩ : ∃ d, n = i + d := ⟨n - i, by omega⟩
  induction d generalizing i with
  | zero => exact last
  | succ d ih =>
    refine step i (by omega) (ih (i + 1) (by rw [show i + 1 + d = i + (d + 1) by omega]; exact last) ?_ (by omega))
    intro j hj
    exact step j (by omega)
end Go.Proofs.YtchbcdafomhlaaaW.PrintMore
