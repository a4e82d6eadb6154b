/-
  What is asked of a function value that is handed over, and what a search by it finds: words of this claim's own, over any program.
-/
import Derived.Test.YtchbcdafomhlaaaWWords
import Derived.Test.YtchbcdafomhlaaaWMore
import Derived.Laws.Cells
import Derived.Lib.SliceRun
import Derived.Shelf.Abstract
import Derived.StillTailTactics
namespace Go.Proofs.YtchbcdafomhlaaaW.PrintMore
open Go.RowKit Go.Proofs.YtchbcdafomhlaaaW.PrintWords Go.Proofs.YtchbcdafomhlaaaW.PrintLast
/-- A value of one cell that says x. -/
def One {α : Type} (d : Kd α) (W : World) (x : α) (v : Value) : Prop := d.K W x [v]
/-- A struct's value that says x. -/
def Agg {α : Type} (d : Kd α) (W : World) (x : α) (v : Value) : Prop := ∃ cs, v = .agg cs.toArray ∧ d.K W x cs
/-- A function value (function g, captured lb), asked at an element x of l in a world that has grown out of w, answers p x and leaves all as it was. -/
def PredOn {α : Type} (P : Program) (g : Nat) (lb : Array Value) (vl : World → α → Value → Prop) (p : α → Bool) (l : List α) (w : World) : Prop :=
  ∀ (W : World) (x : α) (v : Value), x ∈ l → Below w.heap.size w W → vl W x v → Calls P g (#[v] ++ lb) W fun e W' => e = .returned (.bool (p x)) ∧ Below W.heap.size W W'
theorem PredOn.grown {α : Type} {P : Program} {g : Nat} {lb : Array Value} {vl : World → α → Value → Prop} {p : α → Bool} {l : List α} {w w1 : World} (h : PredOn P g lb vl p l w) (hb : Below w.heap.size w w1) : PredOn P g lb vl p l w1 :=
  fun W x v hx hW hv => h W x v hx (below_step hb hW) hv
theorem PredOn.congr {α : Type} {P : Program} {g : Nat} {lb : Array Value} {vl : World → α → Value → Prop} {p q : α → Bool} {l : List α} {w : World} (h : PredOn P g lb vl p l w) (hpq : ∀ x, x ∈ l → p x = q x) : PredOn P g lb vl q l w :=
  fun W x v hx hW hv => (h W x v hx hW hv).mono fun _ _ ⟨he, hb⟩ => ⟨by rw [he, hpq x hx], hb⟩
theorem list_len1 {α : Type} {l : List α} (h : l.length = 1) : ∃ a, l = [a] := by
  match l, h with
  | [a], _ => exact ⟨a, rfl⟩
theorem list_len2 {α : Type} {l : List α} (h : l.length = 2) : ∃ a b, l = [a, b] := by
  match l, h with
  | [a, b], _ => exact ⟨a, b, rfl⟩
theorem list_len3 {α : Type} {l : List α} (h : l.length = 3) : ∃ a b c, l = [a, b, c] := by
  match l, h with
  | [a, b, c], _ => exact ⟨a, b, c, rfl⟩
theorem list_len4 {α : Type} {l : List α} (h : l.length = 4) : ∃ a b c d, l = [a, b, c, d] := by
  match l, h with
  | [a, b, c, d], _ => exact ⟨a, b, c, d, rfl⟩
theorem list_len6 {α : Type} {l : List α} (h : l.length = 6) : ∃ a b c d e f, l = [a, b, c, d, e, f] := by
  match l, h with
  | [a, b, c, d, e, f], _ => exact ⟨a, b, c, d, e, f, rfl⟩
theorem FK_of_V {α : Type} {d : Kd α} {e e' base : Nat} {W : World} {ok : Nat → Prop} {v : Value} {xs : List α} (h : Kd.V d e' W base ok v xs) : Kd.FK (Kd.slice e d) W ok xs [v] := by
  obtain ⟨A, c, hv⟩ := Kd.V_slice h
  subst hv
  exact Kd.FK_slice_mk (Kd.V_reads' h).2.1 (Kd.V_F h)
/-- An element of a slice of whole numbers that is read. -/
theorem at_int {w : World} {k : IntKind} {A : Option Addr} {n : Nat} {xs : List Int} (h : Kd.C (Kd.int k) w A n xs) (i : Int) (h0 : 0 ≤ i) (h1 : i < n) : ∃ ad, A = some ad ∧ w.cell? (ad.add i.toNat) = some (.int k (rd xs i)) := by
  obtain ⟨ad, cs, e1, _, hK, hcell⟩ := Kd.C_get h 0 i h0 h1
  obtain rfl : cs = [.int k (xs.getD i.toNat 0)] := hK
  have h9 : w.cell? (ad.add (i.toNat * 1 + 0)) = some (.int k (xs.getD i.toNat 0)) := hcell 0 _ rfl
  rw [Nat.mul_one, Nat.add_zero] at h9
  exact ⟨ad, e1, h9⟩
theorem all_same {α : Type} {p q : α → Bool} : ∀ {l : List α}, (∀ x ∈ l, p x = q x) → l.all p = l.all q
  | [], _ => rfl
  | a :: l, h => by rw [List.all_cons, List.all_cons, h a List.mem_cons_self, all_same fun x hx => h x (List.mem_cons_of_mem _ hx)]
theorem any_same {α : Type} {p q : α → Bool} : ∀ {l : List α}, (∀ x ∈ l, p x = q x) → l.any p = l.any q
  | [], _ => rfl
  | a :: l, h => by rw [List.any_cons, List.any_cons, h a List.mem_cons_self, any_same fun x hx => h x (List.mem_cons_of_mem _ hx)]
/-- The place of the first element of which p is true, -1 for none. -/
def idxf {α : Type} (p : α → Bool) (l : List α) : Int := match l.findIdx? p with
  | some i => (i : Int)
  | none => -1
theorem findIdx_same {α : Type} {p q : α → Bool} : ∀ {l : List α}, (∀ x ∈ l, p x = q x) → l.findIdx? p = l.findIdx? q
  | [], _ => rfl
  | a :: l, h => by rw [List.findIdx?_cons, List.findIdx?_cons, h a List.mem_cons_self, findIdx_same fun x hx => h x (List.mem_cons_of_mem _ hx)]
theorem idxf_same {α : Type} {p q : α → Bool} {l : List α} (h : ∀ x ∈ l, p x = q x) : idxf p l = idxf q l := by unfold idxf; rw [findIdx_same h]
theorem idxf_hit {α : Type} {p : α → Bool} {l : List α} {k : Nat} (hk : k < l.length) (h : p l[k] = true) (hb : ∀ j, (hj : j < k) → p (l[j]'(by omega)) = false) : idxf p l = k := by
  have : l.findIdx? p = some k := by
    rw [List.findIdx?_eq_some_iff_getElem]
    exact ⟨hk, h, fun j hj => by simp [hb j hj]⟩
  simp [idxf, this]
theorem idxf_miss {α : Type} {p : α → Bool} {l : List α} (h : ∀ j, (hj : j < l.length) → p l[j] = false) : idxf p l = -1 := by
  have : l.findIdx? p = none := by
    rw [List.findIdx?_eq_none_iff]
    intro x hx
    obtain ⟨j, hj, rfl⟩ := List.getElem_of_mem hx
    exact h j hj
  simp [idxf, this]
theorem idxf_any {α : Type} (p : α → Bool) (l : List α) : decide (idxf p l ≥ 0) = l.any p := by
  unfold idxf
  cases h : l.findIdx? p with
  | some i =>
    have : l.any p = true := by
      obtain ⟨hi, hp, _⟩ := List.findIdx?_eq_some_iff_getElem.1 h
      exact List.any_eq_true.2 ⟨_, List.getElem_mem hi, hp⟩
    simp [this]
  | none =>
    have := List.findIdx?_eq_none_iff.1 h
    have : l.any p = false := by
      rw [List.any_eq_false]
      intro x hx
      simp [this x hx]
    simp [this]
end Go.Proofs.YtchbcdafomhlaaaW.PrintMore
