/-
  How an argument of whatever shape (numbers, bools, texts, slices, structs, one in another) is read as a list or struct of the print's kinds: words of this claim's own, over any program.
-/
import Derived.Test.YtchbcdafomhlaaaWWords
import Derived.Test.YtchbcdafomhlaaaWMore
import Derived.ProofKit
import Derived.OpenShut
import Derived.ChangeArms
import Derived.WideShapes
namespace Go.Proofs.YtchbcdafomhlaaaW.PrintMore
open Go.RowKit Go.ChangeShapes Go.WideShapes Go.Proofs.YtchbcdafomhlaaaW.PrintWords Go.Proofs.YtchbcdafomhlaaaW.PrintLast
/-- What can be read as data at type t says an x of kind d, of which W is known. -/
structure Opens {α : Type} (P : Program) (t : TypeId) (d : Kd α) (W : α → Prop) : Prop where
  out : ∀ {H : Type} (enc : TypeId × Value → H) (w : World) (base : Nat) (spare : Nat → Bool) (held : Bool) (fuel : Nat) (cs : List Value) (x : DataW H × List MemPlace),
    DataW.trod enc P w base spare held fuel t cs = some x → ∃ y, d.K w y cs ∧ W y
/-- The same for the last fields of a struct, from a cell on. -/
structure OpensF {α : Type} (P : Program) (fs : List Field) (off : Nat) (d : Kd α) (W : α → Prop) : Prop where
  out : ∀ {H : Type} (enc : TypeId × Value → H) (w : World) (base : Nat) (spare : Nat → Bool) (held : Bool) (n : Nat) (cs : List Value),
    cs.length = off + d.sz → (∀ f, f ∈ fs → ∃ x, DataW.trod enc P w base spare held n f.type ((cs.drop f.offset).take (P.cellsOf f.type)) = some x) → ∃ y, d.K w y (cs.drop off) ∧ W y
section
variable {P : Program} {t e : TypeId}
theorem Opens.int {k : IntKind} (ht : P.underlying t = some (.int k)) : Opens P t (Kd.int k) (fun n => (Lit.int k n).wf = true) := by
  constructor
  intro H enc w base spare held fuel cs x h
  obtain ⟨n, rfl, _, hw⟩ := DataW.trod_int ht h
  exact ⟨n, rfl, hw⟩
theorem Opens.bool (ht : P.underlying t = some .bool) : Opens P t Kd.bool (fun _ => True) := by
  constructor
  intro H enc w base spare held fuel cs x h
  obtain ⟨b, rfl, _⟩ := DataW.trod_bool ht h
  exact ⟨b, rfl, trivial⟩
theorem Opens.string (ht : P.underlying t = some .string) : Opens P t Kd.string (fun s => s.size ≤ maxLen) := by
  constructor
  intro H enc w base spare held fuel cs x h
  obtain ⟨s, rfl, _, hw⟩ := DataW.trod_string ht h
  exact ⟨s, rfl, hw⟩
theorem Opens.slice {α : Type} {d : Kd α} {W : α → Prop} (ht : P.underlying t = some (.slice e)) (hc : P.cellsOf e = d.sz) (h : Opens P e d W) : Opens P t (Kd.slice e d) (fun l => l.length ≤ maxLen ∧ ∀ x, x ∈ l → W x) := by
  constructor
  intro H enc w base spare held fuel cs x hx
  rcases DataW.trod_slice ht hx with ⟨rfl, _⟩ | ⟨a, len, cap, elems, rest, n, _, rfl, _, hb, hl, hm, hlen, hel, _, _⟩
  · exact ⟨[], ⟨none, 0, rfl, Nat.le_refl _, ⟨rfl, by simp, fun hp => absurd hp (by simp)⟩⟩, by simp, fun x hx => by cases hx⟩
  · have each : ∀ i, i < len → ∃ y cs', d.K w y cs' ∧ W y ∧ ∀ j u, cs'[j]? = some u → w.cell? (a.add (i * d.sz + j)) = some u := by
      intro i hi
      have h1 := hel i hi
      rw [List.getElem?_eq_getElem (by omega), Option.bind_eq_some_iff] at h1
      obtain ⟨cs', hcs, hy⟩ := h1
      obtain ⟨y, hK, hW⟩ := h.out enc w base spare held n cs' _ hy
      refine ⟨y, cs', hK, hW, fun j u hj => ?_⟩
      obtain ⟨_, hl2, hcell⟩ := World.cells?_some hcs
      have hjl : j < cs'.length := (List.getElem?_eq_some_iff.1 hj).1
      have := hcell j (by omega)
      rw [hj, hc] at this
      rw [← this]
      congr 1
      unfold Addr.add
      by_cases h1 : i * d.sz = 0 <;> by_cases h2 : j = 0 <;> simp [h1, h2, Nat.add_assoc]
    have pick : ∃ l : List α, l.length = len ∧ ∀ i, (hi : i < l.length) → ∃ cs', d.K w l[i] cs' ∧ W l[i] ∧ ∀ j u, cs'[j]? = some u → w.cell? (a.add (i * d.sz + j)) = some u := by
      clear hel hlen hx
      have : ∀ m, m ≤ len → ∃ l : List α, l.length = m ∧ ∀ i, (hi : i < l.length) → ∃ cs', d.K w l[i] cs' ∧ W l[i] ∧ ∀ j u, cs'[j]? = some u → w.cell? (a.add (i * d.sz + j)) = some u := by
        intro m
        induction m with
        | zero => intro _; exact ⟨[], rfl, fun i hi => absurd hi (by simp)⟩
        | succ m ih =>
          intro hm
          obtain ⟨l, hl, hs⟩ := ih (by omega)
          obtain ⟨y, cs', h1, h2, h3⟩ := each m (by omega)
          refine ⟨l ++ [y], by simp [hl], fun i hi => ?_⟩
          by_cases him : i < l.length
          · obtain ⟨c, k1, k2, k3⟩ := hs i him
            exact ⟨c, by rw [List.getElem_append_left him]; exact k1, by rw [List.getElem_append_left him]; exact k2, k3⟩
          · have : i = m := by simp at hi; omega
            subst this
            have hg : (l ++ [y])[i] = y := by rw [List.getElem_append_right (by omega)]; simp [hl]
            exact ⟨cs', by rw [hg]; exact h1, by rw [hg]; exact h2, h3⟩
      exact this len (Nat.le_refl _)
    obtain ⟨l, hll, hs⟩ := pick
    refine ⟨l, ⟨some a, cap, by rw [hll], by omega, ?_⟩, by omega, fun x hx => ?_⟩
    · refine ⟨rfl, by simp only [maxLen] at hm; omega, fun _ => ⟨a, rfl, fun i p hp => ?_⟩⟩
      obtain ⟨hi, rfl⟩ := List.getElem?_eq_some_iff.1 hp
      obtain ⟨c, k1, _, k3⟩ := hs i hi
      exact ⟨c, Kd.K_len _ k1, k1, k3⟩
    · obtain ⟨i, hi, rfl⟩ := List.getElem_of_mem hx
      obtain ⟨_, _, k2, _⟩ := hs i hi
      exact k2
theorem OpensF.one {α : Type} {d : Kd α} {W : α → Prop} {f : Field} {off : Nat} (ho : f.offset = off) (hc : P.cellsOf f.type = d.sz) (h : Opens P f.type d W) : OpensF P [f] off d W := by
  constructor
  intro H enc w base spare held n cs hl hf
  obtain ⟨x, hx⟩ := hf f List.mem_cons_self
  rw [ho, hc, List.take_of_length_le (by rw [List.length_drop]; omega)] at hx
  exact h.out enc w base spare held n _ x hx
theorem OpensF.cons {α β : Type} {a : Kd α} {d : Kd β} {W : α → Prop} {W' : β → Prop} {f : Field} {fs : List Field} {off : Nat} (ho : f.offset = off) (hc : P.cellsOf f.type = a.sz) (h : Opens P f.type a W) (hr : OpensF P fs (off + a.sz) d W') :
    OpensF P (f :: fs) off (Kd.pair a d) (fun y => W y.1 ∧ W' y.2) := by
  constructor
  intro H enc w base spare held n cs hl hf
  replace hl : cs.length = off + (a.sz + d.sz) := hl
  obtain ⟨x, hx⟩ := hf f List.mem_cons_self
  rw [ho, hc] at hx
  obtain ⟨y, hy, hW⟩ := h.out enc w base spare held n _ x hx
  obtain ⟨z, hz, hW'⟩ := hr.out enc w base spare held n cs (by omega) (fun g hg => hf g (List.mem_cons_of_mem _ hg))
  refine ⟨(y, z), ⟨(cs.drop off).take a.sz, cs.drop (off + a.sz), ?_, hy, hz⟩, hW, hW'⟩
  rw [← List.drop_drop, List.take_append_drop]
theorem Opens.struct {α : Type} {d : Kd α} {W : α → Prop} {fs : Array Field} (ht : P.underlying t = some (.struct fs)) (hc : P.cellsOf t = d.sz) (h : OpensF P fs.toList 0 d W) : Opens P t d W := by
  constructor
  intro H enc w base spare held fuel cs x hx
  obtain ⟨xs, n, _, _, hl, hn, hf⟩ := DataW.trod_struct ht hx
  have := h.out enc w base spare held n cs (by omega) (fun f hfm => by
    obtain ⟨i, hi, rfl⟩ := List.getElem_of_mem hfm
    have hi' : i < fs.size := by simpa using hi
    have := hf i fs[i] (Array.getElem?_eq_getElem hi')
    rw [List.getElem?_eq_getElem (by omega)] at this
    exact ⟨_, by simpa using this⟩)
  simpa using this
theorem Opens.iso {α β : Type} {d : Kd α} {W : α → Prop} (f : β → α) (g : α → β) (hfg : ∀ y, f (g y) = y) (h : Opens P t d W) : Opens P t (Kd.iso d f) (fun b => W (f b)) := by
  constructor
  intro H enc w base spare held fuel cs x hx
  obtain ⟨y, hy, hW⟩ := h.out enc w base spare held fuel cs x hx
  refine ⟨g y, ?_, show W (f (g y)) from by rw [hfg]; exact hW⟩
  show d.K w (f (g y)) cs
  rw [hfg]; exact hy
theorem Opens.weak {α : Type} {d : Kd α} {W W' : α → Prop} (h : Opens P t d W) (hw : ∀ x, W x → W' x) : Opens P t d W' := by
  constructor
  intro H enc w base spare held fuel cs x hx
  obtain ⟨y, hy, hW⟩ := h.out enc w base spare held fuel cs x hx
  exact ⟨y, hy, hw y hW⟩
end
end Go.Proofs.YtchbcdafomhlaaaW.PrintMore
