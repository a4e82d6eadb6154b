/-
  Rows of whatever elements that are cut in place (slices.Delete, one element), cell by cell: words of this claim's own, over any program.
-/
import Derived.Test.YtadfmbmnnekamaaWWords
import Derived.Test.YtadfmbmnnekamaaWN
import Derived.Lib.OwnBridge
import Derived.Shelf.GgSortFunc.RowK
import Derived.Shelf.RegionOpenPlain
import Derived.Lib.SliceRun
import Derived.Laws.IdiomCopy
import Derived.Deep.RegionLaw
set_option linter.unusedSimpArgs false
set_option linter.unusedVariables false
namespace Go.Proofs.YtadfmbmnnekamaaW.PrintMore
open Go.RowKit Go.Shelf Go.Lib Go.Sort Go.Proofs.YtadfmbmnnekamaaW.PrintWords
theorem ownsK {w : World} {base : Nat} {e : TypeId} {sz g n cap q k : Nat} {inner : List Value} (h : w.ownsRow base e sz (.slice (some ⟨g, 0, none⟩) n cap) n inner) (F : Array Value) (hF : F.size = n * sz) (hk : k ≤ n) :
    (putRow id (Sort.ahead w q) g 0 F).ownsRow base e sz (.slice (some ⟨g, 0, none⟩) k cap) k (F.toList.take (k * sz)) := by
  rcases h.2 with ⟨e0, _⟩ | ⟨g', cap', cur, e0, hb, hg, hn, hm, hs, ht⟩
  · cases e0
  · injection e0 with e1 _ e3
    injection e1 with e1
    injection e1 with e1
    subst e1; subst e3
    have hks : k * sz ≤ n * sz := Nat.mul_le_mul_right _ hk
    have hns : n * sz ≤ cap * sz := Nat.mul_le_mul_right _ hn
    refine ⟨by simp; omega, .inr ⟨g, cap, putCells id 0 F cur, rfl, hb, ?_, by omega, hm, by simpa [putCells] using hs, ?_⟩⟩
    · simp [putRow, mapBlock, Sort.ahead, Array.getElem?_modify, hg, onCells]
    · apply List.ext_getElem?
      intro j
      rw [List.getElem?_take, List.getElem?_take, Array.getElem?_toList, Array.getElem?_toList]
      by_cases hj : j < k * sz
      · have hjc : j < cur.size := by omega
        simp only [if_pos hj, putCells, Array.getElem?_mapIdx, Array.getElem?_eq_getElem hjc, Option.map_some]
        rw [if_pos (by simp; omega), Array.getElem?_eq_getElem (by omega)]
        simp [getElem!_pos, show j < F.size by omega]
      · simp [hj]
theorem holdsK {w : World} {base : Nat} {e : TypeId} {sz g n cap : Nat} {inner : List Value} (h : w.ownsRow base e sz (.slice (some ⟨g, 0, none⟩) n cap) n inner) : Holds id w g 0 inner.toArray ∧ base ≤ g ∧ g < w.heap.size ∧ n ≤ cap ∧ cap ≤ maxLen ∧ inner.length = n * sz := by
  rcases h.2 with ⟨e0, _⟩ | ⟨g', cap', cur, e0, hb, hg, hn, hm, hs, ht⟩
  · cases e0
  · injection e0 with e1 _ e3
    injection e1 with e1
    injection e1 with e1
    subst e1; subst e3
    have hl := h.1
    refine ⟨fun j hj => ?_, hb, blk_lt hg, hn, hm, hl⟩
    have hj' : j < inner.length := by simpa using hj
    refine ⟨?_, by simp [World.frozen?, hg]⟩
    have e1 : (cur.toList.take (n * sz))[j]? = inner[j]? := by rw [ht]
    rw [List.getElem?_take, if_pos (by omega), Array.getElem?_toList, List.getElem?_eq_getElem hj'] at e1
    simp only [World.cell?, hg, Nat.zero_add]
    simp only [Option.isSome_none, Bool.false_eq_true, if_false]
    rw [e1]
    simp [getElem!_pos, hj']
theorem take_setMany {inner news zs : List Value} {i n sz : Nat} (hl : inner.length = n * sz) (hi : i < n) (hnews : news = inner.drop ((i + 1) * sz)) (hz : zs.length = sz) :
    (setMany (setMany inner.toArray (i * sz) news) ((n - 1) * sz) zs).toList.take ((n - 1) * sz) = inner.take (i * sz) ++ inner.drop ((i + 1) * sz) := by
  obtain ⟨m, rfl⟩ : ∃ m, n = m + 1 := ⟨n - 1, by omega⟩
  have e1 : (m + 1) * sz = m * sz + sz := Nat.succ_mul _ _
  have e2 : (i + 1) * sz = i * sz + sz := Nat.succ_mul _ _
  have e3 : i * sz ≤ m * sz := Nat.mul_le_mul_right _ (by omega)
  have hnl : news.length = m * sz - i * sz := by rw [hnews, List.length_drop]; omega
  simp only [Nat.add_sub_cancel]
  apply List.ext_getElem?
  intro j
  rw [List.getElem?_take]
  by_cases hj : j < m * sz
  · rw [if_pos hj, Array.getElem?_toList]
    have hs : j < (setMany (setMany inner.toArray (i * sz) news) (m * sz) zs).size := by simp; omega
    rw [Array.getElem?_eq_getElem hs, ← getElem!_pos (setMany (setMany inner.toArray (i * sz) news) (m * sz) zs) j hs, get_setMany _ _ _ _ (by simp; omega), if_neg (by omega), get_setMany _ _ _ _ (by simp; omega)]
    by_cases hj2 : j < i * sz
    · rw [if_neg (by omega), List.getElem?_append_left (by simp; omega), List.getElem?_take, if_pos hj2, getElem!_pos inner.toArray j (by simp; omega)]
      simp [show j < inner.length by omega]
    · rw [if_pos (by omega), List.getElem?_append_right (by simp; omega), ← hnews, getElem!_pos news (j - i * sz) (by omega)]
      simp only [List.length_take]
      rw [show j - min (i * sz) inner.length = j - i * sz by omega, List.getElem?_eq_getElem (by omega)]
  · rw [if_neg hj, List.getElem?_eq_none (by simp; omega)]
/-- 'clear' of a slice of one element. -/
theorem clear_one {P : Program} (w : World) (t e ty : TypeId) (z : Value) (ht : P.underlying t = some (.slice e)) (hv : ∀ w, (zeroValue e).run P w = .ok z w) (h1 : ∀ u ∈ z.cells.toList, u.oneCell' = true) (b o c : Nat)
    (hc : ∀ j, j < z.cells.size → (w.cell? ⟨b, o + j, none⟩).isSome = true) (hf : ∀ j, j < z.cells.size → w.frozen? ⟨b, o + j, none⟩ = false) :
    (Builtin.clear_ #[t] ty #[.slice (some ⟨b, o, none⟩) 1 c]).run P w = .ok (.tuple #[]) (w.setCells b o z.cells.toList) := by
  have hzc : (Builtin.zeroCells z.cells 1).toList = z.cells.toList := by
    simp only [Builtin.zeroCells]
    apply List.ext_getElem?
    intro i
    by_cases hi : i < z.cells.size
    · simp [hi, Nat.mod_eq_of_lt hi]
    · simp [hi]
  have hst := run_storeCells_cells (P := P) b o z.cells.toList 0 w (by simpa using hc) (by simpa using hf) h1
  simp only [Nat.add_zero] at hst
  simp [Builtin.clear_, run_underlying ht, hv, hzc, hst]
end Go.Proofs.YtadfmbmnnekamaaW.PrintMore
