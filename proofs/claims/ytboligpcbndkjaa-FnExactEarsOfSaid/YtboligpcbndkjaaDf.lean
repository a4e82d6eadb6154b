/-
  slices.DeleteFunc at a row of whole numbers that the call owns, by a function that asks and turns nothing: words of this claim's own, over any program (the shelf's contract, said of the print's rows).
-/
import Derived.Test.YtboligpcbndkjaaWWords
import Derived.Test.YtboligpcbndkjaaWKept
import Derived.Test.YtboligpcbndkjaaWMore
import Derived.Shelf.SlicesE.DeleteFunc
import Derived.Ground.SlgfProg
import Derived.Lib.OwnBridge
namespace Go.Proofs.YtboligpcbndkjaaW.PrintMore
open Go.RowKit Go.Shelf Go.Lib Go.Sort Go.Proofs.YtboligpcbndkjaaW.PrintWords
theorem delf_R {P : Program} {ρ : Ren} (L : Go.Proofs.SlLaysH.n10 P ρ) (p : Int → Bool) (g : Nat) (lb : Array Value) (eg : ∀ args w, (callFunc g args).run P w = .ok (.enter g args) w)
    (v23 : ∀ w, (zeroValue (ρ.t 23)).run P w = .ok (.int .i64 0) w) {e base : Nat} {ok : Nat → Prop} {w0 w : World} {u : Value} {l : List Int}
    (h : (Kd.int .i64).R e w base ok u l) (hpos : 0 < l.length) (hB : Below base w0 w) (hp : PredAt P g lb (Value.int .i64) p w) (hpo : ∀ b, u.ownBlock = some b → PredOver P g lb (Value.int .i64) p b 0 l.length w) :
    Calls P (ρ.f 10) #[u, .func (.func g) #[] lb] w fun e' w' => ∃ v0, e' = .returned v0 ∧ (Kd.int .i64).R e w' base (fun k => ok k ∨ w.heap.size ≤ k) v0 (l.filter fun x => !p x) ∧ Below base w0 w' ∧ Kept w w' (fun k => ok k) := by
  obtain ⟨b, cap, rfl, hb, hlt, _⟩ := Kd.R_form h hpos
  have hown := Kd.own_of_R h
  obtain ⟨b', cap', he, _, _, hcap, hmax, _, hH⟩ := Go.Lib.holds_of_ownsRow (enc := Value.int .i64) (zs := l) (by simpa [encs] using hown) (by simp)
  cases he
  have hok : ok b := h.1 b rfl
  have hc := Go.Proofs.AnyE.slices_DeleteFunc L (Value.int .i64) (fun _ => rfl) p g lb eg 0 v23 b 0 cap l.toArray w hp (by simpa using hpo b rfl) hH (by have := hmax; unfold maxLen at this; simp; omega) (by simpa using hcap)
  have hfl : (l.filter fun x => !p x).length ≤ l.length := List.length_filter_le _ _
  simp only [List.size_toArray] at hc
  refine hc.mono ?_
  rintro e' w' ⟨rfl, q, rfl⟩
  refine ⟨_, rfl, ?_, Go.Lib.below_putRow hB hb, ?_, ?_⟩
  · have h2 := Go.Lib.ownsRow_putRow (enc := Value.int .i64) (q := q) (k := (l.filter fun x => !p x).length) (ys := (l.filter fun x => !p x) ++ List.replicate (l.length - (l.filter fun x => !p x).length) 0) (zs := l) (by simpa [encs] using hown) (by simp; omega) hfl
    rw [List.take_left' rfl] at h2
    exact Kd.R_of_own (by simpa [encs] using h2) (fun k hk => .inl (by have : b = k := by simpa [Value.ownBlock] using hk
                                                                       subst this; exact hok))
  · simp [putRow, mapBlock, Sort.ahead]
  · intro i hi hn
    have hne : b ≠ i := fun e => hn (e ▸ hok)
    simp [putRow, mapBlock, Sort.ahead, Array.getElem?_modify, hne]
/-- The premises of a question that looks at one variable of two cells alone. -/
theorem predAt_box {P : Program} {g B t : Nat} {c0 c1 : Value} {p : Int → Bool} {w : World} (hq : w.heap[B]? = some (.cells #[c0, c1] t (0, 0)))
    (hc : ∀ (W : World) (x : Int), W.heap[B]? = some (.cells #[c0, c1] t (0, 0)) → Calls P g #[.int .i64 x, .pointer (some ⟨B, 0, none⟩)] W fun e W' => e = .returned (.bool (p x)) ∧ Drawn0 W W') :
    PredAt P g #[.pointer (some ⟨B, 0, none⟩)] (Value.int .i64) p w ∧ ∀ b n, b ≠ B → PredOver P g #[.pointer (some ⟨B, 0, none⟩)] (Value.int .i64) p b 0 n w := by
  constructor
  · intro W x hb
    refine (hc W x ((hb.block B (blk_lt hq)).trans hq)).mono ?_
    rintro e w' ⟨rfl, ⟨n, rfl⟩⟩
    exact ⟨rfl, n, rfl⟩
  · intro b n hne m os dk x _
    refine (hc _ x ?_).mono ?_
    · have hlt := blk_lt hq
      have e1 : (putRow (Value.int .i64) (Sort.ahead w m) b 0 dk).heap[B]? = some (.cells #[c0, c1] t (0, 0)) := by simp [putRow, mapBlock, Sort.ahead, Array.getElem?_modify, hne, hq]
      show ((putRow (Value.int .i64) (Sort.ahead w m) b 0 dk).heap ++ os)[B]? = _
      rw [Array.getElem?_append_left (by simpa [putRow, mapBlock, Sort.ahead] using hlt)]
      exact e1
    · rintro e w' ⟨rfl, ⟨n, rfl⟩⟩
      exact ⟨rfl, n, rfl⟩
end Go.Proofs.YtboligpcbndkjaaW.PrintMore
