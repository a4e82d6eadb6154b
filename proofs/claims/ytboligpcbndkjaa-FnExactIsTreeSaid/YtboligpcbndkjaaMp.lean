/-
  A map of whole numbers that a function makes, looks up and writes, all of whose values are true: words of this claim's own, over any program.
-/
import Derived.Test.YtboligpcbndkjaaWWords
import Derived.Test.YtboligpcbndkjaaWMore
import Derived.Maps.Own
set_option linter.unusedSimpArgs false
namespace Go.Proofs.YtboligpcbndkjaaW.PrintMore
open Go.RowKit Go.ChangeMaps Go.MapKept Go.Proofs.YtboligpcbndkjaaW.PrintWords
/-- what a map of whole numbers, all of them true, holds: its keys in the order in which they came -/
def ments : Nat → List Int → List MapEntry
  | _, [] => []
  | i, x :: l => { key := .int .i64 x, val := .bool true, born := i } :: ments (i + 1) l
def mobj (c : List Int) : Obj := .map (ments 0 c).toArray c.length
def mput (c : List Int) (x : Int) : List Int := if c.contains x then c else c ++ [x]

theorem ments_find (x : Int) : ∀ (c : List Int) (i j : Nat), Instr.findNow (.int .i64) (.int .i64 x) (ments i c) j = some (if c.contains x then some (j + c.idxOf x, .bool true) else none)
  | [], i, j => by simp [ments, Instr.findNow]
  | y :: c, i, j => by
    have e : Instr.sameNow (.int .i64) (.int .i64 x) (.int .i64 y) = some (x == y) := by simp [Instr.sameNow]
    unfold ments Instr.findNow
    rw [e]
    by_cases h : x = y
    · subst h
      simp [List.idxOf, List.findIdx_cons]
    · have h1 : (x == y) = false := by simpa using h
      have h2 : (y == x) = false := by simpa using (fun e => h e.symm)
      rw [h1]
      simp only []
      rw [ments_find x c (i + 1) (j + 1)]
      simp only [List.contains_cons, h1, Bool.false_or, List.idxOf_cons, h2, cond_false]
      congr 2
      rw [Nat.add_assoc, Nat.add_comm 1]
theorem ments_append (x : Int) : ∀ (c : List Int) (i : Nat), ments i (c ++ [x]) = ments i c ++ [{ key := .int .i64 x, val := .bool true, born := i + c.length }]
  | [], i => by simp [ments]
  | y :: c, i => by
    simp only [List.cons_append, ments, ments_append x c (i + 1), List.length_cons]
    rw [Nat.add_assoc, Nat.add_comm 1]
theorem ments_length : ∀ (c : List Int) (i : Nat), (ments i c).length = c.length
  | [], i => rfl
  | y :: c, i => by simp [ments, ments_length c]
theorem ments_get (x : Int) : ∀ (c : List Int) (i : Nat), c.contains x = true → ∃ b, (ments i c)[c.idxOf x]? = some { key := .int .i64 x, val := .bool true, born := b }
  | [], i, h => by simp at h
  | y :: c, i, h => by
    by_cases e : y = x
    · subst e; exact ⟨i, by simp [ments]⟩
    · have h2 : (y == x) = false := by simpa using e
      have h1 : (x == y) = false := by simpa using (fun h => e h.symm)
      rw [List.contains_cons, h1, Bool.false_or] at h
      obtain ⟨b, hb⟩ := ments_get x c (i + 1) h
      exact ⟨b, by simpa [ments, List.idxOf_cons, h2] using hb⟩

theorem isk (x : Int) : IsKey (.int .i64) (.int .i64 x) := rfl
theorem lk_run {P : Program} {w : World} {g t k e : Nat} {c : List Int} {x : Int} (ht : P.underlying t = some (.map k e)) (hk : P.underlying k = some (.int .i64)) (hz : (zeroValue e).run P w = .ok (.bool false) w)
    (hb : w.heap[g]? = some (mobj c)) : (Instr.lookup t (.map (some g)) (.int .i64 x) false).run P w = .ok (.bool (c.contains x)) w := by
  have hf := run_findKey (P := P) (w := w) hk (ments_find x c 0 0)
  have hc : ∀ b, (Instr.checkKey b 10000 k (.int .i64 x)).run P w = .ok () w := fun b => run_checkKey hk (isk x) b 9999
  have hg : (getObj g).run P w = .ok (.map (ments 0 c).toArray c.length) w := MapKept.run_getObj_map hb
  cases h : c.contains x <;> rw [h] at hf <;> simp [Instr.lookup, run_underlying ht, hg, hc, hf, hz]

theorem mput_run {P : Program} {w : World} {g t k e : Nat} {c : List Int} {x : Int} (ht : P.underlying t = some (.map k e)) (hk : P.underlying k = some (.int .i64))
    (hb : w.heap[g]? = some (mobj c)) : (Instr.mapUpdate t (.map (some g)) (.int .i64 x) (.bool true)).run P w = .ok () (setBlock w g (mobj (mput c x))) := by
  have hf := run_findKey (P := P) (w := w) hk (ments_find x c 0 0)
  have hc : (Instr.checkKey false 10000 k (.int .i64 x)).run P w = .ok () w := run_checkKey hk (isk x) false 9999
  have hg : (getObj g).run P w = .ok (.map (ments 0 c).toArray c.length) w := MapKept.run_getObj_map hb
  have hs : ∀ o, (setObj g o).run P w = .ok () (setBlock w g o) := fun o => run_setObj_map o hb
  cases h : c.contains x with
  | false =>
    rw [h] at hf
    simp [Instr.mapUpdate, run_underlying ht, hg, hc, hf, hs, mput, h, mobj, ments_append]
    have hm : x ∉ c := fun hx => by rw [List.contains_iff_mem.2 hx] at h; cases h
    simp [hm, ments_append]
  | true =>
    rw [h] at hf
    obtain ⟨b, hb2⟩ := ments_get x c 0 h
    have hst : (Instr.keyThatStays (.int .i64 x) (.int .i64 x)).run P w = .ok (.int .i64 x) w := run_keyThatStays (d := .int .i64) (isk x)
    simp [Instr.mapUpdate, run_underlying ht, hg, hc, hf, hs, mput, h, mobj, hb2, hst]
    have hm : x ∈ c := List.contains_iff_mem.1 h
    have hmo : ((ments 0 c).modify (List.idxOf x c) fun e => { key := Value.int IntKind.i64 x, val := Value.bool true, born := e.born }) = ments 0 c := by
      refine List.ext_getElem? fun j => ?_
      rw [List.getElem?_modify]
      by_cases e : List.idxOf x c = j
      · subst e
        rw [hb2]
        simp
      · simp [e]
    simp [hm, hmo]

theorem mk_far {w : World} {g : Nat} {o : Obj} (h : w.heap[g]? = some o) {p : Addr} (hp : g ≠ p.block) (u : Value) : (w.setCell p u).heap[g]? = some o := (Below.heap_setCell w p u g hp).trans h
theorem mk_same {w : World} {g : Nat} {c c2 : List Int} (h : w.heap[g]? = some (mobj c)) : (setBlock w g (mobj c2)).heap[g]? = some (mobj c2) := heap_setBlock_same h _
theorem mk_other {w : World} {g i : Nat} {c c2 : List Int} {o : Obj} (h : w.heap[g]? = some (mobj c)) (hi : w.heap[i]? = some o) (hne : i ≠ g) : (setBlock w g (mobj c2)).heap[i]? = some o := (heap_setBlock_other h _ hne).trans hi
theorem mk_below {w W : World} {g : Nat} {c c2 : List Int} (h : W.heap[g]? = some (mobj c)) (hb : Below w.heap.size w W) (hg : w.heap.size ≤ g) : Below w.heap.size w (setBlock W g (mobj c2)) :=
  ⟨hb.os, hb.tape, hb.output, by simpa [setBlock] using hb.size, fun k hk => (heap_setBlock_other h _ (by omega)).trans (hb.block k hk)⟩
section
variable {P : Program} {ops : Array Oper} {rest : List Oper} {o : Oper} {a : Act} {Q : Exit → Act → World → Prop}
theorem map_event {W : World} (hgd : o.guard = none) {t : TypeId} (ho : o.op = .makeMap t none)
    (h : ∀ g, g = W.heap.size → ∀ w1, w1.heap[g]? = some (mobj []) → Below W.heap.size W w1 → wpList P ops Q rest (a.put o.dst (.map (some g))) w1) : wpList P ops Q (o :: rest) a W := by
  refine wpList_plain hgd fun K hK => ?_
  unfold Oper.wp
  have hr : (execOp a.eval o).run P W = .ok (.value (.map (some W.heap.size))) (W.alloc (.map #[] 0)) := by
    simp only [execOp, ho]
    rfl
  rw [hr]
  exact hK _ _ (h _ rfl _ (heap_alloc_new W _) ((Below.refl _ _).alloc (Nat.le_refl _) _))
theorem gate_mput {W : World} {t : TypeId} {m x v : Operand} (_ho : o.op = .mapUpdate t m x v) (h : wpList P ops Q (o :: rest) a W) : wpList P ops Q (o :: rest) a W := h
theorem mput_event {W : World} (hgd : o.guard = none) {t : TypeId} {m x v : Operand} (ho : o.op = .mapUpdate t m x v) (hN : o.dst = none) {g k e : Nat} {c : List Int} {y : Int}
    (hm : a.eval m = .map (some g)) (hx : a.eval x = .int .i64 y) (hv : a.eval v = .bool true) (ht : P.underlying t = some (.map k e)) (hk : P.underlying k = some (.int .i64)) (hb : W.heap[g]? = some (mobj c))
    (h : ∀ w', w' = setBlock W g (mobj (mput c y)) → wpList P ops Q rest a w') : wpList P ops Q (o :: rest) a W := by
  refine wpList_plain hgd fun K hK => ?_
  unfold Oper.wp
  have hr := mput_run (x := y) ht hk hb
  have he : (execOp a.eval o).run P W = .ok .skip (setBlock W g (mobj (mput c y))) := by simp [execOp, ho, hm, hx, hv, hr, Result.andThen]
  rw [he]
  show K (a.put o.dst undef) _
  rw [hN]
  exact hK _ _ (h _ rfl)
end
end Go.Proofs.YtboligpcbndkjaaW.PrintMore
