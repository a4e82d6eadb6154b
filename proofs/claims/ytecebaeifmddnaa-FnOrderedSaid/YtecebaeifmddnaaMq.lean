/-
  A map of whole numbers to values that a function makes, looks up and writes: words of this claim's own, over any program.
-/
import Derived.Test.YtecebaeifmddnaaWWords
import Derived.Test.YtecebaeifmddnaaWMore
import Derived.Test.YtecebaeifmddnaaWKept
import Derived.Maps.Own
set_option linter.unusedSimpArgs false
namespace Go.Proofs.YtecebaeifmddnaaW.PrintMore
open Go.RowKit Go.ChangeMaps Go.MapKept Go.Proofs.YtecebaeifmddnaaW.PrintWords
/-- what a map of whole numbers holds, in the order in which the keys came -/
def pents : Nat → List (Int × Value) → List MapEntry
  | _, [] => []
  | i, (x, v) :: l => { key := .int .i64 x, val := v, born := i } :: pents (i + 1) l
def pobj (c : List (Int × Value)) : Obj := .map (pents 0 c).toArray c.length
def pget (x : Int) : List (Int × Value) → Nat → Option (Nat × Value)
  | [], _ => none
  | (y, v) :: c, j => if x = y then some (j, v) else pget x c (j + 1)
def pput (c : List (Int × Value)) (x : Int) (v : Value) : List (Int × Value) := match pget x c 0 with
  | none => c ++ [(x, v)]
  | some (q, _) => c.set q (x, v)
theorem pents_find (x : Int) : ∀ (c : List (Int × Value)) (i j : Nat), Instr.findNow (.int .i64) (.int .i64 x) (pents i c) j = some (pget x c j)
  | [], i, j => by simp [pents, Instr.findNow, pget]
  | (y, v) :: c, i, j => by
    have e : Instr.sameNow (.int .i64) (.int .i64 x) (.int .i64 y) = some (x == y) := by simp [Instr.sameNow]
    unfold pents Instr.findNow
    rw [e, pget]
    by_cases h : x = y
    · subst h; simp
    · have h1 : (x == y) = false := by simpa using h
      rw [h1, if_neg h]
      exact pents_find x c (i + 1) (j + 1)
theorem pents_append (x : Int) (v : Value) : ∀ (c : List (Int × Value)) (i : Nat), pents i (c ++ [(x, v)]) = pents i c ++ [{ key := .int .i64 x, val := v, born := i + c.length }]
  | [], i => by simp [pents]
  | (y, u) :: c, i => by
    simp only [List.cons_append, pents, pents_append x v c (i + 1), List.length_cons]
    rw [Nat.add_assoc, Nat.add_comm 1]
theorem pget_at (x : Int) : ∀ (c : List (Int × Value)) (j q : Nat) (v : Value), pget x c j = some (q, v) → ∃ d, q = j + d ∧ c[d]? = some (x, v)
  | [], j, q, v, h => by simp [pget] at h
  | (y, u) :: c, j, q, v, h => by
    rw [pget] at h
    by_cases e : x = y
    · rw [if_pos e] at h
      simp only [Option.some.injEq, Prod.mk.injEq] at h
      obtain ⟨rfl, rfl⟩ := h
      exact ⟨0, rfl, by simp [e]⟩
    · rw [if_neg e] at h
      obtain ⟨d, rfl, hd⟩ := pget_at x c (j + 1) q v h
      exact ⟨d + 1, by omega, by simpa using hd⟩
theorem pents_get : ∀ (c : List (Int × Value)) (i q : Nat) (x : Int) (v : Value), c[q]? = some (x, v) → ∃ b, (pents i c)[q]? = some { key := .int .i64 x, val := v, born := b }
  | [], i, q, x, v, h => by simp at h
  | (y, u) :: c, i, 0, x, v, h => by
    simp only [List.getElem?_cons_zero, Option.some.injEq, Prod.mk.injEq] at h
    obtain ⟨rfl, rfl⟩ := h
    exact ⟨i, by simp [pents]⟩
  | (y, u) :: c, i, q + 1, x, v, h => by
    obtain ⟨b, hb⟩ := pents_get c (i + 1) q x v (by simpa using h)
    exact ⟨b, by simpa [pents] using hb⟩
theorem pents_set (x : Int) (v : Value) : ∀ (c : List (Int × Value)) (i q : Nat), ((pents i c).modify q fun e => { key := .int .i64 x, val := v, born := e.born }) = pents i (c.set q (x, v))
  | [], i, q => by cases q <;> simp [pents]
  | (y, u) :: c, i, 0 => by simp [pents]
  | (y, u) :: c, i, q + 1 => by
    simp only [pents, List.modify_succ_cons, List.set_cons_succ]
    rw [pents_set x v c (i + 1) q]
theorem pents_length : ∀ (c : List (Int × Value)) (i : Nat), (pents i c).length = c.length
  | [], i => rfl
  | (y, u) :: c, i => by simp [pents, pents_length c]
theorem pk_run {P : Program} {w : World} {g t k e : Nat} {c : List (Int × Value)} {x : Int} {z : Value} (ht : P.underlying t = some (.map k e)) (hk : P.underlying k = some (.int .i64)) (hz : (zeroValue e).run P w = .ok z w)
    (hb : w.heap[g]? = some (pobj c)) : (Instr.lookup t (.map (some g)) (.int .i64 x) true).run P w = .ok (match pget x c 0 with | some (_, v) => .tuple #[v, .bool true] | none => .tuple #[z, .bool false]) w := by
  have hf := run_findKey (P := P) (w := w) hk (pents_find x c 0 0)
  have hc : ∀ b, (Instr.checkKey b 10000 k (.int .i64 x)).run P w = .ok () w := fun b => run_checkKey hk (show IsKey (.int .i64) (.int .i64 x) from rfl) b 9999
  have hg : (getObj g).run P w = .ok (.map (pents 0 c).toArray c.length) w := MapKept.run_getObj_map hb
  cases h : pget x c 0 with
  | none => rw [h] at hf; simp [Instr.lookup, run_underlying ht, hg, hc, hf, hz]
  | some qv => obtain ⟨q, v⟩ := qv; rw [h] at hf; simp [Instr.lookup, run_underlying ht, hg, hc, hf, hz]
theorem pput_run {P : Program} {w : World} {g t k e : Nat} {c : List (Int × Value)} {x : Int} {v : Value} (ht : P.underlying t = some (.map k e)) (hk : P.underlying k = some (.int .i64))
    (hb : w.heap[g]? = some (pobj c)) : (Instr.mapUpdate t (.map (some g)) (.int .i64 x) v).run P w = .ok () (setBlock w g (pobj (pput c x v))) := by
  have hf := run_findKey (P := P) (w := w) hk (pents_find x c 0 0)
  have hc : ∀ b, (Instr.checkKey b 10000 k (.int .i64 x)).run P w = .ok () w := fun b => run_checkKey hk (show IsKey (.int .i64) (.int .i64 x) from rfl) b 9999
  have hg : (getObj g).run P w = .ok (.map (pents 0 c).toArray c.length) w := MapKept.run_getObj_map hb
  have hs : ∀ o, (setObj g o).run P w = .ok () (setBlock w g o) := fun o => run_setObj_map o hb
  cases h : pget x c 0 with
  | none =>
    rw [h] at hf
    simp [Instr.mapUpdate, run_underlying ht, hg, hc, hf, hs, pput, h, pobj, pents_append]
  | some qv =>
    obtain ⟨q, u⟩ := qv
    rw [h] at hf
    obtain ⟨d, rfl, hd⟩ := pget_at x c 0 q u h
    rw [Nat.zero_add] at hf h
    obtain ⟨b, hb2⟩ := pents_get c 0 d x u hd
    have hst : (Instr.keyThatStays (.int .i64 x) (.int .i64 x)).run P w = .ok (.int .i64 x) w := run_keyThatStays (d := .int .i64) (show IsKey (.int .i64) (.int .i64 x) from rfl)
    simp [Instr.mapUpdate, run_underlying ht, hg, hc, hf, hs, pput, h, pobj, hb2, hst, pents_set]
/-- what each entry of the map says, rows and numbers -/
def Ent (F : Int → List Int → Int → Prop) (e : Nat) (W : World) (base M : Nat) (c : List (Int × Value)) : Prop :=
  ∀ p ∈ c, ∃ (u : Value) (o : List Int) (s : Int), p.2 = .agg #[u, .int .i64 s] ∧ Kd.R (Kd.int .i64) e W base (fun k => k ≠ M) u o ∧ F p.1 o s
/-- a map that says what F says, in a world that has grown out of another -/
structure FrM (F : Int → List Int → Int → Prop) (e : Nat) (w0 : World) (M : Nat) (W : World) : Prop where
  below : Below w0.heap.size w0 W
  map : ∃ c, W.heap[M]? = some (pobj c) ∧ Ent F e W w0.heap.size M c
theorem Ent.of {F : Int → List Int → Int → Prop} {e : Nat} {W W' : World} {base M : Nat} {c : List (Int × Value)} (h : Ent F e W base M c)
    (hr : ∀ u o, Kd.R (Kd.int .i64) e W base (fun k => k ≠ M) u o → Kd.R (Kd.int .i64) e W' base (fun k => k ≠ M) u o) : Ent F e W' base M c := fun p hp => by
  obtain ⟨u, o, s, h1, h2, h3⟩ := h p hp
  exact ⟨u, o, s, h1, hr u o h2, h3⟩
theorem FrM.below_ {F : Int → List Int → Int → Prop} {e : Nat} {w0 W W' : World} {M : Nat} (h : FrM F e w0 M W) (hb : Below W.heap.size W W') : FrM F e w0 M W' := by
  obtain ⟨c, h1, h2⟩ := h.map
  exact ⟨below_then h.below h.below.size hb, c, blk_below h1 hb, h2.of fun u o hr => Kd.R_below hr hb⟩
theorem FrM.lt {F : Int → List Int → Int → Prop} {e : Nat} {w0 W : World} {M : Nat} (h : FrM F e w0 M W) : M < W.heap.size := by
  obtain ⟨c, h1, _⟩ := h.map
  exact blk_lt h1
theorem FrM.ne {F : Int → List Int → Int → Prop} {e : Nat} {w0 W : World} {M g : Nat} {cs : Array Value} {t : Nat} (h : FrM F e w0 M W) (hb : W.heap[g]? = some (.cells cs t (0, 0))) : g ≠ M := by
  rintro rfl
  obtain ⟨c, h1, _⟩ := h.map
  rw [hb] at h1
  cases h1
theorem FrM.set {F : Int → List Int → Int → Prop} {e : Nat} {w0 W : World} {M g i : Nat} {cs : Array Value} {t : Nat} {v : Value} (h : FrM F e w0 M W) (hge : w0.heap.size ≤ g) (hb : W.heap[g]? = some (.cells cs t (0, 0))) (ht : e ≠ t) : FrM F e w0 M (W.setCell ⟨g, i, none⟩ v) := by
  obtain ⟨c, h1, h2⟩ := h.map
  refine ⟨h.below.setCell hge _, c, ?_, h2.of fun u o hr => ?_⟩
  · exact (Below.heap_setCell W ⟨g, i, none⟩ v M (fun e => h.ne hb e.symm)).trans h1
  · exact Kd.R_mono (Kd.R_far (p := ⟨g, i, none⟩) (Kd.R_mono (Kd.R_tight rfl hr) (fun k hk => (⟨hr.1 k hk.symm, fun e => Kd.R_ne hr hb ht (by rw [← e]; exact hk)⟩ : k ≠ M ∧ k ≠ g))) (fun _ hk => hk.2) v) (fun _ hk => hk.1)
theorem pobj_set {w : World} {g : Nat} {c c2 : List (Int × Value)} (h : w.heap[g]? = some (pobj c)) : (setBlock w g (pobj c2)).heap[g]? = some (pobj c2) := heap_setBlock_same h _
theorem pobj_other {w : World} {g i : Nat} {c c2 : List (Int × Value)} (h : w.heap[g]? = some (pobj c)) (hne : i ≠ g) : (setBlock w g (pobj c2)).heap[i]? = w.heap[i]? := heap_setBlock_other h _ hne
theorem pobj_kept {w : World} {g : Nat} {c c2 : List (Int × Value)} (h : w.heap[g]? = some (pobj c)) : Kept w (setBlock w g (pobj c2)) (fun k => k = g) :=
  ⟨by simp [setBlock], fun k _ hn => pobj_other h hn⟩
theorem FrM.put {F : Int → List Int → Int → Prop} {e : Nat} {w0 W : World} {M : Nat} {c : List (Int × Value)} {x s : Int} {u : Value} {o : List Int} (h : FrM F e w0 M W) (hge : w0.heap.size ≤ M) (hm : W.heap[M]? = some (pobj c)) (he : Ent F e W w0.heap.size M c)
    (hu : Kd.R (Kd.int .i64) e W w0.heap.size (fun k => k ≠ M) u o) (hF : F x o s) : FrM F e w0 M (setBlock W M (pobj (pput c x (.agg #[u, .int .i64 s])))) := by
  have hk := pobj_kept (c2 := pput c x (.agg #[u, .int .i64 s])) hm
  have hr : ∀ u o, Kd.R (Kd.int .i64) e W w0.heap.size (fun k => k ≠ M) u o → Kd.R (Kd.int .i64) e (setBlock W M (pobj (pput c x (.agg #[u, .int .i64 s])))) w0.heap.size (fun k => k ≠ M) u o := fun u o hr => Kd.R_step hr (fun k ho hk => pobj_other hm ho)
  have hr2 : ∀ u' o', Kd.R (Kd.int .i64) e W w0.heap.size (fun k => k ≠ M) u' o' → Kd.R (Kd.int .i64) e (setBlock W M (pobj (pput c x (.agg #[u, .int .i64 s])))) w0.heap.size (fun k => k ≠ M) u' o' := fun u o hr => Kd.R_step hr (fun k ho hk => pobj_other hm ho)
  refine ⟨⟨h.below.os, h.below.tape, h.below.output, by simpa [setBlock] using h.below.size, fun k hk => (pobj_other hm (by omega)).trans (h.below.block k hk)⟩, _, pobj_set hm, fun p hp => ?_⟩
  have new : ∃ (u' : Value) (o' : List Int) (s' : Int), (x, Value.agg #[u, .int .i64 s]).2 = .agg #[u', .int .i64 s'] ∧ Kd.R (Kd.int .i64) e (setBlock W M (pobj (pput c x (.agg #[u, .int .i64 s])))) w0.heap.size (fun k => k ≠ M) u' o' ∧ F (x, Value.agg #[u, .int .i64 s]).1 o' s' := ⟨u, o, s, rfl, hr2 _ _ hu, hF⟩
  have old : p ∈ c → ∃ (u' : Value) (o' : List Int) (s' : Int), p.2 = .agg #[u', .int .i64 s'] ∧ Kd.R (Kd.int .i64) e (setBlock W M (pobj (pput c x (.agg #[u, .int .i64 s])))) w0.heap.size (fun k => k ≠ M) u' o' ∧ F p.1 o' s' := fun hpc => by
    obtain ⟨u', o', s', h1, h2, h3⟩ := he p hpc
    exact ⟨u', o', s', h1, hr2 _ _ h2, h3⟩
  unfold pput at hp
  cases hq : pget x c 0 with
  | none =>
    rw [hq] at hp
    rcases List.mem_append.1 hp with hp | hp
    · exact old hp
    · obtain rfl : p = (x, .agg #[u, .int .i64 s]) := by simpa using hp
      exact new
  | some qv =>
    rw [hq] at hp
    rcases List.mem_or_eq_of_mem_set hp with hp | rfl
    · exact old hp
    · exact new
section
variable {P : Program} {ops : Array Oper} {rest : List Oper} {o : Oper} {a : Act} {Q : Exit → Act → World → Prop}
theorem pmap_event {W : World} (hgd : o.guard = none) {t : TypeId} (ho : o.op = .makeMap t none)
    (h : ∀ g, g = W.heap.size → ∀ w1, w1.heap[g]? = some (pobj []) → Below W.heap.size W w1 → wpList P ops Q rest (a.put o.dst (.map (some g))) w1) : wpList P ops Q (o :: rest) a W := by
  refine wpList_plain hgd fun K hK => ?_
  unfold Oper.wp
  have hr : (execOp a.eval o).run P W = .ok (.value (.map (some W.heap.size))) (W.alloc (.map #[] 0)) := by
    simp only [execOp, ho]
    rfl
  rw [hr]
  exact hK _ _ (h _ rfl _ (heap_alloc_new W _) ((Below.refl _ _).alloc (Nat.le_refl _) _))
theorem gate_pput {W : World} {t : TypeId} {m x v : Operand} (_ho : o.op = .mapUpdate t m x v) (h : wpList P ops Q (o :: rest) a W) : wpList P ops Q (o :: rest) a W := h
theorem pput_event {W : World} (hgd : o.guard = none) {t : TypeId} {m x v : Operand} (ho : o.op = .mapUpdate t m x v) (hN : o.dst = none) {g k e : Nat} {c : List (Int × Value)} {y : Int} {u : Value}
    (hm : a.eval m = .map (some g)) (hx : a.eval x = .int .i64 y) (hv : a.eval v = u) (ht : P.underlying t = some (.map k e)) (hk : P.underlying k = some (.int .i64)) (hb : W.heap[g]? = some (pobj c))
    (h : ∀ w', w' = setBlock W g (pobj (pput c y u)) → wpList P ops Q rest a w') : wpList P ops Q (o :: rest) a W := by
  refine wpList_plain hgd fun K hK => ?_
  unfold Oper.wp
  have hr := pput_run (x := y) (v := u) ht hk hb
  have he : (execOp a.eval o).run P W = .ok .skip (setBlock W g (pobj (pput c y u))) := by simp [execOp, ho, hm, hx, hv, hr, Result.andThen]
  rw [he]
  show K (a.put o.dst undef) _
  rw [hN]
  exact hK _ _ (h _ rfl)
end
end Go.Proofs.YtecebaeifmddnaaW.PrintMore
