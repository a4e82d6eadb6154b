/- What FnCover's law comes to, in numbers and lists alone: it is true at whatever is drawn. -/
import Derived.Test.YtadfmbmnnekamaaPFnCoverx9
import Derived.Test.YtadfmbmnnekamaaEv
namespace Go.Proofs.Ytadfmbmnnekamaa.Pure
open Go.RowKit Go.Proofs.Ytadfmbmnnekamaa.PFnCover Go.Proofs.YtadfmbmnnekamaaW.PrintWords Go.Proofs.YtadfmbmnnekamaaW.PrintLast Go.Proofs.YtadfmbmnnekamaaW.PrintMore
set_option linter.unusedVariables false
set_option linter.unusedSimpArgs false

/-- The numbers of a set, rising. -/
def setL (s : Int) : List Int := ((List.range 6).filter (fun k => s.toNat.testBit k)).map (fun (k : Nat) => (k : Int))
theorem setL_mem {s x : Int} (h : x ∈ setL s) : 0 ≤ x ∧ x ≤ 5 := by
  simp only [setL, List.mem_map, List.mem_filter, List.mem_range] at h
  obtain ⟨k, ⟨hk, _⟩, rfl⟩ := h
  omega
theorem setL_some (s : Int) (h0 : 0 ≤ s) (h1 : s < 64) : impl_set_list.f 8 s = some (setL s) := by
  have key : ∀ n : Fin 64, impl_set_list.f 8 (n.val : Int) = some (setL (n.val : Int)) := by decide +kernel
  have := key ⟨s.toNat, by omega⟩
  simpa [Int.toNat_of_nonneg h0] using this
theorem setL_ev (s : Int) (h0 : 0 ≤ s) (h1 : s < 64) : Ev (fun k => impl_set_list.f k s) (setL s) := Ev.of (fun k => impl_set_list.mono s k) (setL_some s h0 h1)
/-- A number put to its place, once. -/
def putL (l : List Int) (n : Int) : List Int := if l.contains n then l else l.take (l.takeWhile (fun x => decide (x < n))).length ++ n :: l.drop (l.takeWhile (fun x => decide (x < n))).length
def orB (s n : Int) : Int := Go.bits .or .i64 s (shl .i64 1 n)
def isSet (s : Int) : Prop := 0 ≤ s ∧ s < 64
theorem fin_set {s : Int} (h : isSet s) : ∃ m : Fin 64, s = (m.val : Int) := ⟨⟨s.toNat, by have := h.1; have := h.2; omega⟩, by have := h.1; simp; omega⟩
theorem fin_num {n : Int} (h0 : 0 ≤ n) (h5 : n ≤ 5) : ∃ m : Fin 6, n = (m.val : Int) := ⟨⟨n.toNat, by omega⟩, by simp; omega⟩
theorem orB_ok {s n : Int} (h : isSet s) (h0 : 0 ≤ n) (h5 : n ≤ 5) : isSet (orB s n) ∧ setL (orB s n) = putL (setL s) n := by
  obtain ⟨a, rfl⟩ := fin_set h
  obtain ⟨b, rfl⟩ := fin_num h0 h5
  have key : ∀ a : Fin 64, ∀ b : Fin 6, (0 ≤ orB (a.val : Int) (b.val : Int) ∧ orB (a.val : Int) (b.val : Int) < 64) ∧ setL (orB (a.val : Int) (b.val : Int)) = putL (setL (a.val : Int)) (b.val : Int) := by decide +kernel
  exact key a b
theorem setL_nil {s : Int} (h : isSet s) : s = 0 ↔ setL s = [] := by
  obtain ⟨a, rfl⟩ := fin_set h
  have key : ∀ a : Fin 64, (a.val : Int) = 0 ↔ setL (a.val : Int) = [] := by decide +kernel
  exact key a
theorem setL_len (s : Int) : (setL s).length ≤ 6 := by
  unfold setL
  rw [List.length_map]
  exact Nat.le_trans (List.length_filter_le _ _) (by simp)
theorem putL_len (l : List Int) (n : Int) : (putL l n).length ≤ l.length + 1 := by
  unfold putL
  split
  · omega
  · simp; omega

def hasB (a b : Int) : Bool := Go.bits .and .i64 a b == b
def orS (a b : Int) : Int := Go.bits .or .i64 a b
theorem mem_setL {m : Fin 64} {x : Int} : x ∈ setL (m.val : Int) ↔ ∃ k : Fin 6, x = (k.val : Int) ∧ m.val.testBit k.val = true := by
  simp only [setL, List.mem_map, List.mem_filter, List.mem_range, Int.toNat_natCast]
  constructor
  · rintro ⟨k, ⟨hk, hb⟩, rfl⟩; exact ⟨⟨k, hk⟩, rfl, hb⟩
  · rintro ⟨k, rfl, hb⟩; exact ⟨k.val, ⟨k.isLt, hb⟩, rfl⟩
theorem orS_set {a b : Int} (ha : isSet a) (hb : isSet b) : isSet (orS a b) := by
  obtain ⟨a, rfl⟩ := fin_set ha
  obtain ⟨b, rfl⟩ := fin_set hb
  have key : ∀ a b : Fin 64, 0 ≤ orS (a.val : Int) (b.val : Int) ∧ orS (a.val : Int) (b.val : Int) < 64 := by decide +kernel
  exact key a b
theorem hasB_iff {a b : Int} (ha : isSet a) (hb : isSet b) : hasB a b = (setL b).all (fun x => (setL a).contains x) := by
  obtain ⟨a, rfl⟩ := fin_set ha
  obtain ⟨b, rfl⟩ := fin_set hb
  have key : ∀ a b : Fin 64, hasB (a.val : Int) (b.val : Int) = (setL (b.val : Int)).all (fun x => (setL (a.val : Int)).contains x) := by decide +kernel
  exact key a b
theorem orS_fold {a b : Int} (ha : isSet a) (hb : isSet b) : setL (orS a b) = (setL b).foldl putL (setL a) := by
  obtain ⟨a, rfl⟩ := fin_set ha
  obtain ⟨b, rfl⟩ := fin_set hb
  have key : ∀ a b : Fin 64, setL (orS (a.val : Int) (b.val : Int)) = (setL (b.val : Int)).foldl putL (setL (a.val : Int)) := by decide +kernel
  exact key a b
theorem orS_len {a b : Int} (ha : isSet a) (hb : isSet b) : (setL a).length ≤ (setL (orS a b)).length ∧ ((setL a).length = (setL (orS a b)).length ↔ orS a b = a) := by
  obtain ⟨a, rfl⟩ := fin_set ha
  obtain ⟨b, rfl⟩ := fin_set hb
  have key : ∀ a b : Fin 64, (setL (a.val : Int)).length ≤ (setL (orS (a.val : Int) (b.val : Int))).length ∧ ((setL (a.val : Int)).length = (setL (orS (a.val : Int) (b.val : Int))).length ↔ orS (a.val : Int) (b.val : Int) = (a.val : Int)) := by decide +kernel
  exact key a b
theorem setL_inj {a b : Int} (ha : isSet a) (hb : isSet b) (h : setL a = setL b) : a = b := by
  obtain ⟨a, rfl⟩ := fin_set ha
  obtain ⟨b, rfl⟩ := fin_set hb
  have key : ∀ a b : Fin 64, setL (a.val : Int) = setL (b.val : Int) → (a.val : Int) = (b.val : Int) := by decide +kernel
  exact key a b h
/-- The set of a list. -/
def setI (l : List Int) : Int := l.foldl orB 0
theorem orB_foldl : ∀ (l : List Int) (s : Int), isSet s → (∀ x ∈ l, 0 ≤ x ∧ x ≤ 5) → isSet (l.foldl orB s) ∧ setL (l.foldl orB s) = l.foldl putL (setL s)
  | [], s, hs, _ => ⟨hs, rfl⟩
  | n :: l, s, hs, h => by
    obtain ⟨h0, h5⟩ := h n List.mem_cons_self
    obtain ⟨k1, k2⟩ := orB_ok hs h0 h5
    obtain ⟨j1, j2⟩ := orB_foldl l (orB s n) k1 (fun x hx => h x (List.mem_cons_of_mem _ hx))
    exact ⟨j1, by rw [List.foldl_cons, j2, k2]; rfl⟩
/-- Rising numbers of so many. -/
def ris (l : List Int) (c : Int) : Prop := ∀ i, (hi : i < l.length) → 0 ≤ l[i] ∧ l[i] < c ∧ (0 < i → l[i - 1]'(by omega) < l[i])
theorem ris_tail {a : Int} {l : List Int} {c : Int} (h : ris (a :: l) c) : ris l c := by
  intro i hi
  have := h (i + 1) (by simp; omega)
  simp only [List.getElem_cons_succ, Nat.add_sub_cancel] at this
  refine ⟨this.1, this.2.1, fun hp => ?_⟩
  have h3 := this.2.2 (by omega)
  obtain ⟨j, rfl⟩ : ∃ j, i = j + 1 := ⟨i - 1, by omega⟩
  simpa using h3
theorem ris_mem {l : List Int} {c : Int} (h : ris l c) : ∀ x ∈ l, 0 ≤ x ∧ x < c := by
  intro x hx
  obtain ⟨i, hi, rfl⟩ := List.getElem_of_mem hx
  exact ⟨(h i hi).1, (h i hi).2.1⟩
theorem ris_lt : ∀ {l : List Int} {a c : Int}, ris (a :: l) c → ∀ x ∈ l, a < x
  | [], _, _, _ => fun x hx => by cases hx
  | b :: l, a, c, h => by
    have hab : a < b := by have := (h 1 (by simp)).2.2 (by omega); simpa using this
    intro x hx
    rcases List.mem_cons.1 hx with rfl | hx
    · exact hab
    · exact Int.lt_trans hab (ris_lt (ris_tail h) x hx)
theorem ris_zero {c : Int} (h : c ≤ 0) {l : List Int} (hl : ris l c) : l = [] := by
  cases l with
  | nil => rfl
  | cons a l => have := hl 0 (by simp); simp at this; omega
/-- Numbers put to their places behind those that are less: at the end. -/
theorem putL_end (p : List Int) (n : Int) (h : ∀ x ∈ p, x < n) : putL p n = p ++ [n] := by
  have hc : p.contains n = false := by
    rw [Bool.eq_false_iff]
    intro hn
    have := h n (by simpa using hn)
    omega
  have ht : p.takeWhile (fun x => decide (x < n)) = p := by
    clear hc
    induction p with
    | nil => rfl
    | cons a p ih => rw [List.takeWhile_cons, if_pos (by simpa using h a List.mem_cons_self), ih (fun x hx => h x (List.mem_cons_of_mem _ hx))]
  unfold putL
  rw [hc, ht, List.take_of_length_le (Nat.le_refl _), List.drop_of_length_le (Nat.le_refl _)]
  rfl
theorem foldl_putL : ∀ (l p : List Int) (c : Int), ris l c → (∀ x ∈ p, ∀ y ∈ l, x < y) → l.foldl putL p = p ++ l
  | [], p, _, _, _ => by simp
  | n :: l, p, c, h, hp => by
    rw [List.foldl_cons, putL_end p n (fun x hx => hp x hx n List.mem_cons_self), foldl_putL l (p ++ [n]) c (ris_tail h) ?_, List.append_assoc]
    · rfl
    · intro x hx y hy
      rcases List.mem_append.1 hx with hx | hx
      · exact hp x hx y (List.mem_cons_of_mem _ hy)
      · obtain rfl : x = n := by simpa using hx
        exact ris_lt h y hy
theorem setI_ok {l : List Int} {c : Int} (h : ris l c) (hc : c ≤ 6) : isSet (setI l) ∧ setL (setI l) = l := by
  obtain ⟨k1, k2⟩ := orB_foldl l 0 ⟨by omega, by omega⟩ (fun x hx => by have := ris_mem h x hx; omega)
  refine ⟨k1, ?_⟩
  unfold setI
  rw [k2, show setL 0 = [] from by decide +kernel, foldl_putL l [] c h (fun x hx => by cases hx)]
  rfl
theorem ris_len {l : List Int} {c : Int} (h : ris l c) (hc : c ≤ 6) : l.length ≤ 6 := by
  rw [← (setI_ok h hc).2]; exact setL_len _
def andS (a b : Int) : Int := Go.bits .and .i64 a b
def minusS (a b : Int) : Int := Go.bits .andNot .i64 a b
theorem andS_eq {a b : Int} (ha : isSet a) (hb : isSet b) : isSet (andS a b) ∧ setL (andS a b) = (setL a).filter (fun x => (setL b).contains x) := by
  obtain ⟨a, rfl⟩ := fin_set ha
  obtain ⟨b, rfl⟩ := fin_set hb
  have key : ∀ a b : Fin 64, (0 ≤ andS (a.val : Int) (b.val : Int) ∧ andS (a.val : Int) (b.val : Int) < 64) ∧ setL (andS (a.val : Int) (b.val : Int)) = (setL (a.val : Int)).filter (fun x => (setL (b.val : Int)).contains x) := by decide +kernel
  exact key a b
theorem minusS_eq {a b : Int} (ha : isSet a) (hb : isSet b) : isSet (minusS a b) ∧ setL (minusS a b) = (setL a).filter (fun x => !(setL b).contains x) := by
  obtain ⟨a, rfl⟩ := fin_set ha
  obtain ⟨b, rfl⟩ := fin_set hb
  have key : ∀ a b : Fin 64, (0 ≤ minusS (a.val : Int) (b.val : Int) ∧ minusS (a.val : Int) (b.val : Int) < 64) ∧ setL (minusS (a.val : Int) (b.val : Int)) = (setL (a.val : Int)).filter (fun x => !(setL (b.val : Int)).contains x) := by decide +kernel
  exact key a b
theorem mem_putL (l : List Int) (n x : Int) : x ∈ putL l n ↔ x = n ∨ x ∈ l := by
  unfold putL
  split
  · rename_i h
    have h2 : n ∈ l := by simpa using h
    exact ⟨.inr, fun h3 => h3.elim (fun e => e ▸ h2) id⟩
  · generalize (l.takeWhile fun y => decide (y < n)).length = m
    rw [List.mem_append, List.mem_cons]
    have e : x ∈ l ↔ x ∈ l.take m ∨ x ∈ l.drop m := by rw [← List.mem_append, List.take_append_drop]
    rw [e]
    exact ⟨fun h => h.elim (fun h => .inr (.inl h)) (fun h => h.elim .inl (fun h => .inr (.inr h))), fun h => h.elim (fun h => .inr (.inl h)) (fun h => h.elim .inl (fun h => .inr (.inr h)))⟩
theorem mem_foldl_putL : ∀ (l p : List Int) (x : Int), x ∈ l.foldl putL p ↔ x ∈ p ∨ x ∈ l
  | [], p, x => by simp
  | n :: l, p, x => by
    rw [List.foldl_cons, mem_foldl_putL l, mem_putL, List.mem_cons]
    exact ⟨fun h => h.elim (fun h => h.elim (fun h => .inr (.inl h)) .inl) (fun h => .inr (.inr h)), fun h => h.elim (fun h => .inl (.inr h)) (fun h => h.elim (fun h => .inl (.inl h)) .inr)⟩
theorem mem_or {a b : Int} (ha : isSet a) (hb : isSet b) (x : Int) : x ∈ setL (orS a b) ↔ x ∈ setL a ∨ x ∈ setL b := by rw [orS_fold ha hb, mem_foldl_putL]
theorem mem_and {a b : Int} (ha : isSet a) (hb : isSet b) (x : Int) : x ∈ setL (andS a b) ↔ x ∈ setL a ∧ x ∈ setL b := by rw [(andS_eq ha hb).2, List.mem_filter]; simp
theorem mem_minus {a b : Int} (ha : isSet a) (hb : isSet b) (x : Int) : x ∈ setL (minusS a b) ↔ x ∈ setL a ∧ x ∉ setL b := by rw [(minusS_eq ha hb).2, List.mem_filter]; simp
theorem mem_has {a b : Int} (ha : isSet a) (hb : isSet b) : hasB a b = true ↔ ∀ x ∈ setL b, x ∈ setL a := by rw [hasB_iff ha hb, List.all_eq_true]; simp
theorem setL_pw (s : Int) : (setL s).Pairwise (· < ·) := by
  unfold setL
  rw [List.pairwise_map]
  refine List.Pairwise.imp (fun h => by omega) ((List.pairwise_lt_range (n := 6)).filter _)
theorem pw_eq : ∀ {a b : List Int}, a.Pairwise (· < ·) → b.Pairwise (· < ·) → (∀ x, x ∈ a ↔ x ∈ b) → a = b
  | [], [], _, _, _ => rfl
  | [], y :: b, _, _, h => absurd ((h y).2 List.mem_cons_self) (by simp)
  | x :: a, [], _, _, h => absurd ((h x).1 List.mem_cons_self) (by simp)
  | x :: a, y :: b, ha, hb, h => by
    obtain ⟨hx, ha2⟩ := List.pairwise_cons.1 ha
    obtain ⟨hy, hb2⟩ := List.pairwise_cons.1 hb
    have e : x = y := by
      rcases List.mem_cons.1 ((h x).1 List.mem_cons_self) with e | m
      · exact e
      · rcases List.mem_cons.1 ((h y).2 List.mem_cons_self) with e | m2
        · exact e.symm
        · have := hy x m; have := hx y m2; omega
    subst e
    rw [pw_eq ha2 hb2 fun z => ?_]
    constructor
    · intro hz
      rcases List.mem_cons.1 ((h z).1 (List.mem_cons_of_mem _ hz)) with e | m
      · have := hx z hz; omega
      · exact m
    · intro hz
      rcases List.mem_cons.1 ((h z).2 (List.mem_cons_of_mem _ hz)) with e | m
      · have := hy z hz; omega
      · exact m
/-- A set has another one: it is as great just if it is the same. -/
theorem sub_len {a b : Int} (ha : isSet a) (hb : isSet b) (h : ∀ x ∈ setL b, x ∈ setL a) : (setL b).length ≤ (setL a).length ∧ ((setL b).length = (setL a).length ↔ a = b) := by
  obtain ⟨a, rfl⟩ := fin_set ha
  obtain ⟨b, rfl⟩ := fin_set hb
  have key : ∀ a b : Fin 64, (∀ x ∈ setL (b.val : Int), x ∈ setL (a.val : Int)) → (setL (b.val : Int)).length ≤ (setL (a.val : Int)).length ∧ ((setL (b.val : Int)).length = (setL (a.val : Int)).length ↔ (a.val : Int) = (b.val : Int)) := by decide +kernel
  exact key a b h
theorem l1Has_ev (l : List Int) (x : Int) (hl : l.length ≤ 4194304) : Ev (fun k => spec_l1Has.f k l x) (l.contains x) := by
  have loop := loop_up (n := l.length) (P := fun i => Ev (fun k => spec_l1Has.l0 k x l (l.length : Int) (i : Int)) ((l.drop i).contains x)) ?_ ?_
  · unfold spec_l1Has.f
    exact loop 0 (Nat.zero_le _)
  · refine Ev.succ ?_
    simp only [spec_l1Has.l0]
    exact Ev.neg (by omega) (Ev.const (by simp))
  · intro i hi ih
    refine Ev.succ ?_
    simp only [spec_l1Has.l0]
    refine Ev.pos (by omega) (Ev.pos (by omega) (Ev.pos (by omega) ?_))
    rw [List.drop_eq_getElem_cons hi, List.contains_cons, rd_nat hi, wrap_add (by omega) (by omega)]
    by_cases h : l[i] = x
    · exact Ev.pos h (Ev.const (by simp [h]))
    · have h' : (x == l[i]) = false := by simpa using fun e => h e.symm
      rw [h', Bool.false_or]
      exact Ev.neg h ih
theorem takeWhile_at (p : Int → Bool) : ∀ (l : List Int) (i : Nat), i ≤ l.length → (∀ j, (h : j < l.length) → j < i → p l[j] = true) → (∀ h : i < l.length, p l[i] = false) → (l.takeWhile p).length = i
  | [], i, hi, _, _ => by simp at hi; simp [hi]
  | a :: l, 0, _, _, h2 => by have := h2 (by simp); simp at this; simp [List.takeWhile_cons, this]
  | a :: l, i + 1, hi, h1, h2 => by
    have h0 := h1 0 (by simp) (by omega)
    simp at h0
    rw [List.takeWhile_cons, h0]
    simp only [if_true, List.length_cons]
    rw [takeWhile_at p l i (by simpa using hi) (fun j h hj => by have := h1 (j + 1) (by simpa using h) (by omega); simpa using this) (fun h => by have := h2 (by simpa using h); simpa using this)]
theorem l7Put_ev (l : List Int) (n : Int) (hl : l.length ≤ 1000) : Ev (fun k => spec_l7Put.f k l n) (putL l n) := by
  unfold spec_l7Put.f
  refine Ev.bind (l1Has_ev l n (by omega)) ?_
  by_cases hc : l.contains n = true
  · rw [putL, if_pos hc]
    exact Ev.pos hc (Ev.const rfl)
  · refine Ev.neg hc ?_
    rw [putL, if_neg hc]
    have done : ∀ i : Nat, i ≤ l.length → (∀ j, (h : j < l.length) → j < i → decide (l[j] < n) = true) → (∀ h : i < l.length, decide (l[i] < n) = false) → l.take (l.takeWhile (fun x => decide (x < n))).length ++ n :: l.drop (l.takeWhile (fun x => decide (x < n))).length = ([] ++ l.take (i : Int).toNat) ++ [n] ++ l.drop (i : Int).toNat := by
      intro i hi h1 h2
      rw [takeWhile_at _ l i hi h1 h2]; simp
    have loop := loop_up (n := l.length) (P := fun i => (∀ j, (h : j < l.length) → j < i → decide (l[j] < n) = true) → Ev (fun k => spec_l7Put.l0 k l n (i : Int)) (l.take (l.takeWhile (fun x => decide (x < n))).length ++ n :: l.drop (l.takeWhile (fun x => decide (x < n))).length)) ?_ ?_
    · exact loop 0 (Nat.zero_le _) (fun j _ h => absurd h (Nat.not_lt_zero _))
    · intro h1
      refine Ev.succ ?_
      rw [done l.length (Nat.le_refl _) h1 (fun h => absurd h (Nat.lt_irrefl _))]
      simp only [spec_l7Put.l0, Option.bind_some]
      refine Ev.neg (by omega) (Ev.pos (by omega) (Ev.pos (by omega) (Ev.pos (by simp; omega) (Ev.pos (by simp; omega) (Ev.pos (by simp; omega) (Ev.const rfl))))))
    · intro i hi ih h1
      refine Ev.succ ?_
      simp only [spec_l7Put.l0, Option.bind_some]
      refine Ev.pos (by omega) (Ev.pos (by omega) ?_)
      rw [rd_nat hi, wrap_add (by omega) (by omega)]
      by_cases h : l[i] < n
      · refine Ev.pos h (ih (fun j hj hji => ?_))
        by_cases e : j = i
        · subst e; simpa using h
        · exact h1 j hj (by omega)
      · refine Ev.neg h ?_
        rw [done i (by omega) h1 (fun _ => by simpa using h)]
        exact Ev.pos (by omega) (Ev.pos (by simp; omega) (Ev.pos (by simp; omega) (Ev.pos (by simp; omega) (Ev.const rfl))))
/-! ### chapter 7: dependencies -/
open Classical in
noncomputable def tell (p : Prop) : Bool := decide p
theorem tell_yes {p : Prop} (h : p) : tell p = true := by simp [tell, h]
theorem tell_no {p : Prop} (h : ¬ p) : tell p = false := by simp [tell, h]
theorem tell_iff {p : Prop} : tell p = true ↔ p := by simp [tell]
theorem l7All_ev (a b : List Int) (ha : a.length ≤ 4194304) (hb : b.length ≤ 4194304) : Ev (fun k => spec_l7All.f k a b) (b.all fun x => a.contains x) := by
  have loop := loop_up (n := b.length) (P := fun i => Ev (fun k => spec_l7All.l0 k a b (b.length : Int) (i : Int)) ((b.drop i).all fun x => a.contains x)) ?_ ?_
  · exact loop 0 (Nat.zero_le _)
  · refine Ev.succ ?_
    simp only [spec_l7All.l0]
    exact Ev.neg (by omega) (Ev.const (by simp))
  · intro i hi ih
    refine Ev.succ ?_
    simp only [spec_l7All.l0]
    rw [rd_nat hi, wrap_add (by omega) (by omega), List.drop_eq_getElem_cons hi, List.all_cons]
    refine Ev.pos (by omega) (Ev.pos (by omega) (Ev.pos (by omega) (Ev.bind (l1Has_ev a b[i] ha) ?_)))
    cases h : a.contains b[i] with
    | true => exact Ev.pos rfl (by simpa using ih)
    | false => exact Ev.neg (by simp) (Ev.const (by simp))
theorem setOf_ev (l : List Int) (hl : l.length ≤ 4194304) (h : ∀ x ∈ l, 0 ≤ x) : Ev (fun k => impl_setOf.f k l) (setI l) := by
  have loop := loop_up (n := l.length) (P := fun i => ∀ s : Int, (l.drop i).foldl orB s = setI l → Ev (fun k => impl_setOf.l0 k s l (l.length : Int) (i : Int)) (setI l)) ?_ ?_
  · exact loop 0 (Nat.zero_le _) 0 rfl
  · intro s hs
    refine Ev.succ ?_
    simp only [impl_setOf.l0]
    exact Ev.neg (by omega) (Ev.const (by rw [← hs]; simp))
  · intro i hi ih s hs
    refine Ev.succ ?_
    simp only [impl_setOf.l0]
    rw [rd_nat hi, wrap_add (by omega) (by omega)]
    refine Ev.pos (by omega) (Ev.pos (by omega) (Ev.pos (by omega) (Ev.pos (h _ (List.getElem_mem hi)) (ih _ ?_))))
    rw [← hs, List.drop_eq_getElem_cons hi]; rfl
/-- The reference's rounds, on lists. -/
theorem l7Put_set (s n : Int) (hs : isSet s) (h0 : 0 ≤ n) (h5 : n ≤ 5) : Ev (fun k => spec_l7Put.f k (setL s) n) (setL (orB s n)) := by
  rw [(orB_ok hs h0 h5).2]
  exact l7Put_ev (setL s) n (by have := setL_len s; omega)
theorem ris_from {l : List Int} {c : Int} (P : Nat → Prop) (hP : ∀ i, P i ↔ ∀ j, (hj : j < l.length) → j < i → 0 ≤ l[j] ∧ l[j] < c ∧ (0 < j → l[j - 1]'(by omega) < l[j])) : P l.length ↔ ris l c := by
  rw [hP]
  exact ⟨fun h i hi => h i hi hi, fun h j hj _ => h j hj⟩
theorem l1Some_ev (l : List Int) (c : Int) (hl : l.length ≤ 4194304) : Ev (fun k => spec_l1Some.f k l c) (tell (ris l c)) := by
  have loop := loop_up (n := l.length) (P := fun i => (∀ j, (hj : j < l.length) → j < i → 0 ≤ l[j] ∧ l[j] < c ∧ (0 < j → l[j - 1]'(by omega) < l[j])) → Ev (fun k => spec_l1Some.l0 k l c l (l.length : Int) (i : Int)) (tell (ris l c))) ?_ ?_
  · exact loop 0 (Nat.zero_le _) (fun j _ h => absurd h (Nat.not_lt_zero _))
  · intro g
    refine Ev.succ ?_
    simp only [spec_l1Some.l0]
    exact Ev.neg (by omega) (Ev.const (by rw [tell_yes (show ris l c from fun i hi => g i hi hi)]))
  · intro i hi ih g
    refine Ev.succ ?_
    simp only [spec_l1Some.l0]
    rw [rd_nat hi, wrap_add (by omega) (by omega)]
    refine Ev.pos (by omega) (Ev.pos (by omega) (Ev.pos (by omega) ?_))
    by_cases h1 : l[i] < 0
    · exact Ev.pos h1 (Ev.const (by rw [tell_no fun h => by have := (h i hi).1; omega]))
    refine Ev.neg h1 ?_
    by_cases h2 : l[i] ≥ c
    · exact Ev.pos h2 (Ev.const (by rw [tell_no fun h => by have := (h i hi).2.1; omega]))
    refine Ev.neg h2 ?_
    have next : (0 < i → l[i - 1]'(by omega) < l[i]) → Ev (fun k => spec_l1Some.l0 k l c l (l.length : Int) ((i : Int) + 1)) (tell (ris l c)) := fun hn => ih fun j hj hji => by
      by_cases e : j = i
      · subst e; exact ⟨by omega, by omega, hn⟩
      · exact g j hj (by omega)
    by_cases h3 : 0 < i
    · refine Ev.pos (by omega) ?_
      rw [wrap_id (by omega) (by omega), show (i : Int) - 1 = ((i - 1 : Nat) : Int) by omega, rd_nat (show i - 1 < l.length by omega)]
      refine Ev.pos (by omega) (Ev.pos (by omega) ?_)
      by_cases h4 : l[i - 1] ≥ l[i]
      · exact Ev.pos h4 (Ev.const (by rw [tell_no fun h => by have := (h i hi).2.2 h3; omega]))
      · exact Ev.neg h4 (next fun _ => by omega)
    · exact Ev.neg (by omega) (next fun h => absurd h h3)
theorem areRising_ev (l : List Int) (c : Int) (hl : l.length ≤ 4194304) : Ev (fun k => impl_areRising.f k l c) (tell (ris l c)) := by
  have loop := loop_up (n := l.length) (P := fun i => (∀ j, (hj : j < l.length) → j < i → 0 ≤ l[j] ∧ l[j] < c ∧ (0 < j → l[j - 1]'(by omega) < l[j])) → Ev (fun k => impl_areRising.l0 k l c l (l.length : Int) (i : Int)) (tell (ris l c))) ?_ ?_
  · exact loop 0 (Nat.zero_le _) (fun j _ h => absurd h (Nat.not_lt_zero _))
  · intro g
    refine Ev.succ ?_
    simp only [impl_areRising.l0]
    exact Ev.neg (by omega) (Ev.const (by rw [tell_yes (show ris l c from fun i hi => g i hi hi)]))
  · intro i hi ih g
    refine Ev.succ ?_
    simp only [impl_areRising.l0, impl_isPlace.f]
    rw [rd_nat hi, wrap_add (by omega) (by omega)]
    refine Ev.pos (by omega) (Ev.pos (by omega) (Ev.pos (by omega) ?_))
    by_cases h1 : l[i] ≥ 0
    case neg =>
      refine Ev.bind (a := false) (Ev.const (if_neg h1)) (Ev.neg (by simp) (Ev.const ?_))
      rw [tell_no fun h => by have := (h i hi).1; omega]
    by_cases h2 : l[i] < c
    case neg =>
      refine Ev.bind (a := false) (Ev.const (by rw [if_pos h1, decide_eq_false h2])) (Ev.neg (by simp) (Ev.const ?_))
      rw [tell_no fun h => by have := (h i hi).2.1; omega]
    refine Ev.bind (a := true) (Ev.const (by rw [if_pos h1, decide_eq_true h2])) (Ev.pos rfl ?_)
    have next : (0 < i → l[i - 1]'(by omega) < l[i]) → Ev (fun k => impl_areRising.l0 k l c l (l.length : Int) ((i : Int) + 1)) (tell (ris l c)) := fun hn => ih fun j hj hji => by
      by_cases e : j = i
      · subst e; exact ⟨by omega, by omega, hn⟩
      · exact g j hj (by omega)
    by_cases h3 : 0 < i
    · refine Ev.pos (by omega) ?_
      rw [wrap_id (by omega) (by omega), show (i : Int) - 1 = ((i - 1 : Nat) : Int) by omega, rd_nat (show i - 1 < l.length by omega)]
      refine Ev.pos (by omega) (Ev.pos (by omega) ?_)
      by_cases h4 : l[i] ≤ l[i - 1]
      · exact Ev.pos h4 (Ev.const (by rw [tell_no fun h => by have := (h i hi).2.2 h3; omega]))
      · exact Ev.neg h4 (next fun _ => by omega)
    · exact Ev.neg (by omega) (next fun h => absurd h h3)
/-- A dependency of so many columns; good dependencies. -/
def depOk (c : Int) (d : S37) : Prop := ris d.f0 c ∧ ris d.f1 c
def depsOk (l : List S37) (c : Int) : Prop := (∀ d ∈ l, depOk c d) ∧ 1 ≤ c ∧ c ≤ 6 ∧ l.length ≤ 10
def shortD (l : List S37) : Prop := l.length ≤ 1048576 ∧ ∀ x ∈ l, x.f0.length ≤ 1048576 ∧ x.f1.length ≤ 1048576
theorem l7Depend_ev (d : S37) (c : Int) (h : d.f0.length ≤ 1048576 ∧ d.f1.length ≤ 1048576) : Ev (fun k => spec_l7Depend.f k d.f0 d.f1 c) (tell (depOk c d)) := by
  unfold spec_l7Depend.f
  refine Ev.bind (l1Some_ev d.f0 c (by omega)) ?_
  by_cases h1 : ris d.f0 c
  · refine Ev.pos (tell_yes h1) (Ev.bind (l1Some_ev d.f1 c (by omega)) (Ev.const ?_))
    congr 1
    rw [Bool.eq_iff_iff, tell_iff, tell_iff]
    exact ⟨fun h2 => ⟨h1, h2⟩, fun h2 => h2.2⟩
  · exact Ev.neg (by rw [tell_no h1]; simp) (Ev.const (by rw [tell_no fun h2 => h1 h2.1]))
theorem isDepend_ev (d : S37) (c : Int) (h : d.f0.length ≤ 1048576 ∧ d.f1.length ≤ 1048576) : Ev (fun k => impl_isDepend.f k d.f0 d.f1 c) (tell (depOk c d)) := by
  unfold impl_isDepend.f
  refine Ev.bind (areRising_ev d.f0 c (by omega)) ?_
  by_cases h1 : ris d.f0 c
  · refine Ev.pos (tell_yes h1) (Ev.bind (areRising_ev d.f1 c (by omega)) (Ev.const ?_))
    congr 1
    rw [Bool.eq_iff_iff, tell_iff, tell_iff]
    exact ⟨fun h2 => ⟨h1, h2⟩, fun h2 => h2.2⟩
  · exact Ev.neg (by rw [tell_no h1]; simp) (Ev.const (by rw [tell_no fun h2 => h1 h2.1]))
theorem rdD {l : List S37} {i : Nat} (h : i < l.length) : rd_T37 l (i : Int) = l[i] := by simp [rd_T37, h]
theorem rdR {l : List S53} {i : Nat} (h : i < l.length) : rd_T53 l (i : Int) = l[i] := by simp [rd_T53, h]
theorem specGood_ev (l : List S37) (c : Int) (hl : shortD l) : Ev (fun k => spec_GoodDepends.f k l c) (tell (depsOk l c)) := by
  have hln := hl.1
  have loop := loop_up (n := l.length) (P := fun i => (∀ j, (hj : j < l.length) → j < i → depOk c l[j]) → Ev (fun k => spec_GoodDepends.l0 k l c l (l.length : Int) (i : Int)) (tell (depsOk l c))) ?_ ?_
  · exact loop 0 (Nat.zero_le _) (fun j _ h => absurd h (Nat.not_lt_zero _))
  · intro g
    have all : ∀ d ∈ l, depOk c d := fun d hd => by obtain ⟨i, hi, rfl⟩ := List.getElem_of_mem hd; exact g i hi hi
    refine Ev.succ ?_
    simp only [spec_GoodDepends.l0, spec_l1In.f]
    refine Ev.neg (by omega) ?_
    by_cases h1 : c ≥ 1
    case neg => exact Ev.bind (Ev.const (if_neg h1)) (Ev.neg (by simp) (Ev.const (by rw [tell_no fun h => h1 h.2.1])))
    by_cases h2 : c ≤ 6
    case neg => exact Ev.bind (Ev.const (by rw [if_pos h1, decide_eq_false h2])) (Ev.neg (by simp) (Ev.const (by rw [tell_no fun h => h2 h.2.2.1])))
    refine Ev.bind (Ev.const (by rw [if_pos h1, decide_eq_true h2])) (Ev.pos rfl (Ev.const ?_))
    congr 1
    rw [Bool.eq_iff_iff, decide_eq_true_iff, tell_iff]
    exact ⟨fun h => ⟨all, h1, h2, by omega⟩, fun h => by have := h.2.2.2; omega⟩
  · intro i hi ih g
    refine Ev.succ ?_
    simp only [spec_GoodDepends.l0]
    rw [rdD hi, wrap_add (by omega) (by omega)]
    refine Ev.pos (by omega) (Ev.pos (by omega) (Ev.pos (by omega) (Ev.bind (l7Depend_ev l[i] c (hl.2 _ (List.getElem_mem hi))) ?_)))
    by_cases h1 : depOk c l[i]
    · refine Ev.pos (tell_yes h1) (ih fun j hj hji => ?_)
      by_cases e : j = i
      · subst e; exact h1
      · exact g j hj (by omega)
    · exact Ev.neg (by rw [tell_no h1]; simp) (Ev.const (by rw [tell_no fun h => h1 (h.1 _ (List.getElem_mem hi))]))
theorem implGood_ev (l : List S37) (c : Int) (hl : shortD l) : Ev (fun k => impl_GoodDepends.f k l c) (tell (depsOk l c)) := by
  unfold impl_GoodDepends.f impl_within.f
  by_cases h1 : 1 ≤ c
  case neg => exact Ev.bind (Ev.const (if_neg h1)) (Ev.neg (by simp) (Ev.const (by rw [tell_no fun h => h1 h.2.1])))
  by_cases h2 : c ≤ 6
  case neg => exact Ev.bind (Ev.const (by rw [if_pos h1, decide_eq_false h2])) (Ev.neg (by simp) (Ev.const (by rw [tell_no fun h => h2 h.2.2.1])))
  refine Ev.bind (Ev.const (by rw [if_pos h1, decide_eq_true h2])) (Ev.pos rfl ?_)
  by_cases h3 : (l.length : Int) ≤ 10
  case neg => exact Ev.neg h3 (Ev.const (by rw [tell_no fun h => h3 (by have := h.2.2.2; omega)]))
  refine Ev.pos h3 ?_
  have all : ∀ l : List S37, (∀ x ∈ l, x.f0.length ≤ 1048576 ∧ x.f1.length ≤ 1048576) → ∃ K, ∀ k, K ≤ k → ∀ d ∈ l, impl_isDepend.f k d.f0 d.f1 c = some (tell (depOk c d)) := by
    intro l
    induction l with
    | nil => exact fun _ => ⟨0, fun _ _ d hd => by cases hd⟩
    | cons a l ih =>
      intro h
      obtain ⟨K1, hK1⟩ := ih (fun x hx => h x (List.mem_cons_of_mem _ hx))
      obtain ⟨K2, hK2⟩ := isDepend_ev a c (h a List.mem_cons_self)
      refine ⟨K1 + K2, fun k hk d hd => ?_⟩
      rcases List.mem_cons.1 hd with rfl | hd
      · exact hK2 k (by omega)
      · exact hK1 k (by omega) d hd
  obtain ⟨K, hK⟩ := all l hl.2
  have hE : Ev (fun k => areAll_GoodDepends1.f k l c) (tell (∀ d ∈ l, depOk c d)) := by
    refine ⟨K, fun k hk => ?_⟩
    have h4 := hK k hk
    show areAll_GoodDepends1.f k l c = _
    unfold areAll_GoodDepends1.f
    rw [if_pos (List.all_eq_true.2 fun d hd => by rw [h4 d hd]; rfl)]
    congr 1
    rw [Bool.eq_iff_iff, List.all_eq_true, tell_iff]
    refine forall_congr' fun d => forall_congr' fun hd => ?_
    unfold depB
    rw [h4 d hd]
    exact tell_iff
  refine Ev.bind hE (Ev.const ?_)
  congr 1
  rw [Bool.eq_iff_iff, tell_iff, tell_iff]
  exact ⟨fun h => ⟨h, h1, h2, by omega⟩, fun h => h.1⟩
/-- A list of dependencies as rules of sets. -/
def ruleI (d : S37) : S53 := ⟨setI d.f0, setI d.f1⟩
def rulesI (l : List S37) : List S53 := l.map ruleI
def ruleSet (r : S53) : Prop := isSet r.f0 ∧ isSet r.f1
theorem ruleI_ok {d : S37} {c : Int} (h : depOk c d) (hc : c ≤ 6) : ruleSet (ruleI d) ∧ setL (ruleI d).f0 = d.f0 ∧ setL (ruleI d).f1 = d.f1 :=
  ⟨⟨(setI_ok h.1 hc).1, (setI_ok h.2 hc).1⟩, (setI_ok h.1 hc).2, (setI_ok h.2 hc).2⟩
theorem rulesI_ok {l : List S37} {c : Int} (h : ∀ d ∈ l, depOk c d) (hc : c ≤ 6) : ∀ r ∈ rulesI l, ruleSet r := by
  intro r hr
  obtain ⟨d, hd, rfl⟩ := List.mem_map.1 hr
  exact (ruleI_ok (h d hd) hc).1
/-- One round of what columns tell; what they tell. -/
def stepR (s : Int) (r : S53) : Int := if hasB s r.f0 = true then orS s r.f1 else s
def roundR (R : List S53) (s : Int) : Int := R.foldl stepR s
theorem stepR_ok {s : Int} {r : S53} (hs : isSet s) (hr : ruleSet r) : isSet (stepR s r) := by
  unfold stepR; split
  · exact orS_set hs hr.2
  · exact hs
theorem roundR_ok : ∀ {R : List S53} {s : Int}, isSet s → (∀ r ∈ R, ruleSet r) → isSet (roundR R s)
  | [], s, hs, _ => hs
  | r :: R, s, hs, h => roundR_ok (R := R) (stepR_ok hs (h r List.mem_cons_self)) (fun x hx => h x (List.mem_cons_of_mem _ hx))
theorem roundR_len : ∀ {R : List S53} {s : Int}, isSet s → (∀ r ∈ R, ruleSet r) → (setL s).length ≤ (setL (roundR R s)).length ∧ ((setL (roundR R s)).length = (setL s).length → roundR R s = s)
  | [], s, hs, _ => ⟨Nat.le_refl _, fun _ => rfl⟩
  | r :: R, s, hs, h => by
    have hr := h r List.mem_cons_self
    obtain ⟨k1, k2⟩ := roundR_len (R := R) (stepR_ok hs hr) (fun x hx => h x (List.mem_cons_of_mem _ hx))
    have hst : (setL s).length ≤ (setL (stepR s r)).length ∧ ((setL (stepR s r)).length = (setL s).length → stepR s r = s) := by
      unfold stepR; split
      · exact ⟨(orS_len hs hr.2).1, fun e => ((orS_len hs hr.2).2.1 e.symm)⟩
      · exact ⟨Nat.le_refl _, fun _ => rfl⟩
    show (setL s).length ≤ (setL (roundR R (stepR s r))).length ∧ ((setL (roundR R (stepR s r))).length = (setL s).length → roundR R (stepR s r) = s)
    refine ⟨by omega, fun e => ?_⟩
    have e1 := hst.2 (by omega)
    rw [e1] at k2 e ⊢
    exact k2 e
def cloN (R : List S53) : Nat → Int → Int
  | 0, s => s
  | n + 1, s => if roundR R s = s then s else cloN R n (roundR R s)
/-- What columns tell. -/
def cloI (R : List S53) (s : Int) : Int := cloN R 7 s
theorem cloN_ok {R : List S53} (h : ∀ r ∈ R, ruleSet r) : ∀ n {s : Int}, isSet s → isSet (cloN R n s)
  | 0, _, hs => hs
  | n + 1, s, hs => by
    unfold cloN; split
    · exact hs
    · exact cloN_ok h n (roundR_ok hs h)
theorem cloI_ok {R : List S53} {s : Int} (h : ∀ r ∈ R, ruleSet r) (hs : isSet s) : isSet (cloI R s) := cloN_ok h 7 hs
theorem rulesOf_ev (l : List S37) (c : Int) (hl : l.length ≤ 1000) (h : ∀ d ∈ l, depOk c d) (hc : c ≤ 6) : Ev (fun k => impl_rulesOf.f k l) (rulesI l) := by
  have loop := loop_up (n := l.length) (P := fun i => Ev (fun k => impl_rulesOf.l0 k (rulesI (l.take i)) l (l.length : Int) (i : Int)) (rulesI l)) ?_ ?_
  · exact loop 0 (Nat.zero_le _)
  · refine Ev.succ ?_
    simp only [impl_rulesOf.l0]
    exact Ev.neg (by omega) (Ev.const (by simp))
  · intro i hi ih
    obtain ⟨h0, h1⟩ := h _ (List.getElem_mem hi)
    refine Ev.succ ?_
    simp only [impl_rulesOf.l0]
    rw [rdD hi, wrap_add (by omega) (by omega)]
    refine Ev.pos (by omega) (Ev.pos (by omega) (Ev.pos (by omega) (Ev.bind (setOf_ev l[i].f0 (by have := ris_len h0 hc; omega) (fun x hx => (ris_mem h0 x hx).1)) (Ev.bind (setOf_ev l[i].f1 (by have := ris_len h1 hc; omega) (fun x hx => (ris_mem h1 x hx).1)) (Ev.pos (by simp [rulesI]; omega) ?_)))))
    rw [show rulesI (l.take i) ++ [⟨setI l[i].f0, setI l[i].f1⟩] = rulesI (l.take (i + 1)) by unfold rulesI; rw [List.take_succ_eq_append_getElem hi, List.map_append]; rfl]
    exact ih
theorem closure_round (R : List S53) (hR : R.length ≤ 1000) (x1 : Int) {r : Int} : ∀ (s : Int) (i : Nat), i ≤ R.length → Ev (fun k => if roundR (R.drop i) s = x1 then some x1 else impl_closure.l0 k R (roundR (R.drop i) s)) r → Ev (fun k => impl_closure.l1 k R x1 s R (R.length : Int) (i : Int)) r := by
  intro s i hi hq
  have loop := loop_up (n := R.length) (P := fun i => ∀ s, Ev (fun k => if roundR (R.drop i) s = x1 then some x1 else impl_closure.l0 k R (roundR (R.drop i) s)) r → Ev (fun k => impl_closure.l1 k R x1 s R (R.length : Int) (i : Int)) r) ?_ ?_
  · exact loop i hi s hq
  · intro s h
    refine Ev.succ ?_
    simp only [impl_closure.l1]
    exact Ev.neg (by omega) (by simpa [roundR] using h)
  · intro i hi ih s h
    refine Ev.succ ?_
    simp only [impl_closure.l1, impl_set_has.f]
    rw [rdR hi, wrap_add (by omega) (by omega)]
    rw [List.drop_eq_getElem_cons hi] at h
    refine Ev.pos (by omega) (Ev.pos (by omega) (Ev.pos (by omega) (Ev.some_bind ?_)))
    by_cases hb : hasB s R[i].f0 = true
    · refine Ev.pos hb (ih _ ?_)
      have e : roundR (R[i] :: R.drop (i + 1)) s = roundR (R.drop (i + 1)) (Go.bits .or .i64 s R[i].f1) := by
        show roundR (R.drop (i + 1)) (stepR s R[i]) = _
        unfold stepR; rw [if_pos hb]; rfl
      rw [e] at h; exact h
    · refine Ev.neg hb (ih _ ?_)
      have e : roundR (R[i] :: R.drop (i + 1)) s = roundR (R.drop (i + 1)) s := by
        show roundR (R.drop (i + 1)) (stepR s R[i]) = _
        unfold stepR; rw [if_neg hb]
      rw [e] at h; exact h
theorem closureN_ev (R : List S53) (hR : R.length ≤ 1000) (hs : ∀ r ∈ R, ruleSet r) : ∀ (n : Nat) (s : Int), isSet s → 6 < (setL s).length + n → Ev (fun k => impl_closure.l0 k R s) (cloN R n s) := by
  intro n
  induction n with
  | zero => intro s h h2; have := setL_len s; omega
  | succ n ih =>
    intro s h h2
    refine Ev.succ ?_
    simp only [impl_closure.l0]
    refine closure_round R hR s s 0 (Nat.zero_le _) ?_
    rw [List.drop_zero]
    unfold cloN
    obtain ⟨l1, l2⟩ := roundR_len h hs
    by_cases e : roundR R s = s
    · rw [if_pos e]; exact Ev.pos e (Ev.const rfl)
    · rw [if_neg e]
      refine Ev.neg e (ih _ (roundR_ok h hs) ?_)
      have : (setL (roundR R s)).length ≠ (setL s).length := fun e2 => e (l2 e2)
      omega
theorem closure_ev (R : List S53) (hR : R.length ≤ 1000) (hs : ∀ r ∈ R, ruleSet r) (s : Int) (h : isSet s) : Ev (fun k => impl_closure.f k R s) (cloI R s) := closureN_ev R hR hs 7 s h (by omega)
theorem l7Closure_round (l : List S37) (c : Int) (hl : l.length ≤ 1000) (h : ∀ d ∈ l, depOk c d) (hc : c ≤ 6) (n : Int) {r : List Int} : ∀ (s : Int) (i : Nat), isSet s → i ≤ l.length →
    (∀ t, isSet t → t = roundR (rulesI (l.drop i)) s → Ev (fun k => if ((setL t).length : Int) = n then some (setL t) else spec_l7Closure.l0 k l (setL t)) r) → Ev (fun k => spec_l7Closure.l1 k l (setL s) n l (l.length : Int) (i : Int)) r := by
  intro s i hs hi hq
  have loop := loop_up (n := l.length) (P := fun i => ∀ s, isSet s → (∀ t, isSet t → t = roundR (rulesI (l.drop i)) s → Ev (fun k => if ((setL t).length : Int) = n then some (setL t) else spec_l7Closure.l0 k l (setL t)) r) → Ev (fun k => spec_l7Closure.l1 k l (setL s) n l (l.length : Int) (i : Int)) r) ?_ ?_
  · exact loop i hi s hs hq
  · intro s hs hq
    refine Ev.succ ?_
    simp only [spec_l7Closure.l1]
    exact Ev.neg (by omega) (hq s hs (by simp [rulesI, roundR]))
  · intro i hi ih s hs hq
    have hd := h _ (List.getElem_mem hi)
    obtain ⟨⟨k0, k1⟩, e0, e1⟩ := ruleI_ok hd hc
    rw [List.drop_eq_getElem_cons hi] at hq
    refine Ev.succ ?_
    simp only [spec_l7Closure.l1]
    rw [rdD hi, wrap_add (by omega) (by omega)]
    refine Ev.pos (by omega) (Ev.pos (by omega) (Ev.pos (by omega) (Ev.bind (l7All_ev (setL s) l[i].f0 (by have := setL_len s; omega) (by have := ris_len hd.1 hc; omega)) ?_)))
    have hh := hasB_iff hs k0
    rw [e0] at hh
    rw [← hh]
    by_cases hb : hasB s (ruleI l[i]).f0 = true
    · refine Ev.pos hb ?_
      -- the numbers of To, one after the other
      have inner := loop_up (n := l[i].f1.length) (P := fun j => ∀ t, isSet t → (l[i].f1.drop j).foldl putL (setL t) = setL (orS s (ruleI l[i]).f1) → Ev (fun k => spec_l7Closure.l2 k l (setL t) n l (l.length : Int) (i : Int) l[i].f1 (l[i].f1.length : Int) (j : Int)) r) ?_ ?_
      · refine inner 0 (Nat.zero_le _) s hs ?_
        rw [orS_fold hs k1, e1]; rfl
      · intro t ht e
        refine Ev.succ ?_
        simp only [spec_l7Closure.l2]
        rw [wrap_add (a := (i : Int)) (by omega) (by omega)]
        refine Ev.neg (by omega) (ih t ht fun u hu e2 => hq u hu ?_)
        have et : t = orS s (ruleI l[i]).f1 := setL_inj ht (orS_set hs k1) (by simpa using e)
        rw [e2, et]
        show roundR (rulesI (l.drop (i + 1))) _ = roundR (rulesI (l.drop (i + 1))) (stepR s (ruleI l[i]))
        unfold stepR; rw [if_pos hb]
      · intro j hj ihj t ht e
        have hm := ris_mem hd.2 _ (List.getElem_mem hj)
        refine Ev.succ ?_
        simp only [spec_l7Closure.l2]
        have hlen := ris_len hd.2 hc
        rw [rd_nat hj, wrap_add (a := (j : Int)) (by omega) (by omega)]
        refine Ev.pos (by omega) (Ev.pos (by omega) (Ev.pos (by omega) (Ev.bind (l7Put_set t _ ht hm.1 (by omega)) (ihj _ (orB_ok ht hm.1 (by omega)).1 ?_))))
        rw [(orB_ok ht hm.1 (by omega)).2, ← e, List.drop_eq_getElem_cons hj]; rfl
    · refine Ev.neg hb (ih s hs fun u hu e2 => hq u hu ?_)
      rw [e2]
      show _ = roundR (rulesI (l.drop (i + 1))) (stepR s (ruleI l[i]))
      unfold stepR; rw [if_neg hb]
theorem l7ClosureN_ev (l : List S37) (c : Int) (hl : l.length ≤ 1000) (h : ∀ d ∈ l, depOk c d) (hc : c ≤ 6) : ∀ (n : Nat) (s : Int), isSet s → 6 < (setL s).length + n → Ev (fun k => spec_l7Closure.l0 k l (setL s)) (setL (cloN (rulesI l) n s)) := by
  have hR := rulesI_ok h hc
  intro n
  induction n with
  | zero => intro s h h2; have := setL_len s; omega
  | succ n ih =>
    intro s hs h2
    refine Ev.succ ?_
    simp only [spec_l7Closure.l0]
    refine l7Closure_round l c hl h hc _ s 0 hs (Nat.zero_le _) ?_
    intro t ht e
    rw [List.drop_zero] at e
    obtain ⟨l1, l2⟩ := roundR_len hs hR
    rw [← e] at l1 l2
    unfold cloN
    rw [← e]
    by_cases e2 : t = s
    · rw [if_pos e2]; exact Ev.pos (by rw [e2]) (Ev.const (by rw [e2]))
    · rw [if_neg e2]
      have hne : (setL t).length ≠ (setL s).length := fun e3 => e2 (l2 e3)
      exact Ev.neg (by omega) (ih t ht (by omega))
theorem l7Closure_ev (l : List S37) (c : Int) (hl : l.length ≤ 1000) (h : ∀ d ∈ l, depOk c d) (hc : c ≤ 6) (s : Int) (hs : isSet s) : Ev (fun k => spec_l7Closure.f k l (setL s)) (setL (cloI (rulesI l) s)) := by
  unfold spec_l7Closure.f
  refine Ev.some_bind (Ev.pos (by have := setL_len s; simp; omega) ?_)
  rw [List.nil_append]
  exact l7ClosureN_ev l c hl h hc 7 s hs (by omega)
/-! ### covers: rules of sets whose right side is one column -/
def dep (r : S53) : S37 := ⟨setL r.f0, setL r.f1⟩
def bitS (k : Int) : Int := shl .i64 1 k
theorem bitS_ok {k : Int} (h0 : 0 ≤ k) (h5 : k ≤ 5) : isSet (bitS k) ∧ setL (bitS k) = [k] := by
  have key : ∀ m : Fin 6, (0 ≤ bitS (m.val : Int) ∧ bitS (m.val : Int) < 64) ∧ setL (bitS (m.val : Int)) = [(m.val : Int)] := by decide +kernel
  obtain ⟨m, rfl⟩ := fin_num h0 h5
  exact key m
theorem ris_of {l : List Int} {c : Int} (hp : l.Pairwise (· < ·)) (hm : ∀ x ∈ l, 0 ≤ x ∧ x < c) : ris l c := fun i hi =>
  ⟨(hm _ (List.getElem_mem hi)).1, (hm _ (List.getElem_mem hi)).2, fun h => List.pairwise_iff_getElem.1 hp _ _ (by omega) hi (by omega)⟩
theorem setI_setL {s : Int} (h : isSet s) : setI (setL s) = s := by
  have hr : ris (setL s) 6 := ris_of (setL_pw s) (fun x hx => by have := setL_mem hx; omega)
  obtain ⟨a, b⟩ := setI_ok hr (Int.le_refl _)
  exact setL_inj a h b
def okR (c : Int) (r : S53) : Prop := ruleSet r ∧ depOk c (dep r) ∧ ∃ k, setL r.f1 = [k]
theorem rulesI_dep : ∀ {R : List S53}, (∀ r ∈ R, ruleSet r) → rulesI (R.map dep) = R
  | [], _ => rfl
  | r :: R, h => by
    have hr := h r List.mem_cons_self
    have ih := rulesI_dep (R := R) (fun x hx => h x (List.mem_cons_of_mem _ hx))
    unfold rulesI at *
    rw [List.map_cons, List.map_cons, ih]
    congr 1
    obtain ⟨a, b⟩ := r
    show (⟨setI (setL a), setI (setL b)⟩ : S53) = ⟨a, b⟩
    rw [setI_setL hr.1, setI_setL hr.2]
theorem map_ok {R : List S53} {c : Int} (h : ∀ r ∈ R, okR c r) : ∀ d ∈ R.map dep, depOk c d := by
  intro d hd
  obtain ⟨r, hr, rfl⟩ := List.mem_map.1 hd
  exact (h r hr).2.1
theorem rdDep {R : List S53} {i : Nat} (h : i < R.length) : rd_T37 (R.map dep) (i : Int) = dep R[i] := by simp [rd_T37, h]
theorem implI_ev (R : List S53) (hR : R.length ≤ 1000) (hs : ∀ r ∈ R, ruleSet r) (a b : Int) (ha : isSet a) (hb : isSet b) : Ev (fun k => impl_implies.f k R a b) (hasB (cloI R a) b) := by
  unfold impl_implies.f
  exact Ev.bind (closure_ev R hR hs a ha) (Ev.const rfl)
theorem implS_ev (R : List S53) (c : Int) (hR : R.length ≤ 1000) (h : ∀ r ∈ R, okR c r) (hc : c ≤ 6) (a b : Int) (ha : isSet a) (hb : isSet b) : Ev (fun k => spec_l7Implies.f k (R.map dep) (setL a) (setL b)) (hasB (cloI R a) b) := by
  have hs : ∀ r ∈ R, ruleSet r := fun r hr => (h r hr).1
  unfold spec_l7Implies.f
  have h1 := l7Closure_ev (R.map dep) c (by simpa using hR) (map_ok h) hc a ha
  rw [rulesI_dep hs] at h1
  have l1 := setL_len (cloI R a)
  have l2 := setL_len b
  exact Ev.bind h1 (Ev.bind (l7All_ev _ _ (by omega) (by omega)) (Ev.const (by rw [hasB_iff (cloI_ok hs ha) hb])))
theorem l5_ev (R : List S53) (hR : R.length ≤ 60) (h : ∀ r ∈ R, ruleSet r) : Ev (fun k => impl_CoverOf.l5 k ([] : List S37) R (R.length : Int) 0) (R.map dep, true) := by
  have loop := loop_up (n := R.length) (P := fun i => Ev (fun k => impl_CoverOf.l5 k ((R.take i).map dep) R (R.length : Int) (i : Int)) (R.map dep, true)) ?_ ?_
  · exact loop 0 (Nat.zero_le _)
  · refine Ev.succ ?_
    simp only [impl_CoverOf.l5]
    exact Ev.neg (by omega) (Ev.const (by simp))
  · intro i hi ih
    obtain ⟨h0, h1⟩ := h _ (List.getElem_mem hi)
    refine Ev.succ ?_
    simp only [impl_CoverOf.l5]
    rw [rdR hi, wrap_add (by omega) (by omega)]
    refine Ev.pos (by omega) (Ev.pos (by omega) (Ev.pos (by omega) (Ev.bind (setL_ev _ h0.1 h0.2) (Ev.bind (setL_ev _ h1.1 h1.2) (Ev.pos (by simp; omega) ?_)))))
    rw [show (R.take i).map dep ++ [⟨setL R[i].f0, setL R[i].f1⟩] = (R.take (i + 1)).map dep by rw [List.take_succ_eq_append_getElem hi, List.map_append]; rfl]
    exact ih
/-! ### what rules imply, told by the sets that they leave as they are -/
def shut (R : List S53) (t : Int) : Prop := ∀ r ∈ R, hasB t r.f0 = true → hasB t r.f1 = true
theorem has_refl {a : Int} (ha : isSet a) : hasB a a = true := (mem_has ha ha).2 fun _ h => h
theorem has_trans {a b c : Int} (ha : isSet a) (hb : isSet b) (hc : isSet c) (h : hasB a b = true) (h2 : hasB b c = true) : hasB a c = true :=
  (mem_has ha hc).2 fun x hx => (mem_has ha hb).1 h x ((mem_has hb hc).1 h2 x hx)
theorem stepR_sub {s t : Int} {r : S53} (hs : isSet s) (ht : isSet t) (hr : ruleSet r) (h : hasB t s = true) (hc : hasB t r.f0 = true → hasB t r.f1 = true) : hasB t (stepR s r) = true := by
  unfold stepR
  by_cases h1 : hasB s r.f0 = true
  · rw [if_pos h1]
    refine (mem_has ht (orS_set hs hr.2)).2 fun x hx => ?_
    rcases (mem_or hs hr.2 x).1 hx with h2 | h2
    · exact (mem_has ht hs).1 h x h2
    · exact (mem_has ht hr.2).1 (hc (has_trans ht hs hr.1 h h1)) x h2
  · rw [if_neg h1]; exact h
theorem roundR_sub {t : Int} (ht : isSet t) : ∀ {R : List S53} {s : Int}, isSet s → (∀ r ∈ R, ruleSet r) → hasB t s = true → shut R t → hasB t (roundR R s) = true
  | [], s, _, _, h, _ => h
  | r :: R, s, hs, hr, h, hc => roundR_sub (R := R) ht (stepR_ok hs (hr r List.mem_cons_self)) (fun x hx => hr x (List.mem_cons_of_mem _ hx)) (stepR_sub hs ht (hr r List.mem_cons_self) h (hc r List.mem_cons_self)) (fun x hx => hc x (List.mem_cons_of_mem _ hx))
theorem cloN_sub {t : Int} (ht : isSet t) {R : List S53} (hr : ∀ r ∈ R, ruleSet r) (hc : shut R t) : ∀ n {s : Int}, isSet s → hasB t s = true → hasB t (cloN R n s) = true
  | 0, _, _, h => h
  | n + 1, s, hs, h => by
    unfold cloN
    by_cases e : roundR R s = s
    · rw [if_pos e]; exact h
    · rw [if_neg e]; exact cloN_sub ht hr hc n (roundR_ok hs hr) (roundR_sub ht hs hr h hc)
theorem stepR_up {s : Int} {r : S53} (hs : isSet s) (hr : ruleSet r) : hasB (stepR s r) s = true := by
  unfold stepR
  by_cases h1 : hasB s r.f0 = true
  · rw [if_pos h1]
    exact (mem_has (orS_set hs hr.2) hs).2 fun x hx => (mem_or hs hr.2 x).2 (.inl hx)
  · rw [if_neg h1]; exact has_refl hs
theorem roundR_up : ∀ {R : List S53} {s : Int}, isSet s → (∀ r ∈ R, ruleSet r) → hasB (roundR R s) s = true
  | [], s, hs, _ => has_refl hs
  | r :: R, s, hs, hr => by
    have h1 := hr r List.mem_cons_self
    have h2 : ∀ x ∈ R, ruleSet x := fun x hx => hr x (List.mem_cons_of_mem _ hx)
    show hasB (roundR R (stepR s r)) s = true
    exact has_trans (roundR_ok (stepR_ok hs h1) h2) (stepR_ok hs h1) hs (roundR_up (R := R) (stepR_ok hs h1) h2) (stepR_up hs h1)
theorem cloN_up {R : List S53} (hr : ∀ r ∈ R, ruleSet r) : ∀ n {s : Int}, isSet s → hasB (cloN R n s) s = true
  | 0, _, hs => has_refl hs
  | n + 1, s, hs => by
    unfold cloN
    by_cases e : roundR R s = s
    · rw [if_pos e]; exact has_refl hs
    · rw [if_neg e]
      exact has_trans (cloN_ok hr n (roundR_ok hs hr)) (roundR_ok hs hr) hs (cloN_up hr n (roundR_ok hs hr)) (roundR_up hs hr)
theorem has_anti {a b : Int} (ha : isSet a) (hb : isSet b) (h1 : hasB a b = true) (h2 : hasB b a = true) : a = b :=
  setL_inj ha hb (pw_eq (setL_pw a) (setL_pw b) fun x => ⟨(mem_has hb ha).1 h2 x, (mem_has ha hb).1 h1 x⟩)
theorem round_shut : ∀ {R : List S53} {s : Int}, isSet s → (∀ r ∈ R, ruleSet r) → roundR R s = s → shut R s
  | [], _, _, _, _ => fun r hr => by cases hr
  | r :: R, s, hs, hr, e => by
    have h1 := hr r List.mem_cons_self
    have h2 : ∀ x ∈ R, ruleSet x := fun x hx => hr x (List.mem_cons_of_mem _ hx)
    have e0 : roundR R (stepR s r) = s := e
    have up := roundR_up (R := R) (stepR_ok hs h1) h2
    rw [e0] at up
    have e1 : stepR s r = s := has_anti (stepR_ok hs h1) hs (stepR_up hs h1) up
    rw [e1] at e0
    intro x hx hf
    rcases List.mem_cons.1 hx with rfl | hx
    · unfold stepR at e1
      rw [if_pos hf] at e1
      refine (mem_has hs h1.2).2 fun y hy => ?_
      rw [← e1]
      exact (mem_or hs h1.2 y).2 (.inr hy)
    · exact round_shut hs h2 e0 x hx hf
theorem cloN_fix {R : List S53} (hr : ∀ r ∈ R, ruleSet r) : ∀ n {s : Int}, isSet s → 6 < (setL s).length + n → roundR R (cloN R n s) = cloN R n s
  | 0, s, _, h => by have := setL_len s; omega
  | n + 1, s, hs, h => by
    unfold cloN
    by_cases e : roundR R s = s
    · rw [if_pos e]; exact e
    · rw [if_neg e]
      obtain ⟨l1, l2⟩ := roundR_len hs hr
      refine cloN_fix hr n (roundR_ok hs hr) ?_
      have : (setL (roundR R s)).length ≠ (setL s).length := fun e2 => e (l2 e2)
      omega
theorem cloI_shut {R : List S53} (hr : ∀ r ∈ R, ruleSet r) {s : Int} (hs : isSet s) : shut R (cloI R s) :=
  round_shut (cloI_ok hr hs) hr (cloN_fix hr 7 hs (by omega))
theorem imp_iff {R : List S53} (hr : ∀ r ∈ R, ruleSet r) {a b : Int} (ha : isSet a) (hb : isSet b) :
    hasB (cloI R a) b = true ↔ ∀ t, isSet t → shut R t → hasB t a = true → hasB t b = true := by
  constructor
  · intro h t ht hc h1
    exact has_trans ht (cloI_ok hr ha) hb (cloN_sub ht hr hc 7 ha h1) h
  · intro h
    exact h _ (cloI_ok hr ha) (cloI_shut hr ha) (cloN_up hr 7 ha)
/-- Two lists of rules leave the same sets as they are. -/
def alike (R Q : List S53) : Prop := ∀ t, isSet t → (shut R t ↔ shut Q t)
theorem alike.refl (R : List S53) : alike R R := fun _ _ => Iff.rfl
theorem alike.trans {R Q S : List S53} (h : alike R Q) (h2 : alike Q S) : alike R S := fun t ht => (h t ht).trans (h2 t ht)
theorem alike.imp {R Q : List S53} (h : alike R Q) (hr : ∀ r ∈ R, ruleSet r) (hq : ∀ r ∈ Q, ruleSet r) {a b : Int} (ha : isSet a) (hb : isSet b) (hi : hasB (cloI R a) b = true) : hasB (cloI Q a) b = true :=
  (imp_iff hq ha hb).2 fun t ht hc h1 => (imp_iff hr ha hb).1 hi t ht ((h t ht).2 hc) h1
theorem imp_more {R : List S53} (hr : ∀ r ∈ R, ruleSet r) {a a2 b : Int} (ha : isSet a) (ha2 : isSet a2) (hb : isSet b) (hs : hasB a2 a = true) (hi : hasB (cloI R a) b = true) : hasB (cloI R a2) b = true :=
  (imp_iff hr ha2 hb).2 fun t ht hc h1 => (imp_iff hr ha hb).1 hi t ht hc (has_trans ht ha2 ha h1 hs)
theorem imp_sub {R Q : List S53} (hq : ∀ r ∈ Q, ruleSet r) (hr : ∀ r ∈ R, ruleSet r) (hsub : ∀ r ∈ Q, r ∈ R) {a b : Int} (ha : isSet a) (hb : isSet b) (hi : hasB (cloI Q a) b = true) : hasB (cloI R a) b = true :=
  (imp_iff hr ha hb).2 fun t ht hc h1 => (imp_iff hq ha hb).1 hi t ht (fun r h => hc r (hsub r h)) h1
/-! the middle stage: columns that are not needed go -/
theorem minus_list {s k : Int} (hs : isSet s) (h0 : 0 ≤ k) (h5 : k ≤ 5) : isSet (minusS s (bitS k)) ∧ setL (minusS s (bitS k)) = (setL s).filter (fun x => !(x == k)) := by
  obtain ⟨b1, b2⟩ := bitS_ok h0 h5
  obtain ⟨a, b⟩ := minusS_eq hs b1
  refine ⟨a, ?_⟩
  rw [b, b2]
  congr 1
  funext x
  by_cases e : x = k
  · subst e; simp
  · have e2 : ¬ k = x := fun h => e h.symm
    simp [e]
theorem okR_cut {c : Int} {r : S53} (h : okR c r) (hc : c ≤ 6) {k : Int} (h0 : 0 ≤ k) (h5 : k ≤ 5) : okR c ⟨minusS r.f0 (bitS k), r.f1⟩ := by
  obtain ⟨⟨h1, h2⟩, ⟨h3, h4⟩, h6⟩ := h
  obtain ⟨m1, m2⟩ := minus_list h1 h0 h5
  refine ⟨⟨m1, h2⟩, ⟨?_, h4⟩, h6⟩
  refine ris_of (setL_pw _) (fun x hx => ?_)
  replace hx : x ∈ setL (minusS r.f0 (bitS k)) := hx
  rw [m2] at hx
  exact ris_mem h3 x ((List.mem_filter.1 hx).1)
theorem okR_set {c : Int} {R : List S53} {i : Nat} {r : S53} (h : ∀ x ∈ R, okR c x) (hr : okR c r) : ∀ x ∈ R.set i r, okR c x := fun x hx => by
  rcases List.mem_or_eq_of_mem_set hx with h2 | rfl
  · exact h x h2
  · exact hr
theorem less_ev (c kk : Int) (out : List S37) (i n : Nat) (L F : List Int) (ll j : Int) (hF : F.length ≤ 6) {res : List S37 × Bool}
    (hend : Ev (fun k => spec_CoverOf.l5 k c out (i : Int) kk (F.filter (fun x => !(x == kk))) (n : Int) (i : Int) L ll j F (F.length : Int) (F.length : Int)) res) :
    Ev (fun k => spec_CoverOf.l5 k c out (i : Int) kk ([] : List Int) (n : Int) (i : Int) L ll j F (F.length : Int) 0) res := by
  have loop := loop_up (n := F.length) (P := fun t => Ev (fun k => spec_CoverOf.l5 k c out (i : Int) kk ((F.take t).filter (fun x => !(x == kk))) (n : Int) (i : Int) L ll j F (F.length : Int) (t : Int)) res) ?_ ?_
  · exact loop 0 (Nat.zero_le _)
  · rw [List.take_length]; exact hend
  · intro t ht ih
    have hl : ((F.take t).filter (fun x => !(x == kk))).length ≤ t := Nat.le_trans (List.length_filter_le _ _) (by simp; omega)
    rw [List.take_succ_eq_append_getElem ht, List.filter_append] at ih
    refine Ev.succ ?_
    simp only [spec_CoverOf.l5]
    rw [rd_nat ht, wrap_add (by omega) (by omega)]
    refine Ev.pos (by omega) (Ev.pos (by omega) (Ev.pos (by omega) ?_))
    by_cases e : F[t] = kk
    · refine Ev.pos e ?_
      rw [List.filter_cons_of_neg (by simp [e]), List.filter_nil, List.append_nil] at ih
      exact ih
    · refine Ev.neg e (Ev.pos (by omega) ?_)
      rw [List.filter_cons_of_pos (by simp [e]), List.filter_nil] at ih
      exact ih
/-! the first stage: a rule for each column, once -/
def has1 (R : List S53) (a b : Int) : Bool := R.any fun x => (a == x.f0 && b == x.f1)
theorem contains_ev (R : List S53) (hR : R.length ≤ 1000) (a b : Int) : Ev (fun k => impl_rule_26.f k R a b) (has1 R a b) := by
  have loop := loop_up (n := R.length) (P := fun i => ∃ t : Int, Ev (fun k => impl_rule_52.l0 k R (R.length : Int) (i : Int) a b) t ∧ decide (t ≥ 0) = has1 (R.drop i) a b) ?_ ?_
  · obtain ⟨t, h1, h2⟩ := loop 0 (Nat.zero_le _)
    unfold impl_rule_26.f impl_rule_52.f
    rw [List.drop_zero] at h2
    exact Ev.bind h1 (Ev.const (by rw [h2]))
  · refine ⟨-1, Ev.succ ?_, by simp [has1]⟩
    simp only [impl_rule_52.l0]
    exact Ev.neg (by omega) (Ev.const rfl)
  · intro i hi ih
    obtain ⟨t, h1, h2⟩ := ih
    have hd : has1 (R.drop i) a b = ((a == R[i].f0 && b == R[i].f1) || has1 (R.drop (i + 1)) a b) := by
      unfold has1
      rw [List.drop_eq_getElem_cons hi, List.any_cons]
    cases e : (a == R[i].f0 && b == R[i].f1) with
    | true =>
      refine ⟨(i : Int), Ev.succ ?_, ?_⟩
      · simp only [impl_rule_52.l0]
        rw [rdR hi]
        exact Ev.pos (by omega) (Ev.pos (by omega) (Ev.pos (by omega) (Ev.pos e (Ev.const rfl))))
      · rw [hd, e, Bool.true_or]
        exact decide_eq_true (by omega)
    | false =>
      refine ⟨t, Ev.succ ?_, ?_⟩
      · simp only [impl_rule_52.l0]
        rw [rdR hi, wrap_add (by omega) (by omega)]
        exact Ev.pos (by omega) (Ev.pos (by omega) (Ev.pos (by omega) (Ev.neg (by rw [e]; simp) h1)))
      · rw [hd, e, Bool.false_or, h2]
theorem same_ev (a b : Int) (ha : isSet a) (hb : isSet b) : Ev (fun k => spec_l7Same.f k (setL a) (setL b)) (b == a) := by
  have l1 := setL_len a
  have l2 := setL_len b
  unfold spec_l7Same.f
  by_cases hl : ((setL a).length : Int) = ((setL b).length : Int)
  · refine Ev.pos hl (Ev.bind (l7All_ev (setL a) (setL b) (by omega) (by omega)) (Ev.const ?_))
    rw [← hasB_iff ha hb]
    congr 1
    rw [Bool.eq_iff_iff, mem_has ha hb, beq_iff_eq]
    constructor
    · intro h
      exact ((sub_len ha hb h).2.1 (by omega)).symm
    · rintro rfl x hx
      exact hx
  · refine Ev.neg hl (Ev.const ?_)
    congr 1
    rw [Bool.eq_iff_iff, beq_iff_eq]
    constructor
    · intro h; cases h
    · rintro rfl; exact absurd rfl hl
theorem have_ev (c kk s : Int) (R : List S53) (hR : R.length ≤ 60) (h : ∀ r ∈ R, okR c r) (hs : isSet s) (k0 : 0 ≤ kk) (k5 : kk ≤ 5) (l : List S37) (n i : Int) (T T' : List Int) (tl j : Int) {res : List S37 × Bool} :
    Ev (fun k => spec_CoverOf.l2 k c (R.map dep) kk (has1 R s (bitS kk)) l n i T tl j (R.map dep) ((R.map dep).length : Int) ((R.map dep).length : Int) (setL s) T') res →
    Ev (fun k => spec_CoverOf.l2 k c (R.map dep) kk false l n i T tl j (R.map dep) ((R.map dep).length : Int) 0 (setL s) T') res := by
  intro hend
  have loop := loop_up (n := R.length) (P := fun q => ∀ b : Bool, (b || has1 (R.drop q) s (bitS kk)) = has1 R s (bitS kk) → Ev (fun k => spec_CoverOf.l2 k c (R.map dep) kk b l n i T tl j (R.map dep) ((R.map dep).length : Int) (q : Int) (setL s) T') res) ?_ ?_
  · exact loop 0 (Nat.zero_le _) false (by simp)
  · intro b hb
    rw [List.drop_length, show has1 [] s (bitS kk) = false from rfl, Bool.or_false] at hb
    subst hb
    rw [List.length_map] at hend ⊢
    exact hend
  · intro q hq ih b hb
    have hd : has1 (R.drop q) s (bitS kk) = ((s == R[q].f0 && bitS kk == R[q].f1) || has1 (R.drop (q + 1)) s (bitS kk)) := by
      unfold has1
      rw [List.drop_eq_getElem_cons hq, List.any_cons]
    rw [hd] at hb
    refine Ev.succ ?_
    simp only [spec_CoverOf.l2]
    rw [rdDep hq, wrap_add (a := (q : Int)) (by omega) (by omega)]
    refine Ev.pos (by simp; omega) (Ev.pos (by omega) (Ev.pos (by simp; omega) ?_))
    cases b with
    | true =>
      exact Ev.pos rfl (ih true (by rw [← hb]; simp))
    | false =>
      rw [Bool.false_or] at hb
      obtain ⟨⟨r0, r1⟩, _, k', hk⟩ := h _ (List.getElem_mem hq)
      obtain ⟨b1, b2⟩ := bitS_ok k0 k5
      have ek : (bitS kk == R[q].f1) = decide (k' = kk) := by
        rw [Bool.eq_iff_iff, beq_iff_eq, decide_eq_true_iff]
        constructor
        · intro e
          rw [← e, b2] at hk
          simpa using hk.symm
        · rintro rfl
          exact setL_inj b1 r1 (by rw [b2, hk])
      refine Ev.neg (by simp) (Ev.pos ?_ ?_)
      · show (0 : Int) < ((setL R[q].f1).length : Int)
        rw [hk]; simp
      rw [show rd (dep R[q]).f1 0 = k' by show rd (setL R[q].f1) 0 = k'; rw [hk]; rfl]
      by_cases e : k' = kk
      · refine Ev.pos e (Ev.bind (same_ev R[q].f0 s r0 hs) (ih _ ?_))
        rw [← hb, ek, decide_eq_true e, Bool.and_true]
      · refine Ev.neg e (ih false ?_)
        rw [← hb, ek, decide_eq_false e, Bool.and_false]
/-! the stages' rounds, one by one -/
theorem goS3 (c : Int) (hc : c ≤ 6) (R : List S53) (i : Nat) (hi : i < R.length) (hR : R.length ≤ 60) (h : ∀ r ∈ R, okR c r) {res : List S37 × Bool}
    (hr : Ev (fun k => if hasB (cloI (R.eraseIdx i) R[i].f0) R[i].f1 = true then spec_CoverOf.l6 k c ((R.eraseIdx i).map dep) (i : Int) else spec_CoverOf.l6 k c (R.map dep) ((i : Int) + 1)) res) : Ev (fun k => spec_CoverOf.l6 k c (R.map dep) (i : Int)) res := by
  have hO : ∀ r ∈ R.eraseIdx i, okR c r := fun r hr => h r (List.mem_of_mem_eraseIdx hr)
  have hel : (R.eraseIdx i).length = R.length - 1 := List.length_eraseIdx_of_lt hi
  obtain ⟨hi0, hi1⟩ := (h _ (List.getElem_mem hi)).1
  have e1 := implS_ev (R.eraseIdx i) c (by omega) hO hc R[i].f0 R[i].f1 hi0 hi1
  have hy : (([] : List S37) ++ (R.map dep).take (i : Int).toNat) ++ (R.map dep).drop ((i : Int) + 1).toNat = (R.eraseIdx i).map dep := by
    rw [List.nil_append, show ((i : Int) + 1).toNat = i + 1 by omega, show (i : Int).toNat = i by omega, ← List.map_take, ← List.map_drop, ← List.map_append, List.eraseIdx_eq_take_drop_succ]
  refine Ev.succ ?_
  simp only [spec_CoverOf.l6]
  rw [wrap_add (by omega) (by omega), rdDep hi]
  refine Ev.pos (by simp; omega) (Ev.some_bind (Ev.pos (by omega) (Ev.pos (by simp; omega) (Ev.some_bind (Ev.pos (by simp; omega) (Ev.some_bind (Ev.pos (by omega) (Ev.pos (by simp; omega) (Ev.some_bind (Ev.pos (by simp; omega) (Ev.some_bind ?_)))))))))))
  rw [hy]
  exact Ev.bind e1 hr
theorem goI3 (c : Int) (R : List S53) (i : Nat) (hi : i < R.length) (hR : R.length ≤ 60) (h : ∀ r ∈ R, okR c r) {res : List S37 × Bool}
    (hr : Ev (fun k => if hasB (cloI (R.eraseIdx i) R[i].f0) R[i].f1 = true then impl_CoverOf.l4 k (R.eraseIdx i) (i : Int) else impl_CoverOf.l4 k R ((i : Int) + 1)) res) : Ev (fun k => impl_CoverOf.l4 k R (i : Int)) res := by
  have hOs : ∀ r ∈ R.eraseIdx i, ruleSet r := fun r hr => (h r (List.mem_of_mem_eraseIdx hr)).1
  have hel : (R.eraseIdx i).length = R.length - 1 := List.length_eraseIdx_of_lt hi
  obtain ⟨hi0, hi1⟩ := (h _ (List.getElem_mem hi)).1
  have e2 := implI_ev (R.eraseIdx i) (by omega) hOs R[i].f0 R[i].f1 hi0 hi1
  refine Ev.succ ?_
  simp only [impl_CoverOf.l4]
  rw [wrap_add (by omega) (by omega), rdR hi]
  refine Ev.pos (by omega) (Ev.bind (Ev.const (show clone_Rule.f R = some R from if_pos ⟨by omega, by omega⟩)) (Ev.bind (Ev.const (show del_Rule.f R (i : Int) ((i : Int) + 1) = some (R.eraseIdx i) from ?_)) (Ev.pos (by omega) (Ev.bind e2 hr))))
  unfold del_Rule.f
  rw [if_pos ⟨by omega, rfl, by omega⟩, show (i : Int).toNat = i by omega]
theorem goS2 (c : Int) (hc : c ≤ 6) (n i : Nat) (L : List Int) (hLl : L.length ≤ 6) (hi : i < n) (hn : n ≤ 60) (j : Nat) (hj : j < L.length) (kl : 0 ≤ L[j]) (kh : L[j] ≤ 5) (R : List S53) (hR : R.length = n) (h : ∀ r ∈ R, okR c r) {res : List S37 × Bool}
    (hr : Ev (fun k => if hasB (cloI R (minusS (R[i]'(by omega)).f0 (bitS L[j]))) (R[i]'(by omega)).f1 = true then spec_CoverOf.l4 k c ((R.set i ⟨minusS (R[i]'(by omega)).f0 (bitS L[j]), (R[i]'(by omega)).f1⟩).map dep) (i : Int) (n : Int) (i : Int) L (L.length : Int) ((j + 1 : Nat) : Int) else spec_CoverOf.l4 k c (R.map dep) (i : Int) (n : Int) (i : Int) L (L.length : Int) ((j + 1 : Nat) : Int)) res) :
    Ev (fun k => spec_CoverOf.l4 k c (R.map dep) (i : Int) (n : Int) (i : Int) L (L.length : Int) (j : Int)) res := by
  have hiR : i < R.length := by omega
  obtain ⟨h0, h1⟩ := (h _ (List.getElem_mem hiR)).1
  obtain ⟨m1, m2⟩ := minus_list h0 kl kh
  have e1 := implS_ev R c (by omega) h hc (minusS R[i].f0 (bitS L[j])) R[i].f1 m1 h1
  have l6 := setL_len R[i].f0
  have hset : (R.map dep).set (i : Int).toNat ⟨setL (minusS R[i].f0 (bitS L[j])), (dep R[i]).f1⟩ = (R.set i ⟨minusS R[i].f0 (bitS L[j]), R[i].f1⟩).map dep := by
    rw [show (i : Int).toNat = i by omega, List.map_set]; rfl
  refine Ev.succ ?_
  simp only [spec_CoverOf.l4]
  rw [rdDep hiR, rd_nat hj]
  refine Ev.pos (by omega) (Ev.pos (by omega) (Ev.pos (by omega) (Ev.pos (by omega) (Ev.pos (by simp; omega) ?_))))
  refine less_ev c L[j] (R.map dep) i n L (dep R[i]).f0 _ _ l6 (Ev.succ ?_)
  simp only [spec_CoverOf.l5]
  rw [rdDep hiR, wrap_add (a := (j : Int)) (by omega) (by omega)]
  refine Ev.neg (by omega) (Ev.pos (by omega) (Ev.pos (by simp; omega) ?_))
  rw [show (dep R[i]).f0.filter (fun x => !(x == L[j])) = setL (minusS R[i].f0 (bitS L[j])) from m2.symm, hset]
  exact Ev.bind e1 hr
theorem goI2 (c : Int) (hc : c ≤ 6) (n i : Nat) (L : List Int) (hLl : L.length ≤ 6) (hi : i < n) (hn : n ≤ 60) (j : Nat) (hj : j < L.length) (kl : 0 ≤ L[j]) (kh : L[j] ≤ 5) (R : List S53) (hR : R.length = n) (h : ∀ r ∈ R, okR c r) {res : List S37 × Bool}
    (hr : Ev (fun k => if hasB (cloI R (minusS (R[i]'(by omega)).f0 (bitS L[j]))) (R[i]'(by omega)).f1 = true then impl_CoverOf.l3 k (R.set i ⟨minusS (R[i]'(by omega)).f0 (bitS L[j]), (R[i]'(by omega)).f1⟩) (i : Int) (n : Int) (i : Int) L (L.length : Int) ((j + 1 : Nat) : Int) else impl_CoverOf.l3 k R (i : Int) (n : Int) (i : Int) L (L.length : Int) ((j + 1 : Nat) : Int)) res) :
    Ev (fun k => impl_CoverOf.l3 k R (i : Int) (n : Int) (i : Int) L (L.length : Int) (j : Int)) res := by
  have hiR : i < R.length := by omega
  have hs : ∀ r ∈ R, ruleSet r := fun r hr => (h r hr).1
  obtain ⟨h0, h1⟩ := (h _ (List.getElem_mem hiR)).1
  obtain ⟨m1, m2⟩ := minus_list h0 kl kh
  have e2 := implI_ev R (by omega) hs (minusS R[i].f0 (bitS L[j])) R[i].f1 m1 h1
  refine Ev.succ ?_
  simp only [impl_CoverOf.l3]
  rw [rdR hiR, rd_nat hj, wrap_add (a := (j : Int)) (by omega) (by omega), show (i : Int).toNat = i by omega]
  exact Ev.pos (by omega) (Ev.pos (by omega) (Ev.pos (by omega) (Ev.pos (by omega) (Ev.pos (by omega) (Ev.pos kl (Ev.bind e2 hr))))))
/-! ### what a cover is: the stages once more, with what they bring about -/
def impB (R : List S53) (a b : Int) : Prop := hasB (cloI R a) b = true
/-- No column of a rule's left side can go. -/
def tight (R : List S53) (r : S53) : Prop := ∀ k ∈ setL r.f0, ¬ impB R (minusS r.f0 (bitS k)) r.f1
/-- What a cover of R0 is. -/
def coverOf (c : Int) (R0 R : List S53) : Prop := R.length ≤ 10 ∧ (∀ r ∈ R, okR c r) ∧ alike R0 R ∧ (∀ r ∈ R, tight R r) ∧ ∀ i, (hi : i < R.length) → ¬ impB (R.eraseIdx i) R[i].f0 R[i].f1
def outC (c : Int) (R0 : List S53) (res : List S37 × Bool) : Prop := (res.2 = true → ∃ R, res.1 = R.map dep ∧ coverOf c R0 R) ∧ res.1.length ≤ 60 ∧ (res.2 = false → res.1 = [])
theorem alike_erase {R : List S53} (hr : ∀ r ∈ R, ruleSet r) {i : Nat} (hi : i < R.length) (h : impB (R.eraseIdx i) R[i].f0 R[i].f1) : alike R (R.eraseIdx i) := by
  have hq : ∀ r ∈ R.eraseIdx i, ruleSet r := fun r hx => hr r (List.mem_of_mem_eraseIdx hx)
  obtain ⟨h0, h1⟩ := hr _ (List.getElem_mem hi)
  intro t ht
  refine ⟨fun hc r hx => hc r (List.mem_of_mem_eraseIdx hx), fun hc r hx hf => ?_⟩
  by_cases e : r ∈ R.eraseIdx i
  · exact hc r e hf
  · obtain ⟨j, hj, rfl⟩ := List.getElem_of_mem hx
    by_cases eji : j = i
    · subst eji
      exact (imp_iff hq h0 h1).1 h t ht hc hf
    · exact absurd (List.mem_eraseIdx_iff_getElem.2 ⟨j, hj, eji, rfl⟩) e
theorem tight_alike {R Q : List S53} (h : alike R Q) (hr : ∀ r ∈ R, ruleSet r) (hq : ∀ r ∈ Q, ruleSet r) {r : S53} (h0 : ruleSet r) (ht : tight R r) : tight Q r := by
  intro k hk hi
  obtain ⟨k0, k5⟩ := setL_mem hk
  exact ht k hk (alike.imp (fun t ht => (h t ht).symm) hq hr (minus_list h0.1 k0 k5).1 h0.2 hi)
theorem stage3f (c : Int) (hc1 : 1 ≤ c) (hc : c ≤ 6) (R0 : List S53) : ∀ (m : Nat) (R : List S53) (i : Nat), R.length - i ≤ m → R.length ≤ 60 → (∀ r ∈ R, okR c r) → alike R0 R → (∀ r ∈ R, tight R r) → (∀ j, (hj : j < R.length) → j < i → ¬ impB (R.eraseIdx j) R[j].f0 R[j].f1) →
    ∃ res : List S37 × Bool, outC c R0 res ∧ Ev (fun k => spec_CoverOf.l6 k c (R.map dep) (i : Int)) res ∧ Ev (fun k => impl_CoverOf.l4 k R (i : Int)) res := by
  intro m
  induction m with
  | zero =>
    intro R i hm hR h hal hti hne
    have hs : ∀ r ∈ R, ruleSet r := fun r hr => (h r hr).1
    have hG := specGood_ev (R.map dep) c ⟨by simp; omega, fun x hx => by
      obtain ⟨r, _, rfl⟩ := List.mem_map.1 hx
      have l1 := setL_len r.f0
      have l2 := setL_len r.f1
      exact ⟨by show (setL r.f0).length ≤ _; omega, by show (setL r.f1).length ≤ _; omega⟩⟩
    by_cases h10 : R.length ≤ 10
    · have hd : depsOk (R.map dep) c := ⟨map_ok h, hc1, hc, by simpa using h10⟩
      refine ⟨(R.map dep, true), ⟨fun _ => ⟨R, rfl, h10, h, hal, hti, fun j hj => hne j hj (by omega)⟩, by simpa using hR, fun h => (by cases h)⟩, Ev.succ ?_, Ev.succ ?_⟩
      · simp only [spec_CoverOf.l6]
        exact Ev.neg (by simp; omega) (Ev.bind hG (Ev.pos (tell_yes hd) (Ev.const rfl)))
      · simp only [impl_CoverOf.l4]
        exact Ev.neg (by omega) (Ev.neg (by omega) (l5_ev R hR hs))
    · have hd : ¬ depsOk (R.map dep) c := fun g => h10 (by simpa using g.2.2.2)
      refine ⟨([], false), ⟨fun h => (by cases h), by simp, fun _ => rfl⟩, Ev.succ ?_, Ev.succ ?_⟩
      · simp only [spec_CoverOf.l6]
        exact Ev.neg (by simp; omega) (Ev.bind hG (Ev.neg (by rw [tell_no hd]; simp) (Ev.const rfl)))
      · simp only [impl_CoverOf.l4]
        exact Ev.neg (by omega) (Ev.pos (by omega) (Ev.const rfl))
  | succ m ih =>
    intro R i hm hR h hal hti hne
    by_cases hi : i < R.length
    case neg => exact ih R i (by omega) hR h hal hti hne
    have hs : ∀ r ∈ R, ruleSet r := fun r hr => (h r hr).1
    have hO : ∀ r ∈ R.eraseIdx i, okR c r := fun r hr => h r (List.mem_of_mem_eraseIdx hr)
    have hOs : ∀ r ∈ R.eraseIdx i, ruleSet r := fun r hr => (hO r hr).1
    have hel : (R.eraseIdx i).length = R.length - 1 := List.length_eraseIdx_of_lt hi
    cases hb : hasB (cloI (R.eraseIdx i) R[i].f0) R[i].f1 with
    | true =>
      have ha := alike_erase hs hi hb
      obtain ⟨res, k0, k1, k2⟩ := ih (R.eraseIdx i) i (by omega) (by omega) hO (hal.trans ha) (fun r hr => tight_alike ha hs hOs (hOs r hr) (hti r (List.mem_of_mem_eraseIdx hr))) (fun j hj hji hi2 => by
        have e : (R.eraseIdx i)[j] = R[j]'(by omega) := by rw [List.getElem_eraseIdx]; rw [dif_pos hji]
        rw [e] at hi2
        obtain ⟨q0, q1⟩ := hs _ (List.getElem_mem (show j < R.length by omega))
        refine hne j (by omega) hji (imp_sub (fun r hr => hOs r (List.mem_of_mem_eraseIdx hr)) (fun r hr => hs r (List.mem_of_mem_eraseIdx hr)) (fun r hr => ?_) q0 q1 hi2)
        obtain ⟨q, hq, hqj, rfl⟩ := List.mem_eraseIdx_iff_getElem.1 hr
        rw [List.getElem_eraseIdx]
        by_cases hqi : q < i
        · rw [dif_pos hqi]
          exact List.mem_eraseIdx_iff_getElem.2 ⟨q, by omega, hqj, rfl⟩
        · rw [dif_neg hqi]
          exact List.mem_eraseIdx_iff_getElem.2 ⟨q + 1, by omega, by omega, rfl⟩)
      exact ⟨res, k0, goS3 c hc R i hi hR h (Ev.pos hb k1), goI3 c R i hi hR h (Ev.pos hb k2)⟩
    | false =>
      obtain ⟨res, k0, k1, k2⟩ := ih R (i + 1) (by omega) hR h hal hti (fun j hj hji => by
        by_cases e : j = i
        · subst e
          unfold impB
          rw [hb]; simp
        · exact hne j hj (by omega))
      exact ⟨res, k0, goS3 c hc R i hi hR h (Ev.neg (by rw [hb]; simp) k1), goI3 c R i hi hR h (Ev.neg (by rw [hb]; simp) k2)⟩
/-! the middle stage, with what it brings about -/
theorem alike_set {R : List S53} (hr : ∀ r ∈ R, ruleSet r) {i : Nat} (hi : i < R.length) {a : Int} (ha : isSet a) (hsub : hasB R[i].f0 a = true) (h : impB R a R[i].f1) : alike R (R.set i ⟨a, R[i].f1⟩) := by
  obtain ⟨h0, h1⟩ := hr _ (List.getElem_mem hi)
  intro t ht
  constructor
  · intro hc r hx hf
    rcases List.mem_or_eq_of_mem_set hx with h2 | rfl
    · exact hc r h2 hf
    · exact (imp_iff hr ha h1).1 h t ht hc hf
  · intro hc r hx hf
    obtain ⟨j, hj, rfl⟩ := List.getElem_of_mem hx
    by_cases e : j = i
    · subst e
      exact hc ⟨a, R[j].f1⟩ (List.mem_set hi _) (has_trans ht h0 ha hf hsub)
    · exact hc R[j] (List.mem_iff_getElem.2 ⟨j, by simpa using hj, by rw [List.getElem_set_ne (fun q => e q.symm)]⟩) hf
theorem minus_sub {s k : Int} (hs : isSet s) (k0 : 0 ≤ k) (k5 : k ≤ 5) : hasB s (minusS s (bitS k)) = true := by
  obtain ⟨m1, m2⟩ := minus_list hs k0 k5
  refine (mem_has hs m1).2 fun x hx => ?_
  rw [m2] at hx
  exact (List.mem_filter.1 hx).1
theorem minus_minus {s a k : Int} (hs : isSet s) (ha : isSet a) (hsub : hasB s a = true) (k0 : 0 ≤ k) (k5 : k ≤ 5) : hasB (minusS s (bitS k)) (minusS a (bitS k)) = true := by
  obtain ⟨m1, m2⟩ := minus_list hs k0 k5
  obtain ⟨q1, q2⟩ := minus_list ha k0 k5
  refine (mem_has m1 q1).2 fun x hx => ?_
  rw [q2, List.mem_filter] at hx
  rw [m2, List.mem_filter]
  exact ⟨(mem_has hs ha).1 hsub x hx.1, hx.2⟩
/-- Of these columns none can go out of a rule's left side. -/
def tightAt (R : List S53) (r : S53) (L : List Int) : Prop := ∀ k ∈ L, k ∈ setL r.f0 → ¬ impB R (minusS r.f0 (bitS k)) r.f1
theorem stage2inf (c : Int) (hc1 : 1 ≤ c) (hc : c ≤ 6) (R0 : List S53) (n i : Nat) (L : List Int) (hL : ∀ x ∈ L, 0 ≤ x ∧ x ≤ 5) (hLl : L.length ≤ 6) (hi : i < n) (hn : n ≤ 60)
    (next : ∀ R : List S53, R.length = n → (∀ r ∈ R, okR c r) → alike R0 R → (∀ j, (hj : j < R.length) → j < i + 1 → tight R R[j]) → ∃ res : List S37 × Bool, outC c R0 res ∧ Ev (fun k => spec_CoverOf.l3 k c (R.map dep) (n : Int) ((i + 1 : Nat) : Int)) res ∧ Ev (fun k => impl_CoverOf.l2 k R (n : Int) ((i + 1 : Nat) : Int)) res) :
    ∀ R : List S53, (hR : R.length = n) → (∀ r ∈ R, okR c r) → alike R0 R → (∀ j, (hj : j < R.length) → j < i → tight R R[j]) → (∀ x ∈ setL (R[i]'(by omega)).f0, x ∈ L) →
      ∃ res : List S37 × Bool, outC c R0 res ∧ Ev (fun k => spec_CoverOf.l4 k c (R.map dep) (i : Int) (n : Int) (i : Int) L (L.length : Int) 0) res ∧ Ev (fun k => impl_CoverOf.l3 k R (i : Int) (n : Int) (i : Int) L (L.length : Int) 0) res := by
  have loop := loop_up (n := L.length) (P := fun j => ∀ R : List S53, (hR : R.length = n) → (∀ r ∈ R, okR c r) → alike R0 R → (∀ q, (hq : q < R.length) → q < i → tight R R[q]) → (∀ x ∈ setL (R[i]'(by omega)).f0, x ∈ L) → tightAt R (R[i]'(by omega)) (L.take j) →
      ∃ res : List S37 × Bool, outC c R0 res ∧ Ev (fun k => spec_CoverOf.l4 k c (R.map dep) (i : Int) (n : Int) (i : Int) L (L.length : Int) (j : Int)) res ∧ Ev (fun k => impl_CoverOf.l3 k R (i : Int) (n : Int) (i : Int) L (L.length : Int) (j : Int)) res) ?_ ?_
  · intro R hR h hal hti hin
    exact loop 0 (Nat.zero_le _) R hR h hal hti hin (fun k hk => by simp at hk)
  · intro R hR h hal hti hin hta
    rw [List.take_length] at hta
    obtain ⟨res, k0, k1, k2⟩ := next R hR h hal (fun j hj hji => by
      by_cases e : j = i
      · subst e
        exact fun k hk => hta k (hin k hk) hk
      · exact hti j hj (by omega))
    refine ⟨res, k0, Ev.succ ?_, Ev.succ ?_⟩
    · simp only [spec_CoverOf.l4]
      rw [wrap_add (a := (i : Int)) (by omega) (by omega)]
      exact Ev.neg (by omega) k1
    · simp only [impl_CoverOf.l3]
      rw [wrap_add (a := (i : Int)) (by omega) (by omega)]
      exact Ev.neg (by omega) k2
  · intro j hj ih R hR h hal hti hin hta
    have hs : ∀ r ∈ R, ruleSet r := fun r hr => (h r hr).1
    have hiR : i < R.length := by omega
    obtain ⟨kl, kh⟩ := hL L[j] (List.getElem_mem hj)
    have hRi := h _ (List.getElem_mem hiR)
    obtain ⟨h0, h1⟩ := hRi.1
    obtain ⟨m1, m2⟩ := minus_list h0 kl kh
    have hsub := minus_sub h0 kl kh
    cases hb : hasB (cloI R (minusS R[i].f0 (bitS L[j]))) R[i].f1 with
    | true =>
      have ha := alike_set hs hiR m1 hsub hb
      have hok2 := okR_set (i := i) h (okR_cut hRi hc kl kh)
      have hs2 : ∀ r ∈ R.set i ⟨minusS R[i].f0 (bitS L[j]), R[i].f1⟩, ruleSet r := fun r hr => (hok2 r hr).1
      have hgi : (R.set i ⟨minusS R[i].f0 (bitS L[j]), R[i].f1⟩)[i]'(by simpa using hiR) = ⟨minusS R[i].f0 (bitS L[j]), R[i].f1⟩ := List.getElem_set_self _
      obtain ⟨res, k0, k1, k2⟩ := ih (R.set i ⟨minusS R[i].f0 (bitS L[j]), R[i].f1⟩) (by simpa using hR) hok2 (hal.trans ha) (fun q hq hqi => by
          have e : (R.set i ⟨minusS R[i].f0 (bitS L[j]), R[i].f1⟩)[q] = R[q]'(by simpa using hq) := List.getElem_set_ne (by omega) _
          rw [e]
          exact tight_alike ha hs hs2 (hs _ (List.getElem_mem _)) (hti q (by simpa using hq) hqi)) (by
          rw [hgi]
          intro x hx
          replace hx : x ∈ setL (minusS R[i].f0 (bitS L[j])) := hx
          rw [m2] at hx
          exact hin x (List.mem_filter.1 hx).1) (by
          rw [hgi]
          intro k hk hkf hi2
          replace hkf : k ∈ setL (minusS R[i].f0 (bitS L[j])) := hkf
          obtain ⟨q0, q5⟩ := setL_mem hkf
          have hkf2 := hkf
          rw [m2, List.mem_filter] at hkf2
          rw [List.take_succ_eq_append_getElem hj, List.mem_append, List.mem_singleton] at hk
          rcases hk with hk | rfl
          · have hi3 := alike.imp (fun t ht => (ha t ht).symm) hs2 hs (minus_list m1 q0 q5).1 h1 hi2
            exact hta k hk hkf2.1 (imp_more hs (minus_list m1 q0 q5).1 (minus_list h0 q0 q5).1 h1 (minus_minus h0 m1 hsub q0 q5) hi3)
          · simp at hkf2)
      exact ⟨res, k0, goS2 c hc n i L hLl hi hn j hj kl kh R hR h (Ev.pos hb k1), goI2 c hc n i L hLl hi hn j hj kl kh R hR h (Ev.pos hb k2)⟩
    | false =>
      obtain ⟨res, k0, k1, k2⟩ := ih R hR h hal hti hin (fun k hk hkf => by
        rw [List.take_succ_eq_append_getElem hj, List.mem_append, List.mem_singleton] at hk
        rcases hk with hk | rfl
        · exact hta k hk hkf
        · unfold impB
          rw [hb]; simp)
      exact ⟨res, k0, goS2 c hc n i L hLl hi hn j hj kl kh R hR h (Ev.neg (by rw [hb]; simp) k1), goI2 c hc n i L hLl hi hn j hj kl kh R hR h (Ev.neg (by rw [hb]; simp) k2)⟩
theorem stage2f (c : Int) (hc1 : 1 ≤ c) (hc : c ≤ 6) (R0 : List S53) (n : Nat) (hn : n ≤ 60) : ∀ R : List S53, R.length = n → (∀ r ∈ R, okR c r) → alike R0 R →
    ∃ res : List S37 × Bool, outC c R0 res ∧ Ev (fun k => spec_CoverOf.l3 k c (R.map dep) (n : Int) 0) res ∧ Ev (fun k => impl_CoverOf.l2 k R (n : Int) 0) res := by
  have loop := loop_up (n := n) (P := fun i => ∀ R : List S53, R.length = n → (∀ r ∈ R, okR c r) → alike R0 R → (∀ j, (hj : j < R.length) → j < i → tight R R[j]) → ∃ res : List S37 × Bool, outC c R0 res ∧ Ev (fun k => spec_CoverOf.l3 k c (R.map dep) (n : Int) (i : Int)) res ∧ Ev (fun k => impl_CoverOf.l2 k R (n : Int) (i : Int)) res) ?_ ?_
  · intro R hR h hal
    exact loop 0 (Nat.zero_le _) R hR h hal (fun j _ hj => absurd hj (Nat.not_lt_zero _))
  · intro R hR h hal hti
    obtain ⟨res, k0, k1, k2⟩ := stage3f c hc1 hc R0 R.length R 0 (by omega) (by omega) h hal (fun r hr => by
      obtain ⟨j, hj, rfl⟩ := List.getElem_of_mem hr
      exact hti j hj (by omega)) (fun j _ hj => absurd hj (Nat.not_lt_zero _))
    refine ⟨res, k0, Ev.succ ?_, Ev.succ ?_⟩
    · simp only [spec_CoverOf.l3]
      exact Ev.neg (by omega) k1
    · simp only [impl_CoverOf.l2]
      exact Ev.neg (by omega) k2
  · intro i hi ih R hR h hal hti
    have hiR : i < R.length := by omega
    obtain ⟨h0, h1⟩ := (h _ (List.getElem_mem hiR)).1
    have l6 := setL_len R[i].f0
    obtain ⟨res, k0, k1, k2⟩ := stage2inf c hc1 hc R0 n i (setL R[i].f0) (fun x hx => setL_mem hx) l6 hi hn ih R hR h hal hti (fun x hx => hx)
    refine ⟨res, k0, Ev.succ ?_, Ev.succ ?_⟩
    · simp only [spec_CoverOf.l3]
      rw [rdDep hiR]
      refine Ev.pos (by omega) (Ev.some_bind (Ev.pos (by omega) (Ev.pos (by simp; omega) (Ev.pos ?_ (Ev.some_bind ?_)))))
      · show ([] : List Int).length + (setL R[i].f0).length < _
        simp; omega
      · exact k1
    · simp only [impl_CoverOf.l2]
      rw [rdR hiR]
      exact Ev.pos (by omega) (Ev.pos (by omega) (Ev.pos (by omega) (Ev.bind (setL_ev _ h0.1 h0.2) k2)))
/-! the first stage, with what it brings about -/
theorem has_bit {t k : Int} (ht : isSet t) (k0 : 0 ≤ k) (k5 : k ≤ 5) : hasB t (bitS k) = true ↔ k ∈ setL t := by
  obtain ⟨b1, b2⟩ := bitS_ok k0 k5
  rw [mem_has ht b1, b2]
  simp
def upto (l : List S37) (i : Nat) (t : Int) : Prop := ∀ q, (hq : q < l.length) → q < i → hasB t (setI l[q].f0) = true → ∀ x ∈ l[q].f1, x ∈ setL t
theorem upto_all {l : List S37} {c : Int} (hok : ∀ d ∈ l, depOk c d) (hc : c ≤ 6) {t : Int} (ht : isSet t) : upto l l.length t ↔ shut (rulesI l) t := by
  constructor
  · intro h r hr hf
    obtain ⟨d, hd, rfl⟩ := List.mem_map.1 hr
    obtain ⟨q, hq, rfl⟩ := List.getElem_of_mem hd
    obtain ⟨s1, s2⟩ := setI_ok (hok _ hd).2 hc
    refine (mem_has ht s1).2 fun x hx => ?_
    replace hx : x ∈ setL (setI l[q].f1) := hx
    rw [s2] at hx
    exact h q hq hq hf x hx
  · intro h q hq _ hf x hx
    have hd := List.getElem_mem hq
    obtain ⟨s1, s2⟩ := setI_ok (hok _ hd).2 hc
    have h1 := h (ruleI l[q]) (List.mem_map_of_mem hd) hf
    refine (mem_has ht s1).1 h1 x ?_
    rw [s2]; exact hx
theorem has1_iff {R : List S53} {a b : Int} : has1 R a b = true ↔ ∃ r ∈ R, r.f0 = a ∧ r.f1 = b := by
  unfold has1
  rw [List.any_eq_true]
  constructor
  · rintro ⟨r, hr, h⟩
    rw [Bool.and_eq_true, beq_iff_eq, beq_iff_eq] at h
    exact ⟨r, hr, h.1.symm, h.2.symm⟩
  · rintro ⟨r, hr, h1, h2⟩
    exact ⟨r, hr, by rw [Bool.and_eq_true, beq_iff_eq, beq_iff_eq]; exact ⟨h1.symm, h2.symm⟩⟩
theorem shut_snoc {R : List S53} {r : S53} {t : Int} : shut (R ++ [r]) t ↔ shut R t ∧ (hasB t r.f0 = true → hasB t r.f1 = true) := by
  constructor
  · intro g
    exact ⟨fun x hx => g x (List.mem_append_left _ hx), g r (List.mem_append_right _ (List.mem_singleton.2 rfl))⟩
  · rintro ⟨g1, g2⟩ x hx
    rcases List.mem_append.1 hx with hx | hx
    · exact g1 x hx
    · rw [List.mem_singleton.1 hx]; exact g2
def uptoIn (l : List S37) (i : Nat) (f0 f1 : List Int) (j : Nat) (t : Int) : Prop := upto l i t ∧ (hasB t (setI f0) = true → ∀ x ∈ f1.take j, x ∈ setL t)
theorem stage1inf (c : Int) (hc : c ≤ 6) (R0 : List S53) (l : List S37) (hl : l.length ≤ 10) (hok : ∀ d ∈ l, depOk c d) (i : Nat) (hi : i < l.length)
    (next : ∀ R : List S53, R.length ≤ 6 * (i + 1) → (∀ r ∈ R, okR c r) → (∀ t, isSet t → (shut R t ↔ upto l (i + 1) t)) → ∃ res : List S37 × Bool, outC c R0 res ∧ Ev (fun k => spec_CoverOf.l0 k c (R.map dep) l (l.length : Int) ((i + 1 : Nat) : Int)) res ∧ Ev (fun k => impl_CoverOf.l0 k R (rulesI l) ((rulesI l).length : Int) ((i + 1 : Nat) : Int)) res) :
    ∀ R : List S53, R.length ≤ 6 * i → (∀ r ∈ R, okR c r) → (∀ t, isSet t → (shut R t ↔ upto l i t)) → ∃ res : List S37 × Bool, outC c R0 res ∧ Ev (fun k => spec_CoverOf.l1 k c (R.map dep) l (l.length : Int) (i : Int) l[i].f1 (l[i].f1.length : Int) 0 l[i].f0 l[i].f1) res ∧ Ev (fun k => impl_CoverOf.l1 k R (rulesI l) ((rulesI l).length : Int) (i : Int) l[i].f1 (l[i].f1.length : Int) 0 (setI l[i].f0) (setI l[i].f1)) res := by
  have hd := hok _ (List.getElem_mem hi)
  have t6 := ris_len hd.2 hc
  obtain ⟨s1, s2⟩ := setI_ok hd.1 hc
  have f6 := ris_len hd.1 hc
  have loop := loop_up (n := l[i].f1.length) (P := fun j => ∀ R : List S53, R.length ≤ 6 * i + j → (∀ r ∈ R, okR c r) → (∀ t, isSet t → (shut R t ↔ uptoIn l i l[i].f0 l[i].f1 j t)) → ∃ res : List S37 × Bool, outC c R0 res ∧ Ev (fun k => spec_CoverOf.l1 k c (R.map dep) l (l.length : Int) (i : Int) l[i].f1 (l[i].f1.length : Int) (j : Int) l[i].f0 l[i].f1) res ∧ Ev (fun k => impl_CoverOf.l1 k R (rulesI l) ((rulesI l).length : Int) (i : Int) l[i].f1 (l[i].f1.length : Int) (j : Int) (setI l[i].f0) (setI l[i].f1)) res) ?_ ?_
  · intro R hR h hal
    exact loop 0 (Nat.zero_le _) R (by omega) h (fun t ht => (hal t ht).trans ⟨fun g => ⟨g, fun _ x hx => by simp at hx⟩, fun g => g.1⟩)
  · intro R hR h hal
    obtain ⟨res, k0, k1, k2⟩ := next R (by omega) h (fun t ht => (hal t ht).trans (by
      unfold uptoIn
      rw [List.take_length]
      constructor
      · rintro ⟨g1, g2⟩ q hq hqi
        by_cases e : q = i
        · subst e; exact g2
        · exact g1 q hq (by omega)
      · intro g
        exact ⟨fun q hq hqi => g q hq (by omega), g i hi (by omega)⟩))
    refine ⟨res, k0, Ev.succ ?_, Ev.succ ?_⟩
    · simp only [spec_CoverOf.l1]
      rw [wrap_add (a := (i : Int)) (by omega) (by omega)]
      exact Ev.neg (by omega) k1
    · simp only [impl_CoverOf.l1]
      rw [wrap_add (a := (i : Int)) (by omega) (by omega)]
      exact Ev.neg (by omega) k2
  · intro j hj ih R hR h hal
    obtain ⟨y0, yc⟩ := ris_mem hd.2 _ (List.getElem_mem hj)
    obtain ⟨b1, b2⟩ := bitS_ok y0 (by omega : l[i].f1[j] ≤ 5)
    have hnew : okR c ⟨setI l[i].f0, bitS l[i].f1[j]⟩ := by
      refine ⟨⟨s1, b1⟩, ⟨?_, ?_⟩, _, b2⟩
      · show ris (setL (setI l[i].f0)) c
        rw [s2]; exact hd.1
      · show ris (setL (bitS l[i].f1[j])) c
        rw [b2]
        intro q hq
        have : q = 0 := by simpa using hq
        subst this
        exact ⟨y0, yc, fun h => absurd h (Nat.lt_irrefl _)⟩
    have hdn : dep ⟨setI l[i].f0, bitS l[i].f1[j]⟩ = ⟨l[i].f0, [l[i].f1[j]]⟩ := by
      unfold dep
      rw [s2, b2]
    have more : ∀ t, isSet t → (uptoIn l i l[i].f0 l[i].f1 (j + 1) t ↔ uptoIn l i l[i].f0 l[i].f1 j t ∧ (hasB t (setI l[i].f0) = true → hasB t (bitS l[i].f1[j]) = true)) := by
      intro t ht
      unfold uptoIn
      rw [List.take_succ_eq_append_getElem hj, has_bit ht y0 (by omega)]
      constructor
      · rintro ⟨g1, g2⟩
        exact ⟨⟨g1, fun hf x hx => g2 hf x (List.mem_append_left _ hx)⟩, fun hf => g2 hf _ (List.mem_append_right _ (List.mem_singleton.2 rfl))⟩
      · rintro ⟨⟨g1, g2⟩, g3⟩
        refine ⟨g1, fun hf x hx => ?_⟩
        rcases List.mem_append.1 hx with hx | hx
        · exact g2 hf x hx
        · rw [List.mem_singleton.1 hx]; exact g3 hf
    have goS : ∀ {res : List S37 × Bool}, Ev (fun k => if has1 R (setI l[i].f0) (bitS l[i].f1[j]) = true then spec_CoverOf.l1 k c (R.map dep) l (l.length : Int) (i : Int) l[i].f1 (l[i].f1.length : Int) ((j + 1 : Nat) : Int) l[i].f0 l[i].f1 else spec_CoverOf.l1 k c ((R ++ [(⟨setI l[i].f0, bitS l[i].f1[j]⟩ : S53)]).map dep) l (l.length : Int) (i : Int) l[i].f1 (l[i].f1.length : Int) ((j + 1 : Nat) : Int) l[i].f0 l[i].f1) res → Ev (fun k => spec_CoverOf.l1 k c (R.map dep) l (l.length : Int) (i : Int) l[i].f1 (l[i].f1.length : Int) (j : Int) l[i].f0 l[i].f1) res := by
      intro res hr
      refine Ev.succ ?_
      simp only [spec_CoverOf.l1]
      rw [rd_nat hj]
      refine Ev.pos (by omega) (Ev.pos (by omega) (Ev.pos (by omega) ?_))
      have := have_ev c l[i].f1[j] (setI l[i].f0) R (by omega) h s1 y0 (by omega) l (l.length : Int) (i : Int) l[i].f1 l[i].f1 (l[i].f1.length : Int) (j : Int) (res := res)
      rw [s2] at this
      refine this (Ev.succ ?_)
      simp only [spec_CoverOf.l2]
      rw [wrap_add (a := (j : Int)) (by omega) (by omega)]
      refine Ev.neg (by omega) ?_
      cases hb : has1 R (setI l[i].f0) (bitS l[i].f1[j]) with
      | true =>
        rw [hb] at hr
        exact Ev.pos rfl (Ev.congr (fun _ => (if_pos rfl).symm) hr)
      | false =>
        rw [hb] at hr
        refine Ev.neg (by simp) (Ev.some_bind (Ev.pos (by simp; omega) (Ev.pos (by simp; omega) ?_)))
        rw [List.map_append, List.map_cons, List.map_nil, hdn] at hr
        exact Ev.congr (fun _ => (if_neg (by simp)).symm) hr
    have goI : ∀ {res : List S37 × Bool}, Ev (fun k => if has1 R (setI l[i].f0) (bitS l[i].f1[j]) = true then impl_CoverOf.l1 k R (rulesI l) ((rulesI l).length : Int) (i : Int) l[i].f1 (l[i].f1.length : Int) ((j + 1 : Nat) : Int) (setI l[i].f0) (setI l[i].f1) else impl_CoverOf.l1 k (R ++ [(⟨setI l[i].f0, bitS l[i].f1[j]⟩ : S53)]) (rulesI l) ((rulesI l).length : Int) (i : Int) l[i].f1 (l[i].f1.length : Int) ((j + 1 : Nat) : Int) (setI l[i].f0) (setI l[i].f1)) res → Ev (fun k => impl_CoverOf.l1 k R (rulesI l) ((rulesI l).length : Int) (i : Int) l[i].f1 (l[i].f1.length : Int) (j : Int) (setI l[i].f0) (setI l[i].f1)) res := by
      intro res hr
      refine Ev.succ ?_
      simp only [impl_CoverOf.l1]
      rw [rd_nat hj, wrap_add (a := (j : Int)) (by omega) (by omega)]
      refine Ev.pos (by omega) (Ev.pos (by omega) (Ev.pos (by omega) (Ev.pos y0 (Ev.bind (contains_ev R (by omega) (setI l[i].f0) (bitS l[i].f1[j])) ?_))))
      cases hb : has1 R (setI l[i].f0) (bitS l[i].f1[j]) with
      | true =>
        rw [hb] at hr
        exact Ev.pos rfl (Ev.congr (fun _ => (if_pos rfl).symm) hr)
      | false =>
        rw [hb] at hr
        exact Ev.neg (by simp) (Ev.pos (by omega) (Ev.congr (fun _ => (if_neg (by simp)).symm) hr))
    cases hb : has1 R (setI l[i].f0) (bitS l[i].f1[j]) with
    | true =>
      obtain ⟨r, hr, e0, e1⟩ := has1_iff.1 hb
      obtain ⟨res, k0, k1, k2⟩ := ih R (by omega) h (fun t ht => by
        rw [more t ht, ← hal t ht]
        exact ⟨fun g => ⟨g, fun hf => by have := g r hr (by rw [e0]; exact hf); rwa [e1] at this⟩, fun g => g.1⟩)
      exact ⟨res, k0, goS (Ev.pos hb k1), goI (Ev.pos hb k2)⟩
    | false =>
      obtain ⟨res, k0, k1, k2⟩ := ih (R ++ [(⟨setI l[i].f0, bitS l[i].f1[j]⟩ : S53)]) (by simp; omega) (fun x hx => by
        rcases List.mem_append.1 hx with h2 | h2
        · exact h x h2
        · rw [List.mem_singleton.1 h2]; exact hnew) (fun t ht => by
        rw [more t ht, ← hal t ht]
        exact shut_snoc)
      exact ⟨res, k0, goS (Ev.neg (by rw [hb]; simp) k1), goI (Ev.neg (by rw [hb]; simp) k2)⟩
theorem stage1f (c : Int) (hc1 : 1 ≤ c) (hc : c ≤ 6) (l : List S37) (hl : l.length ≤ 10) (hok : ∀ d ∈ l, depOk c d) :
    ∃ res : List S37 × Bool, outC c (rulesI l) res ∧ Ev (fun k => spec_CoverOf.l0 k c ([] : List S37) l (l.length : Int) 0) res ∧ Ev (fun k => impl_CoverOf.l0 k ([] : List S53) (rulesI l) ((rulesI l).length : Int) 0) res := by
  have hrl : (rulesI l).length = l.length := by simp [rulesI]
  have loop := loop_up (n := l.length) (P := fun i => ∀ R : List S53, R.length ≤ 6 * i → (∀ r ∈ R, okR c r) → (∀ t, isSet t → (shut R t ↔ upto l i t)) → ∃ res : List S37 × Bool, outC c (rulesI l) res ∧ Ev (fun k => spec_CoverOf.l0 k c (R.map dep) l (l.length : Int) (i : Int)) res ∧ Ev (fun k => impl_CoverOf.l0 k R (rulesI l) ((rulesI l).length : Int) (i : Int)) res) ?_ ?_
  · exact loop 0 (Nat.zero_le _) [] (by simp) (fun r hr => by cases hr) (fun t ht => ⟨fun _ q _ hq => absurd hq (Nat.not_lt_zero _), fun _ r hr => by cases hr⟩)
  · intro R hR h hal
    obtain ⟨res, k0, k1, k2⟩ := stage2f c hc1 hc (rulesI l) R.length (by omega) R rfl h (fun t ht => ((hal t ht).trans (upto_all hok hc ht)).symm)
    refine ⟨res, k0, Ev.succ ?_, Ev.succ ?_⟩
    · simp only [spec_CoverOf.l0]
      refine Ev.neg (by omega) ?_
      rw [List.length_map]
      exact k1
    · simp only [impl_CoverOf.l0]
      exact Ev.neg (by omega) k2
  · intro i hi ih R hR h hal
    have hd := hok _ (List.getElem_mem hi)
    have hi2 : i < (rulesI l).length := by omega
    have er : (rulesI l)[i] = ⟨setI l[i].f0, setI l[i].f1⟩ := by simp [rulesI, ruleI]
    obtain ⟨s1, s2⟩ := setI_ok hd.2 hc
    obtain ⟨res, k0, k1, k2⟩ := stage1inf c hc (rulesI l) l hl hok i hi ih R hR h hal
    refine ⟨res, k0, Ev.succ ?_, Ev.succ ?_⟩
    · simp only [spec_CoverOf.l0]
      rw [rdD hi]
      exact Ev.pos (by omega) (Ev.pos (by omega) (Ev.pos (by omega) k1))
    · simp only [impl_CoverOf.l0]
      rw [rdR hi2, er]
      refine Ev.pos (by omega) (Ev.pos (by omega) (Ev.pos (by omega) (Ev.bind (setL_ev _ s1.1 s1.2) ?_)))
      rw [s2]
      exact k2
theorem bothF (l : List S37) (c : Int) (hl : shortD l) : ∃ r : List S37 × Bool, (r.2 = true → depsOk l c ∧ ∃ R, r.1 = R.map dep ∧ coverOf c (rulesI l) R) ∧ r.1.length ≤ 60 ∧ (r.2 = false → r.1 = []) ∧ Ev (fun k => spec_CoverOf.f k l c) r ∧ Ev (fun k => impl_CoverOf.f k l c) r := by
  unfold spec_CoverOf.f impl_CoverOf.f
  by_cases g : depsOk l c
  case neg =>
    exact ⟨([], false), fun h => (by cases h), by simp, fun _ => rfl, Ev.bind (specGood_ev l c hl) (Ev.neg (by rw [tell_no g]; simp) (Ev.const rfl)), Ev.bind (implGood_ev l c hl) (Ev.neg (by rw [tell_no g]; simp) (Ev.const rfl))⟩
  have g' := g
  obtain ⟨g1, g2, g3, g4⟩ := g
  obtain ⟨res, k0, k1, k2⟩ := stage1f c g2 g3 l g4 g1
  exact ⟨res, fun h => ⟨g', k0.1 h⟩, k0.2.1, k0.2.2, Ev.bind (specGood_ev l c hl) (Ev.pos (tell_yes g') k1), Ev.bind (implGood_ev l c hl) (Ev.pos (tell_yes g') (Ev.bind (rulesOf_ev l c (by omega) g1 g3) k2))⟩
/-! ### what is drawn: a byte after the other, then numbers out of a seed -/
theorem and255 (x : Int) : 0 ≤ Go.bits .and .u64 x 255 ∧ Go.bits .and .u64 x 255 ≤ 255 := by
  have h : ((BitVec.ofInt 64 x) &&& (BitVec.ofInt 64 255)).toNat ≤ 255 := by
    rw [BitVec.toNat_and]
    exact Nat.le_trans Nat.and_le_right (by decide)
  have uw : ∀ m : Int, IntKind.u64.wrap m = m % 18446744073709551616 := fun m => by simp [IntKind.wrap, IntKind.bits, IntKind.signed]
  have e : Go.bits .and .u64 x 255 = IntKind.u64.wrap ((((BitVec.ofInt 64 x) &&& (BitVec.ofInt 64 255)).toNat : Nat) : Int) := rfl
  rw [e, uw]
  generalize ((BitVec.ofInt 64 x) &&& (BitVec.ofInt 64 255)).toNat = m at h
  omega
def bytesOk (code : List Int) : Prop := code.length ≤ 1073741824 ∧ ∀ x ∈ code, 0 ≤ x ∧ x ≤ 255
theorem next_some {code : List Int} (hb : bytesOk code) (p s : Int) (h0 : 0 ≤ p) (h1 : p ≤ 1073741824) : ∃ v s', spec_l1Cur_next.f code p s = some (v, p + 1, s') ∧ 0 ≤ v ∧ v ≤ 255 := by
  have hw : wrap64 (p + 1) = p + 1 := wrap_add (by omega) (by omega)
  unfold spec_l1Cur_next.f
  rw [hw]
  by_cases c1 : p < (code.length : Int)
  · obtain ⟨i, rfl⟩ : ∃ i : Nat, p = (i : Int) := ⟨p.toNat, by omega⟩
    have hi : i < code.length := by omega
    have hr := hb.2 _ (List.getElem_mem hi)
    rw [if_pos c1, if_pos h0, if_pos (by omega), rd_nat hi, wrap_id (by omega) (by omega)]
    exact ⟨_, _, rfl, hr.1, hr.2⟩
  · rw [if_neg c1, if_neg (by omega)]
    obtain ⟨a, b⟩ := and255 ((IntKind.u64.wrap ((IntKind.u64.wrap ((IntKind.u64.wrap (s * 6364136223846793005)) + 0)) + 1442695040888963407)) / 1099511627776)
    rw [wrap_id (a := Go.bits .and .u64 _ 255) (by omega) (by omega)]
    exact ⟨_, _, rfl, a, b⟩
theorem pick_some {code : List Int} (hb : bytesOk code) (p s n : Int) (h0 : 0 ≤ p) (h1 : p ≤ 1073741824) (hn : n ≤ 200) : ∃ v p' s', spec_l1Cur_pick.f code p s n = some (v, p', s') ∧ 0 ≤ v ∧ (1 ≤ n → v < n) ∧ p ≤ p' ∧ p' ≤ p + 1 := by
  unfold spec_l1Cur_pick.f
  by_cases c : n ≤ 1
  · rw [if_pos c]
    exact ⟨0, p, s, rfl, Int.le_refl _, fun h => by omega, by omega, by omega⟩
  · obtain ⟨v, s', e, v0, v1⟩ := next_some hb p s h0 h1
    rw [if_neg c, e]
    simp only [Option.bind_some]
    rw [if_neg (by omega), if_neg (by omega)]
    exact ⟨_, _, _, rfl, Int.tmod_nonneg _ v0, fun _ => Int.tmod_lt_of_pos _ (by omega), by omega, by omega⟩
theorem one_some {code : List Int} (hb : bytesOk code) (p s n : Int) (h0 : 0 ≤ p) (h1 : p ≤ 1073741824) (hn : n ≤ 200) : ∃ b p' s', spec_l1Cur_one.f code p s n = some (b, p', s') ∧ p ≤ p' ∧ p' ≤ p + 1 := by
  obtain ⟨v, p', s', e, _, _, a, b⟩ := pick_some hb p s n h0 h1 hn
  unfold spec_l1Cur_one.f
  rw [e]
  exact ⟨_, _, _, rfl, a, b⟩
theorem scheme_some {code : List Int} (hb : bytesOk code) (p s : Int) (h0 : 0 ≤ p) (h1 : p ≤ 1000000) : ∃ c p' s', spec_l1Cur_scheme.f code p s = some (c, p', s') ∧ 0 ≤ c ∧ c ≤ 7 ∧ 0 ≤ p' ∧ p' ≤ p + 2 := by
  obtain ⟨b, p1, s1, e1, a1, a2⟩ := one_some hb p s 20 h0 (by omega) (by omega)
  unfold spec_l1Cur_scheme.f
  rw [e1]
  simp only [Option.bind_some]
  cases b with
  | true =>
    rw [if_pos rfl]
    obtain ⟨v, p2, s2, e2, v0, v1, a3, a4⟩ := pick_some hb p1 s1 3 (by omega) (by omega) (by omega)
    have hv := v1 (by omega)
    have hc : 0 ≤ rd ([0, 6, 7] : List Int) v ∧ rd ([0, 6, 7] : List Int) v ≤ 7 := by
      rcases (show v = 0 ∨ v = 1 ∨ v = 2 by omega) with rfl | rfl | rfl <;> decide
    refine ⟨rd ([0, 6, 7] : List Int) v, p2, s2, ?_, hc.1, hc.2, by omega, by omega⟩
    unfold spec_l1Cur_among.f
    rw [show ((([0, 6, 7] : List Int).length : Nat) : Int) = 3 from rfl, e2]
    simp only [Option.bind_some]
    rw [if_pos v0, if_pos hv]
    rfl
  | false =>
    rw [if_neg (by simp)]
    obtain ⟨v, p2, s2, e2, v0, v1, a3, a4⟩ := pick_some hb p1 s1 4 (by omega) (by omega) (by omega)
    have hv := v1 (by omega)
    rw [e2]
    simp only [Option.bind_some]
    exact ⟨wrap64 (2 + v), p2, s2, rfl, by rw [wrap_add (by omega) (by omega)]; omega, by rw [wrap_add (by omega) (by omega)]; omega, by omega, by omega⟩
theorem subset_ev {code : List Int} (hb : bytesOk code) (c odds : Int) (hc0 : 0 ≤ c) (hc : c ≤ 7) (ho : odds ≤ 200) (p s : Int) (h0 : 0 ≤ p) (h1 : p ≤ 1000000) :
    EvX (fun k => spec_l1Cur_subset.f k code p s c odds) (fun r => r.1.length ≤ 7 ∧ 0 ≤ r.2.1 ∧ r.2.1 ≤ p + 7) := by
  have loop : ∀ (m : Nat) (x : Int) (l : List Int) (p s : Int), 0 ≤ x → x ≤ c → c - x ≤ m → (l.length : Int) ≤ x → 0 ≤ p → p + (c - x) ≤ 1000100 → EvX (fun k => spec_l1Cur_subset.l0 k c odds l x code p s) (fun r => r.1.length ≤ 7 ∧ 0 ≤ r.2.1 ∧ r.2.1 ≤ p + (c - x)) := by
    intro m
    induction m with
    | zero =>
      intro x l p s x0 x1 hm hl p0 p1
      refine EvX.succ ?_
      simp only [spec_l1Cur_subset.l0]
      exact EvX.neg (by omega) (EvX.const rfl ⟨by show l.length ≤ 7; omega, p0, by show p ≤ _; omega⟩)
    | succ m ih =>
      intro x l p s x0 x1 hm hl p0 p1
      refine EvX.succ ?_
      simp only [spec_l1Cur_subset.l0]
      by_cases e : x < c
      · obtain ⟨v, p2, s2, e2, _, _, a3, a4⟩ := pick_some hb p s odds p0 (by omega) ho
        rw [wrap_add (by omega) (by omega)]
        refine EvX.pos e (Ev.bindX (Ev.const e2) ?_)
        by_cases z : v = 0
        · refine EvX.pos z (EvX.pos (by omega) ?_)
          obtain ⟨r, hr, q1, q2, q3⟩ := ih (x + 1) (l ++ [x]) p2 s2 (by omega) (by omega) (by omega) (by simp; omega) (by omega) (by omega)
          exact ⟨r, hr, q1, q2, by omega⟩
        · refine EvX.neg z ?_
          obtain ⟨r, hr, q1, q2, q3⟩ := ih (x + 1) l p2 s2 (by omega) (by omega) (by omega) (by omega) (by omega) (by omega)
          exact ⟨r, hr, q1, q2, by omega⟩
      · exact EvX.neg e (EvX.const rfl ⟨by show l.length ≤ 7; omega, p0, by show p ≤ _; omega⟩)
  obtain ⟨r, hr, q1, q2, q3⟩ := loop 7 0 [] p s (by omega) (by omega) (by omega) (by simp) h0 (by omega)
  exact ⟨r, hr, q1, q2, by omega⟩
def smallD (l : List S37) : Prop := l.length ≤ 60 ∧ ∀ x ∈ l, x.f0.length ≤ 8 ∧ x.f1.length ≤ 8
theorem smallD.short {l : List S37} (h : smallD l) : shortD l := ⟨by have := h.1; omega, fun x hx => by have := h.2 x hx; omega⟩
theorem depends_ev {code : List Int} (hb : bytesOk code) (c : Int) (hc0 : 0 ≤ c) (hc : c ≤ 7) (p s : Int) (h0 : 0 ≤ p) (h1 : p ≤ 1200) :
    EvX (fun k => spec_l1Cur_depends.f k code p s c) (fun r => smallD r.1 ∧ 0 ≤ r.2.1 ∧ r.2.1 ≤ p + 1000) := by
  have loop : ∀ (m : Nat) (n : Int) (l : List S37) (p s : Int), n ≤ m → (l.length : Int) + m ≤ 11 → (∀ x ∈ l, x.f0.length ≤ 7 ∧ x.f1.length ≤ 7) → 0 ≤ p → p + 14 * (m : Int) ≤ 2400 → EvX (fun k => spec_l1Cur_depends.l0 k c l n code p s) (fun r => smallD r.1 ∧ 0 ≤ r.2.1 ∧ r.2.1 ≤ p + 14 * m + 1) := by
    intro m
    induction m with
    | zero =>
      intro n l p s hn hl hx p0 p1
      have hs : smallD l := ⟨by omega, fun x hq => by have := hx x hq; omega⟩
      refine EvX.succ ?_
      simp only [spec_l1Cur_depends.l0]
      refine EvX.neg (by omega) ?_
      by_cases e : (l.length : Int) > 0
      · obtain ⟨b, p2, s2, e2, a3, a4⟩ := one_some hb p s 30 p0 (by omega) (by omega)
        refine EvX.pos e (Ev.bindX (Ev.const e2) ?_)
        cases b with
        | true =>
          have hl0 : 0 < l.length := by omega
          have hr0 : rd_T37 l 0 = l[0] := by have := rdD (l := l) hl0; simpa using this
          have hx0 := hx _ (List.getElem_mem hl0)
          rw [hr0]
          refine EvX.pos rfl (EvX.pos (by omega) (EvX.pos (by omega) (EvX.const rfl ⟨⟨by simp; omega, fun x hq => ?_⟩, by show (0 : Int) ≤ p2; omega, by show p2 ≤ _; omega⟩)))
          rcases List.mem_or_eq_of_mem_set hq with h2 | rfl
          · have := hx x h2; omega
          · exact ⟨by show (l[0]).f0.length ≤ 8; omega, by show (l[0].f1 ++ [c]).length ≤ 8; rw [List.length_append, List.length_singleton]; omega⟩
        | false =>
          exact EvX.neg (by simp) (EvX.const rfl ⟨hs, by show (0 : Int) ≤ p2; omega, by show p2 ≤ _; omega⟩)
      · exact EvX.neg e (EvX.const rfl ⟨hs, p0, by show p ≤ _; omega⟩)
    | succ m ih =>
      intro n l p s hn hl hx p0 p1
      by_cases e : n > 0
      · refine EvX.succ ?_
        simp only [spec_l1Cur_depends.l0]
        rw [show wrap64 (n - 1) = n - 1 from wrap_id (by omega) (by omega)]
        refine EvX.pos e (EvX.bind (subset_ev hb c 2 hc0 hc (by omega) p s p0 (by omega)) fun r1 hr1 => ?_)
        refine EvX.bind (subset_ev hb c 3 hc0 hc (by omega) r1.2.1 r1.2.2 hr1.2.1 (by omega)) fun r2 hr2 => EvX.pos (by omega) ?_
        obtain ⟨r, hr, q1, q2, q3⟩ := ih (n - 1) (l ++ [⟨r1.1, r2.1⟩]) r2.2.1 r2.2.2 (by omega) (by rw [List.length_append, List.length_singleton]; omega) (fun x hq => by
          rcases List.mem_append.1 hq with h2 | h2
          · exact hx x h2
          · rw [List.mem_singleton.1 h2]; exact ⟨hr1.1, hr2.1⟩) hr2.2.1 (by omega)
        exact ⟨r, hr, q1, q2, by omega⟩
      · obtain ⟨r, hr, q1, q2, q3⟩ := ih n l p s (by omega) (by omega) hx p0 (by omega)
        exact ⟨r, hr, q1, q2, by omega⟩
  have enter : ∀ (n : Int) (p2 s2 : Int), n ≤ 11 → 0 ≤ p2 → p2 ≤ p + 3 → EvX (fun k => spec_l1Cur_depends.j0 k c ([] : List S37) n code p2 s2) (fun r => smallD r.1 ∧ 0 ≤ r.2.1 ∧ r.2.1 ≤ p + 1000) := by
    intro n p2 s2 hn q0 q1
    refine EvX.succ ?_
    simp only [spec_l1Cur_depends.j0]
    obtain ⟨r, hr, z1, z2, z3⟩ := loop 11 n [] p2 s2 (by omega) (by simp) (fun x hq => by cases hq) q0 (by omega)
    exact ⟨r, hr, z1, z2, by omega⟩
  unfold spec_l1Cur_depends.f
  obtain ⟨v, p1, s1, e1, v0, v1, a1, a2⟩ := pick_some hb p s 5 h0 (by omega) (by omega)
  have hv := v1 (by omega)
  refine Ev.bindX (Ev.const e1) ?_
  obtain ⟨b, p2, s2, e2, a3, a4⟩ := one_some hb p1 s1 20 (by omega) (by omega) (by omega)
  refine Ev.bindX (Ev.const e2) ?_
  cases b with
  | true =>
    obtain ⟨u, p3, s3, e3, u0, u1, a5, a6⟩ := pick_some hb p2 s2 2 (by omega) (by omega) (by omega)
    have hu := u1 (by omega)
    refine EvX.pos rfl (Ev.bindX (Ev.const e3) ?_)
    exact enter (wrap64 (10 + u)) p3 s3 (by rw [wrap_add (by omega) (by omega)]; omega) (by omega) (by omega)
  | false =>
    exact EvX.neg (by simp) (enter v p2 s2 (by omega) (by omega) (by omega))
theorem drawGood_ev {code : List Int} (hb : bytesOk code) : EvX (fun k => spec_DrawCoverOf.f k code) (fun r => smallD r.1) := by
  unfold spec_DrawCoverOf.f spec_DrawGoodDepends.f
  obtain ⟨c, p1, s1, e1, c0, c7, a0, a1⟩ := scheme_some hb 0 0 (by omega) (by omega)
  refine EvX.bind (P := fun r => smallD r.1) ?_ fun r hr => EvX.const rfl hr
  refine Ev.bindX (Ev.const (show newCur.f code 0 0 = some (code, 0, 0) from rfl)) (Ev.bindX (Ev.const e1) (EvX.bind (depends_ev hb c c0 c7 p1 s1 a0 (by omega)) fun r hr => EvX.const rfl hr.1))
theorem drawSame_ev {code : List Int} (hb : bytesOk code) : EvX (fun k => spec_DrawSameDepends.f k code) (fun r => smallD r.1 ∧ smallD r.2.1) := by
  unfold spec_DrawSameDepends.f
  obtain ⟨c, p1, s1, e1, c0, c7, a0, a1⟩ := scheme_some hb 0 0 (by omega) (by omega)
  refine Ev.bindX (Ev.const (show newCur.f code 0 0 = some (code, 0, 0) from rfl)) (Ev.bindX (Ev.const e1) (EvX.bind (depends_ev hb c c0 c7 p1 s1 a0 (by omega)) fun r hr => ?_))
  obtain ⟨hr1, hr2, hr3⟩ := hr
  obtain ⟨q, q1, q2, _, q3, _⟩ := bothF r.1 c hr1.short
  refine Ev.bindX q3 ?_
  have again : ∀ p2 s2 : Int, 0 ≤ p2 → p2 ≤ 1100 → EvX (fun k => (spec_l1Cur_depends.f k code p2 s2 c).bind fun bt439 => some (r.1, bt439.1, c)) (fun r => smallD r.1 ∧ smallD r.2.1) := fun p2 s2 h0 h1 =>
    EvX.bind (depends_ev hb c c0 c7 p2 s2 h0 (by omega)) fun r2 hr2 => EvX.const rfl ⟨hr1, hr2.1⟩
  by_cases e : q.2 = true
  · refine EvX.pos e ?_
    obtain ⟨b, p2, s2, e2, a3, a4⟩ := one_some hb r.2.1 r.2.2 2 hr2 (by omega) (by omega)
    refine Ev.bindX (Ev.const e2) ?_
    cases b with
    | true =>
      refine EvX.pos rfl (EvX.const rfl ⟨hr1, ?_⟩)
      obtain ⟨_, R, eR, _⟩ := q1 e
      refine ⟨q2, fun x hx => ?_⟩
      rw [eR] at hx
      obtain ⟨z, _, rfl⟩ := List.mem_map.1 hx
      have l1 := setL_len z.f0
      have l2 := setL_len z.f1
      exact ⟨by show (setL z.f0).length ≤ 8; omega, by show (setL z.f1).length ≤ 8; omega⟩
    | false => exact EvX.neg (by simp) (again p2 s2 (by omega) (by omega))
  · exact EvX.neg e (again r.2.1 r.2.2 hr2 (by omega))
/-! ### the law's questions -/
theorem implSl_ev (l : List S37) (c : Int) (hl : l.length ≤ 1000) (h : ∀ d ∈ l, depOk c d) (hc : c ≤ 6) (a b : Int) (ha : isSet a) (hb : isSet b) : Ev (fun k => spec_l7Implies.f k l (setL a) (setL b)) (hasB (cloI (rulesI l) a) b) := by
  have hs := rulesI_ok h hc
  unfold spec_l7Implies.f
  have l1 := setL_len (cloI (rulesI l) a)
  have l2 := setL_len b
  exact Ev.bind (l7Closure_ev l c hl h hc a ha) (Ev.bind (l7All_ev _ _ (by omega) (by omega)) (Ev.const (by rw [hasB_iff (cloI_ok hs ha) hb])))
def sameB (A B : List S53) : Bool := A.all fun r => hasB (cloI B r.f0) r.f1
theorem all1_ev (A B : List S53) (hA : ∀ r ∈ A, ruleSet r) (hB : ∀ r ∈ B, ruleSet r) (hl : B.length ≤ 1000) : ∃ K, ∀ k, K ≤ k → ∀ r ∈ A, impl_implies.f k B r.f0 r.f1 = some (hasB (cloI B r.f0) r.f1) := by
  induction A with
  | nil => exact ⟨0, fun _ _ r hr => by cases hr⟩
  | cons a A ih =>
    obtain ⟨K1, h1⟩ := ih (fun r hr => hA r (List.mem_cons_of_mem _ hr))
    have ha := hA a List.mem_cons_self
    obtain ⟨K2, h2⟩ := implI_ev B hl hB a.f0 a.f1 ha.1 ha.2
    refine ⟨K1 + K2, fun k hk r hr => ?_⟩
    rcases List.mem_cons.1 hr with rfl | hr
    · exact h2 k (by omega)
    · exact h1 k (by omega) r hr
theorem areAll1_ev (A B : List S53) (hA : ∀ r ∈ A, ruleSet r) (hB : ∀ r ∈ B, ruleSet r) (hl : B.length ≤ 1000) : Ev (fun k => areAll_impl_SameDepends_1.f k A B) (sameB A B) := by
  obtain ⟨K, h⟩ := all1_ev A B hA hB hl
  refine ⟨K, fun k hk => ?_⟩
  have h2 : ∀ r ∈ A, impl_SameDepends_1.f k r.f0 r.f1 B = some (hasB (cloI B r.f0) r.f1) := fun r hr => by
    unfold impl_SameDepends_1.f
    rw [h k hk r hr]; rfl
  show areAll_impl_SameDepends_1.f k A B = _
  unfold areAll_impl_SameDepends_1.f sameB
  rw [if_pos (List.all_eq_true.2 fun r hr => by rw [h2 r hr]; rfl)]
  congr 1
  exact all_same fun r hr => by rw [h2 r hr]; rfl
theorem areAll2_ev (A B : List S53) (hA : ∀ r ∈ A, ruleSet r) (hB : ∀ r ∈ B, ruleSet r) (hl : B.length ≤ 1000) : Ev (fun k => areAll_impl_SameDepends_2.f k A B) (sameB A B) := by
  obtain ⟨K, h⟩ := all1_ev A B hA hB hl
  refine ⟨K, fun k hk => ?_⟩
  have h2 : ∀ r ∈ A, impl_SameDepends_2.f k r.f0 r.f1 B = some (hasB (cloI B r.f0) r.f1) := fun r hr => by
    unfold impl_SameDepends_2.f
    rw [h k hk r hr]; rfl
  show areAll_impl_SameDepends_2.f k A B = _
  unfold areAll_impl_SameDepends_2.f sameB
  rw [if_pos (List.all_eq_true.2 fun r hr => by rw [h2 r hr]; rfl)]
  congr 1
  exact all_same fun r hr => by rw [h2 r hr]; rfl
def sameOut (a b : List S37) : Bool × Bool := if sameB (rulesI a) (rulesI b) = true then (sameB (rulesI b) (rulesI a), true) else (false, true)
theorem same_both (a b : List S37) (c : Int) (ha : shortD a) (hb : shortD b) : ∃ r : Bool × Bool, Ev (fun k => spec_SameDepends.f k a b c) r ∧ Ev (fun k => impl_SameDepends.f k a b c) r ∧ (depsOk a c → depsOk b c → r = sameOut a b) := by
  unfold spec_SameDepends.f impl_SameDepends.f
  have badS : Ev (fun k => spec_SameDepends.j0 k a b true) (false, false) := Ev.succ (by simp only [spec_SameDepends.j0]; exact Ev.pos trivial (Ev.const rfl))
  have badI : Ev (fun k => impl_SameDepends.j0 k a b true) (false, false) := Ev.succ (by simp only [impl_SameDepends.j0]; exact Ev.pos trivial (Ev.const rfl))
  by_cases g : depsOk a c
  case neg =>
    exact ⟨(false, false), Ev.bind (specGood_ev a c ha) (Ev.neg (by rw [tell_no g]; simp) badS), Ev.bind (implGood_ev a c ha) (Ev.neg (by rw [tell_no g]; simp) badI), fun h => absurd h g⟩
  by_cases f : depsOk b c
  case neg =>
    refine ⟨(false, false), Ev.bind (specGood_ev a c ha) (Ev.pos (tell_yes g) (Ev.bind (specGood_ev b c hb) ?_)), Ev.bind (implGood_ev a c ha) (Ev.pos (tell_yes g) (Ev.bind (implGood_ev b c hb) ?_)), fun _ h => absurd h f⟩
    · rw [tell_no f]; exact badS
    · rw [tell_no f]; exact badI
  obtain ⟨g1, g2, g3, g4⟩ := g
  obtain ⟨f1, f2, f3, f4⟩ := f
  have hA := rulesI_ok g1 g3
  have hB := rulesI_ok f1 g3
  have la : (rulesI a).length ≤ 1000 := by simp [rulesI]; omega
  have lb : (rulesI b).length ≤ 1000 := by simp [rulesI]; omega
  -- one list after the other
  have one : ∀ (l m : List S37), (∀ d ∈ l, depOk c d) → (∀ d ∈ m, depOk c d) → m.length ≤ 1000 → ∀ i, (hi : i < l.length) → Ev (fun k => spec_l7Implies.f k m l[i].f0 l[i].f1) (hasB (cloI (rulesI m) (setI l[i].f0)) (setI l[i].f1)) := by
    intro l m hl hm hml i hi
    have hd := hl _ (List.getElem_mem hi)
    obtain ⟨x1, x2⟩ := setI_ok hd.1 g3
    obtain ⟨y1, y2⟩ := setI_ok hd.2 g3
    have := implSl_ev m c hml hm g3 (setI l[i].f0) (setI l[i].f1) x1 y1
    rwa [x2, y2] at this
  have step : ∀ (l m : List S37) (i : Nat), (hi : i < l.length) → sameB ((rulesI l).drop i) (rulesI m) = (hasB (cloI (rulesI m) (setI l[i].f0)) (setI l[i].f1) && sameB ((rulesI l).drop (i + 1)) (rulesI m)) := by
    intro l m i hi
    have hi2 : i < (rulesI l).length := by simpa [rulesI] using hi
    unfold sameB
    rw [List.drop_eq_getElem_cons hi2, List.all_cons]
    simp [rulesI, ruleI]
  have second : Ev (fun k => spec_SameDepends.l1 k a b (b.length : Int) 0) (sameB (rulesI b) (rulesI a), true) := by
    have loop := loop_up (n := b.length) (P := fun i => Ev (fun k => spec_SameDepends.l1 k a b (b.length : Int) (i : Int)) (sameB ((rulesI b).drop i) (rulesI a), true)) ?_ ?_
    · exact loop 0 (Nat.zero_le _)
    · refine Ev.succ ?_
      simp only [spec_SameDepends.l1]
      exact Ev.neg (by omega) (Ev.const (by rw [List.drop_of_length_le (by simp [rulesI])]; rfl))
    · intro i hi ih
      refine Ev.succ ?_
      simp only [spec_SameDepends.l1]
      rw [rdD hi, wrap_add (by omega) (by omega), step b a i hi]
      refine Ev.pos (by omega) (Ev.pos (by omega) (Ev.pos (by omega) (Ev.bind (one b a f1 g1 (by omega) i hi) ?_)))
      cases e : hasB (cloI (rulesI a) (setI b[i].f0)) (setI b[i].f1) with
      | true => exact Ev.pos rfl ih
      | false => exact Ev.neg (by simp) (Ev.const rfl)
  have first : Ev (fun k => spec_SameDepends.l0 k a b a (a.length : Int) 0) (sameOut a b) := by
    have loop := loop_up (n := a.length) (P := fun i => Ev (fun k => spec_SameDepends.l0 k a b a (a.length : Int) (i : Int)) (if sameB ((rulesI a).drop i) (rulesI b) = true then (sameB (rulesI b) (rulesI a), true) else (false, true))) ?_ ?_
    · exact loop 0 (Nat.zero_le _)
    · refine Ev.succ ?_
      simp only [spec_SameDepends.l0]
      rw [List.drop_of_length_le (by simp [rulesI])]
      exact Ev.neg (by omega) second
    · intro i hi ih
      refine Ev.succ ?_
      simp only [spec_SameDepends.l0]
      rw [rdD hi, wrap_add (by omega) (by omega), step a b i hi]
      refine Ev.pos (by omega) (Ev.pos (by omega) (Ev.pos (by omega) (Ev.bind (one a b g1 f1 (by omega) i hi) ?_)))
      cases e : hasB (cloI (rulesI b) (setI a[i].f0)) (setI a[i].f1) with
      | true => exact Ev.pos rfl ih
      | false => exact Ev.neg (by simp) (Ev.const rfl)
  refine ⟨sameOut a b, Ev.bind (specGood_ev a c ha) (Ev.pos (tell_yes ⟨g1, g2, g3, g4⟩) (Ev.bind (specGood_ev b c hb) ?_)), Ev.bind (implGood_ev a c ha) (Ev.pos (tell_yes ⟨g1, g2, g3, g4⟩) (Ev.bind (implGood_ev b c hb) ?_)), fun _ _ => rfl⟩
  · rw [show tell (depsOk b c) = true from tell_yes ⟨f1, f2, f3, f4⟩]
    refine Ev.succ ?_
    simp only [spec_SameDepends.j0]
    exact Ev.neg (by simp) first
  · rw [show tell (depsOk b c) = true from tell_yes ⟨f1, f2, f3, f4⟩]
    refine Ev.succ ?_
    simp only [impl_SameDepends.j0]
    refine Ev.neg (by simp) (Ev.bind (rulesOf_ev a c (by omega) g1 g3) (Ev.bind (rulesOf_ev b c (by omega) f1 g3) (Ev.bind (areAll1_ev _ _ hA hB lb) ?_)))
    unfold sameOut
    by_cases e : sameB (rulesI a) (rulesI b) = true
    · rw [if_pos e]
      exact Ev.pos e (Ev.bind (areAll2_ev _ _ hB hA la) (Ev.const rfl))
    · rw [if_neg e]
      exact Ev.neg e (Ev.const rfl)
theorem implies_ev (l : List S37) (c : Int) (f0 f1 : List Int) (h : depsOk l c) (hd : depOk c ⟨f0, f1⟩) : Ev (fun k => impl_Implies.f k l c f0 f1) (hasB (cloI (rulesI l) (setI f0)) (setI f1), true) := by
  have g := h
  obtain ⟨g1, g2, g3, g4⟩ := h
  have h6 := ris_len hd.1 g3
  have h7 := ris_len hd.2 g3
  obtain ⟨x1, x2⟩ := setI_ok hd.1 g3
  obtain ⟨y1, y2⟩ := setI_ok hd.2 g3
  have hsh : shortD l := ⟨by omega, fun x hx => by
    have a := ris_len (g1 x hx).1 g3
    have b := ris_len (g1 x hx).2 g3
    omega⟩
  unfold impl_Implies.f
  refine Ev.bind (implGood_ev l c hsh) (Ev.pos (tell_yes g) (Ev.bind (isDepend_ev ⟨f0, f1⟩ c ⟨by show f0.length ≤ _; have : f0.length ≤ 6 := h6; omega, by show f1.length ≤ _; have : f1.length ≤ 6 := h7; omega⟩) ?_))
  rw [tell_yes hd]
  refine Ev.succ ?_
  simp only [impl_Implies.j0]
  refine Ev.neg (by simp) (Ev.bind (rulesOf_ev l c (by omega) g1 g3) (Ev.bind (a := (setI f0, setI f1)) ?_ (Ev.bind (implI_ev (rulesI l) (by simp [rulesI]; omega) (rulesI_ok g1 g3) _ _ x1 y1) (Ev.const rfl))))
  unfold impl_ruleOf.f
  exact Ev.bind (setOf_ev f0 (by have : f0.length ≤ 6 := h6; omega) (fun x hx => (ris_mem hd.1 x hx).1)) (Ev.bind (setOf_ev f1 (by have : f1.length ≤ 6 := h7; omega) (fun x hx => (ris_mem hd.2 x hx).1)) (Ev.const rfl))
theorem sameInts_ev (l : List Int) (hl : l.length ≤ 1000) : Ev (fun k => laws_sameInts.f k l l) true := by
  unfold laws_sameInts.f
  refine Ev.pos rfl ?_
  have loop := loop_up (n := l.length) (P := fun i => Ev (fun k => laws_sameInts.l0 k l l (l.length : Int) (i : Int)) true) ?_ ?_
  · exact loop 0 (Nat.zero_le _)
  · refine Ev.succ ?_
    simp only [laws_sameInts.l0]
    exact Ev.neg (by omega) (Ev.const rfl)
  · intro i hi ih
    refine Ev.succ ?_
    simp only [laws_sameInts.l0]
    rw [wrap_add (by omega) (by omega)]
    exact Ev.pos (by omega) (Ev.pos (by omega) (Ev.pos (by omega) (Ev.pos (by omega) (Ev.pos (by simp) ih))))
theorem tail_ev {code : List Int} (hb : bytesOk code) : Ev (fun k => (spec_DrawSameDepends.f k code).bind fun bt519 => (impl_SameDepends.f k bt519.1 bt519.2.1 bt519.2.2).bind fun bt526 => (spec_SameDepends.f k bt519.1 bt519.2.1 bt519.2.2).bind fun bt528 => if (bt526.2 == bt528.2) = true then some (bt526.1 == bt528.1) else none) true := by
  obtain ⟨r, hr, h1, h2⟩ := drawSame_ev hb
  obtain ⟨q, q1, q2, _⟩ := same_both r.1 r.2.1 r.2.2 h1.short h2.short
  exact Ev.bind hr (Ev.bind q2 (Ev.bind q1 (Ev.pos (by simp) (Ev.const (by simp)))))
theorem erase_filter {l : List Int} (hp : l.Pairwise (· < ·)) (j : Nat) (hj : j < l.length) : l.eraseIdx j = l.filter (fun x => !(x == l[j])) := by
  refine pw_eq (hp.sublist (List.eraseIdx_sublist _ _)) (hp.sublist List.filter_sublist) fun x => ?_
  rw [List.mem_eraseIdx_iff_getElem, List.mem_filter]
  have hlt : ∀ a b, (ha : a < l.length) → (hb : b < l.length) → a < b → l[a] < l[b] := fun a b ha hb h => List.pairwise_iff_getElem.1 hp a b ha hb h
  constructor
  · rintro ⟨q, hq, hne, rfl⟩
    refine ⟨List.getElem_mem hq, ?_⟩
    have : l[q] ≠ l[j] := fun e => by
      rcases Nat.lt_or_gt_of_ne hne with h | h
      · have := hlt q j hq hj h; omega
      · have := hlt j q hj hq h; omega
    simpa using this
  · rintro ⟨hx, hn⟩
    obtain ⟨q, hq, rfl⟩ := List.getElem_of_mem hx
    refine ⟨q, hq, fun e => ?_, rfl⟩
    subst e
    simp at hn
theorem cover_good {c : Int} (hc1 : 1 ≤ c) (hc : c ≤ 6) {R : List S53} (hl : R.length ≤ 10) (h : ∀ r ∈ R, okR c r) : depsOk (R.map dep) c := ⟨map_ok h, hc1, hc, by simpa using hl⟩
theorem l2_ev (code : List Int) (c : Int) (hc1 : 1 ≤ c) (hc : c ≤ 6) (R0 R : List S53) (hcov : coverOf c R0 R) (i : Nat) (hi : i < R.length)
    (next : Ev (fun k => laws_FnCover.l1 k code c (R.map dep) (R.map dep) ((R.map dep).length : Int) ((i + 1 : Nat) : Int)) true) :
    Ev (fun k => laws_FnCover.l2 k code c (R.map dep) (R.map dep) ((R.map dep).length : Int) (i : Int) ((setL R[i].f0).length : Int) 0 (setL R[i].f0) (setL R[i].f1)) true := by
  obtain ⟨hl, hok, hal, hti, hne⟩ := hcov
  have hs : ∀ r ∈ R, ruleSet r := fun r hr => (hok r hr).1
  have hRi := hok _ (List.getElem_mem hi)
  obtain ⟨h0, h1⟩ := hRi.1
  have l6 := setL_len R[i].f0
  have hgood := cover_good hc1 hc hl hok
  have loop := loop_up (n := (setL R[i].f0).length) (P := fun j => Ev (fun k => laws_FnCover.l2 k code c (R.map dep) (R.map dep) ((R.map dep).length : Int) (i : Int) ((setL R[i].f0).length : Int) (j : Int) (setL R[i].f0) (setL R[i].f1)) true) ?_ ?_
  · exact loop 0 (Nat.zero_le _)
  · refine Ev.succ ?_
    simp only [laws_FnCover.l2]
    rw [wrap_add (a := (i : Int)) (by omega) (by omega)]
    exact Ev.neg (by omega) next
  · intro j hj ih
    have hk := List.getElem_mem hj
    obtain ⟨k0, k5⟩ := setL_mem hk
    obtain ⟨m1, m2⟩ := minus_list h0 k0 k5
    have hcut := okR_cut hRi hc k0 k5
    have hy : (([] : List Int) ++ (setL R[i].f0).take (j : Int).toNat) ++ (setL R[i].f0).drop ((j : Int) + 1).toNat = setL (minusS R[i].f0 (bitS (setL R[i].f0)[j])) := by
      rw [List.nil_append, show ((j : Int) + 1).toNat = j + 1 by omega, show (j : Int).toNat = j by omega, ← List.eraseIdx_eq_take_drop_succ, erase_filter (setL_pw _) j hj, m2]
    have hI := implies_ev (R.map dep) c (setL (minusS R[i].f0 (bitS (setL R[i].f0)[j]))) (setL R[i].f1) hgood hcut.2.1
    rw [rulesI_dep hs, setI_setL m1, setI_setL h1] at hI
    have hno : hasB (cloI R (minusS R[i].f0 (bitS (setL R[i].f0)[j]))) R[i].f1 = false := Bool.eq_false_iff.mpr (hti _ (List.getElem_mem hi) _ hk)
    rw [hno] at hI
    refine Ev.succ ?_
    simp only [laws_FnCover.l2]
    rw [wrap_add (a := (j : Int)) (by omega) (by omega)]
    refine Ev.pos (by omega) (Ev.some_bind (Ev.pos (by omega) (Ev.pos (by omega) (Ev.pos (by simp; omega) (Ev.some_bind (Ev.pos (by omega) (Ev.pos (by omega) (Ev.pos (by simp; omega) ?_))))))))
    rw [hy]
    exact Ev.bind hI (Ev.pos rfl (Ev.neg (by simp) ih))
theorem l1_ev (code : List Int) (hb : bytesOk code) (c : Int) (hc1 : 1 ≤ c) (hc : c ≤ 6) (R0 R : List S53) (hcov : coverOf c R0 R) :
    Ev (fun k => laws_FnCover.l1 k code c (R.map dep) (R.map dep) ((R.map dep).length : Int) 0) true := by
  have hcov' := hcov
  obtain ⟨hl, hok, hal, hti, hne⟩ := hcov
  have hs : ∀ r ∈ R, ruleSet r := fun r hr => (hok r hr).1
  have loop := loop_up (n := R.length) (P := fun i => Ev (fun k => laws_FnCover.l1 k code c (R.map dep) (R.map dep) ((R.map dep).length : Int) (i : Int)) true) ?_ ?_
  · exact loop 0 (Nat.zero_le _)
  · refine Ev.succ ?_
    simp only [laws_FnCover.l1]
    exact Ev.neg (by simp) (tail_ev hb)
  · intro i hi ih
    have hRi := hok _ (List.getElem_mem hi)
    obtain ⟨h0, h1⟩ := hRi.1
    obtain ⟨kk, hkk⟩ := hRi.2.2
    have hO : ∀ r ∈ R.eraseIdx i, okR c r := fun r hr => hok r (List.mem_of_mem_eraseIdx hr)
    have hel : (R.eraseIdx i).length = R.length - 1 := List.length_eraseIdx_of_lt hi
    have hy : (([] : List S37) ++ (R.map dep).take (i : Int).toNat) ++ (R.map dep).drop ((i : Int) + 1).toNat = (R.eraseIdx i).map dep := by
      rw [List.nil_append, show ((i : Int) + 1).toNat = i + 1 by omega, show (i : Int).toNat = i by omega, ← List.map_take, ← List.map_drop, ← List.map_append, List.eraseIdx_eq_take_drop_succ]
    have hI := implies_ev ((R.eraseIdx i).map dep) c (setL R[i].f0) (setL R[i].f1) (cover_good hc1 hc (by omega) hO) hRi.2.1
    rw [rulesI_dep (fun r hr => (hO r hr).1), setI_setL h0, setI_setL h1] at hI
    have hno : hasB (cloI (R.eraseIdx i) R[i].f0) R[i].f1 = false := Bool.eq_false_iff.mpr (hne i hi)
    rw [hno] at hI
    refine Ev.succ ?_
    simp only [laws_FnCover.l1]
    rw [wrap_add (a := (i : Int)) (by omega) (by omega), rdDep hi]
    refine Ev.pos (by simp; omega) (Ev.pos (by omega) (Ev.pos (by simp; omega) (Ev.some_bind (Ev.pos (by simp; omega) (Ev.some_bind (Ev.pos (by simp; omega) (Ev.some_bind (Ev.pos (by omega) (Ev.pos (by simp; omega) (Ev.some_bind (Ev.pos (by simp; omega) ?_)))))))))))
    rw [hy]
    refine Ev.bind hI (Ev.pos rfl (Ev.neg (by simp) (Ev.pos ?_ ?_)))
    · show ((setL R[i].f1).length : Int) = 1
      rw [hkk]; rfl
    · exact l2_ev code c hc1 hc R0 R hcov' i hi ih
theorem sameOut_alike {l : List S37} {c : Int} (hok : ∀ d ∈ l, depOk c d) (hc : c ≤ 6) {R : List S53} (hR : ∀ r ∈ R, ruleSet r) (h : alike (rulesI l) R) : sameOut l (R.map dep) = (true, true) := by
  have hA := rulesI_ok hok hc
  have h1 : sameB (rulesI l) R = true := List.all_eq_true.2 fun r hr => (imp_iff hR (hA r hr).1 (hA r hr).2).2 fun t ht hs hf => (h t ht).2 hs r hr hf
  have h2 : sameB R (rulesI l) = true := List.all_eq_true.2 fun r hr => (imp_iff hA (hR r hr).1 (hR r hr).2).2 fun t ht hs hf => (h t ht).1 hs r hr hf
  unfold sameOut
  rw [rulesI_dep hR, h1, if_pos rfl, h2]
theorem l0_ev (code : List Int) (hb : bytesOk code) (l : List S37) (c : Int) (hl : shortD l) (r : List S37 × Bool) (h1 : r.2 = true → depsOk l c ∧ ∃ R, r.1 = R.map dep ∧ coverOf c (rulesI l) R) (h2 : r.1.length ≤ 60) (h3 : r.2 = false → r.1 = []) :
    Ev (fun k => laws_FnCover.l0 k code l c r.1 r.2 r.1 (r.1.length : Int) 0) true := by
  have hlen : ∀ i, (hi : i < r.1.length) → r.1[i].f0.length ≤ 1000 ∧ r.1[i].f1.length ≤ 1000 := by
    intro i hi
    cases e : r.2 with
    | false =>
      have := h3 e
      rw [this] at hi
      simp at hi
    | true =>
      obtain ⟨_, R, eR, _⟩ := h1 e
      have hm : r.1[i] ∈ R.map dep := by rw [← eR]; exact List.getElem_mem hi
      obtain ⟨z, _, ez⟩ := List.mem_map.1 hm
      rw [← ez]
      have l1 := setL_len z.f0
      have l2 := setL_len z.f1
      exact ⟨by show (setL z.f0).length ≤ _; omega, by show (setL z.f1).length ≤ _; omega⟩
  have loop := loop_up (n := r.1.length) (P := fun i => Ev (fun k => laws_FnCover.l0 k code l c r.1 r.2 r.1 (r.1.length : Int) (i : Int)) true) ?_ ?_
  · exact loop 0 (Nat.zero_le _)
  · refine Ev.succ ?_
    simp only [laws_FnCover.l0]
    refine Ev.neg (by omega) ?_
    cases e : r.2 with
    | false => exact Ev.neg (by simp) (tail_ev hb)
    | true =>
      obtain ⟨g, R, eR, hcov⟩ := h1 e
      obtain ⟨g1, g2, g3, g4⟩ := g
      have hRs : ∀ x ∈ R, ruleSet x := fun x hx => (hcov.2.1 x hx).1
      have hsh : shortD (R.map dep) := ⟨by have := hcov.1; simp; omega, fun x hx => by
        obtain ⟨z, _, rfl⟩ := List.mem_map.1 hx
        have l1 := setL_len z.f0
        have l2 := setL_len z.f1
        exact ⟨by show (setL z.f0).length ≤ _; omega, by show (setL z.f1).length ≤ _; omega⟩⟩
      obtain ⟨q, q1, q2, q3⟩ := same_both l (R.map dep) c hl hsh
      have hq := (q3 ⟨g1, g2, g3, g4⟩ (cover_good g2 g3 hcov.1 hcov.2.1)).trans (sameOut_alike g1 g3 hRs hcov.2.2.1)
      subst hq
      rw [eR]
      exact Ev.pos rfl (Ev.bind q2 (Ev.pos rfl (Ev.pos rfl (l1_ev code hb c g2 g3 (rulesI l) R hcov))))
  · intro i hi ih
    obtain ⟨b0, b1⟩ := hlen i hi
    refine Ev.succ ?_
    simp only [laws_FnCover.l0]
    rw [wrap_add (by omega) (by omega), rdD hi]
    exact Ev.pos (by omega) (Ev.pos (by omega) (Ev.pos (by omega) (Ev.pos (by omega) (Ev.bind (sameInts_ev _ b0) (Ev.pos rfl (Ev.bind (sameInts_ev _ b1) (Ev.pos rfl ih)))))))
theorem bytes_wf {l : List Int} (hl : l.length ≤ 1073741824) (h : ∀ x ∈ l, (Lit.int .u8 x).wf = true) : bytesOk l := by
  refine ⟨hl, fun x hx => ?_⟩
  have := h x hx
  simp [Lit.wf] at this
  have e1 : IntKind.u8.min = 0 := rfl
  have e2 : IntKind.u8.max = 255 := rfl
  omega
theorem FnCover : laws_FnCover.Pure := by
  intro l0 l1 a0 a1 a2 b0 b1 b2
  by_cases h : wrap64 ((l0.length : Int) + (l1.length : Int)) > 1048576
  · exact ⟨0, if_pos h⟩
  have hm : l0.length ≤ 1048576 ∧ l1.length ≤ 1048576 := by
    rw [wrap_id (by omega) (by omega)] at h
    omega
  have h0 := bytes_wf (by omega) a2
  have h1 := bytes_wf (by omega) b2
  refine Ev.rounds ?_
  unfold laws_FnCover.f
  refine Ev.neg h ?_
  obtain ⟨r, hr, hs⟩ := drawGood_ev h0
  obtain ⟨q, q1, q2, q3, q4, q5⟩ := bothF r.1 r.2 hs.short
  exact Ev.bind hr (Ev.bind q5 (Ev.bind q4 (Ev.neg (by simp) (Ev.pos rfl (l0_ev l1 h1 r.1 r.2 hs.short q q1 q2 q3)))))
end Go.Proofs.Ytadfmbmnnekamaa.Pure
