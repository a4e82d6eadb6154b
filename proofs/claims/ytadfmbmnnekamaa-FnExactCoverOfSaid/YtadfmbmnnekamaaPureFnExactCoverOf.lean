/- What CoverOf's law comes to, in numbers and lists alone: the program tells what the reference tells, whatever is asked. -/
import Derived.Test.YtadfmbmnnekamaaPFnExactCoverOfx7
import Derived.Test.YtadfmbmnnekamaaEv
namespace Go.Proofs.Ytadfmbmnnekamaa.Pure
open Go.RowKit Go.Proofs.Ytadfmbmnnekamaa.PFnExactCoverOf Go.Proofs.YtadfmbmnnekamaaW.PrintWords Go.Proofs.YtadfmbmnnekamaaW.PrintLast Go.Proofs.YtadfmbmnnekamaaW.PrintMore
set_option linter.unusedVariables false
set_option linter.unusedSimpArgs false

/-- The numbers of a set, rising. -/
def setL (s : Int) : List Int := ((List.range 6).filter (fun k => s.toNat.testBit k)).map (fun (k : Nat) => (k : Int))
theorem setL_mem {s x : Int} (h : x ∈ setL s) : 0 ≤ x ∧ x ≤ 5 := by
  simp only [setL, List.mem_map, List.mem_filter, List.mem_range] at h
  obtain ⟨k, ⟨hk, _⟩, rfl⟩ := h
  omega
theorem setL_some (s : Int) (h0 : 0 ≤ s) (h1 : s < 64) : impl_set_list.f 8 s = some (setL s) := by
  have key : ∀ n : Fin 64, impl_set_list.f 8 (n.val : Int) = some (setL (n.val : Int)) := by decide +kernel
  have := key ⟨s.toNat, by omega⟩
  simpa [Int.toNat_of_nonneg h0] using this
theorem setL_ev (s : Int) (h0 : 0 ≤ s) (h1 : s < 64) : Ev (fun k => impl_set_list.f k s) (setL s) := Ev.of (fun k => impl_set_list.mono s k) (setL_some s h0 h1)
/-- A number put to its place, once. -/
def putL (l : List Int) (n : Int) : List Int := if l.contains n then l else l.take (l.takeWhile (fun x => decide (x < n))).length ++ n :: l.drop (l.takeWhile (fun x => decide (x < n))).length
def orB (s n : Int) : Int := Go.bits .or .i64 s (shl .i64 1 n)
def isSet (s : Int) : Prop := 0 ≤ s ∧ s < 64
theorem fin_set {s : Int} (h : isSet s) : ∃ m : Fin 64, s = (m.val : Int) := ⟨⟨s.toNat, by have := h.1; have := h.2; omega⟩, by have := h.1; simp; omega⟩
theorem fin_num {n : Int} (h0 : 0 ≤ n) (h5 : n ≤ 5) : ∃ m : Fin 6, n = (m.val : Int) := ⟨⟨n.toNat, by omega⟩, by simp; omega⟩
theorem orB_ok {s n : Int} (h : isSet s) (h0 : 0 ≤ n) (h5 : n ≤ 5) : isSet (orB s n) ∧ setL (orB s n) = putL (setL s) n := by
  obtain ⟨a, rfl⟩ := fin_set h
  obtain ⟨b, rfl⟩ := fin_num h0 h5
  have key : ∀ a : Fin 64, ∀ b : Fin 6, (0 ≤ orB (a.val : Int) (b.val : Int) ∧ orB (a.val : Int) (b.val : Int) < 64) ∧ setL (orB (a.val : Int) (b.val : Int)) = putL (setL (a.val : Int)) (b.val : Int) := by decide +kernel
  exact key a b
theorem setL_nil {s : Int} (h : isSet s) : s = 0 ↔ setL s = [] := by
  obtain ⟨a, rfl⟩ := fin_set h
  have key : ∀ a : Fin 64, (a.val : Int) = 0 ↔ setL (a.val : Int) = [] := by decide +kernel
  exact key a
theorem setL_len (s : Int) : (setL s).length ≤ 6 := by
  unfold setL
  rw [List.length_map]
  exact Nat.le_trans (List.length_filter_le _ _) (by simp)
theorem putL_len (l : List Int) (n : Int) : (putL l n).length ≤ l.length + 1 := by
  unfold putL
  split
  · omega
  · simp; omega

def hasB (a b : Int) : Bool := Go.bits .and .i64 a b == b
def orS (a b : Int) : Int := Go.bits .or .i64 a b
theorem mem_setL {m : Fin 64} {x : Int} : x ∈ setL (m.val : Int) ↔ ∃ k : Fin 6, x = (k.val : Int) ∧ m.val.testBit k.val = true := by
  simp only [setL, List.mem_map, List.mem_filter, List.mem_range, Int.toNat_natCast]
  constructor
  · rintro ⟨k, ⟨hk, hb⟩, rfl⟩; exact ⟨⟨k, hk⟩, rfl, hb⟩
  · rintro ⟨k, rfl, hb⟩; exact ⟨k.val, ⟨k.isLt, hb⟩, rfl⟩
theorem orS_set {a b : Int} (ha : isSet a) (hb : isSet b) : isSet (orS a b) := by
  obtain ⟨a, rfl⟩ := fin_set ha
  obtain ⟨b, rfl⟩ := fin_set hb
  have key : ∀ a b : Fin 64, 0 ≤ orS (a.val : Int) (b.val : Int) ∧ orS (a.val : Int) (b.val : Int) < 64 := by decide +kernel
  exact key a b
theorem hasB_iff {a b : Int} (ha : isSet a) (hb : isSet b) : hasB a b = (setL b).all (fun x => (setL a).contains x) := by
  obtain ⟨a, rfl⟩ := fin_set ha
  obtain ⟨b, rfl⟩ := fin_set hb
  have key : ∀ a b : Fin 64, hasB (a.val : Int) (b.val : Int) = (setL (b.val : Int)).all (fun x => (setL (a.val : Int)).contains x) := by decide +kernel
  exact key a b
theorem orS_fold {a b : Int} (ha : isSet a) (hb : isSet b) : setL (orS a b) = (setL b).foldl putL (setL a) := by
  obtain ⟨a, rfl⟩ := fin_set ha
  obtain ⟨b, rfl⟩ := fin_set hb
  have key : ∀ a b : Fin 64, setL (orS (a.val : Int) (b.val : Int)) = (setL (b.val : Int)).foldl putL (setL (a.val : Int)) := by decide +kernel
  exact key a b
theorem orS_len {a b : Int} (ha : isSet a) (hb : isSet b) : (setL a).length ≤ (setL (orS a b)).length ∧ ((setL a).length = (setL (orS a b)).length ↔ orS a b = a) := by
  obtain ⟨a, rfl⟩ := fin_set ha
  obtain ⟨b, rfl⟩ := fin_set hb
  have key : ∀ a b : Fin 64, (setL (a.val : Int)).length ≤ (setL (orS (a.val : Int) (b.val : Int))).length ∧ ((setL (a.val : Int)).length = (setL (orS (a.val : Int) (b.val : Int))).length ↔ orS (a.val : Int) (b.val : Int) = (a.val : Int)) := by decide +kernel
  exact key a b
theorem setL_inj {a b : Int} (ha : isSet a) (hb : isSet b) (h : setL a = setL b) : a = b := by
  obtain ⟨a, rfl⟩ := fin_set ha
  obtain ⟨b, rfl⟩ := fin_set hb
  have key : ∀ a b : Fin 64, setL (a.val : Int) = setL (b.val : Int) → (a.val : Int) = (b.val : Int) := by decide +kernel
  exact key a b h
/-- The set of a list. -/
def setI (l : List Int) : Int := l.foldl orB 0
theorem orB_foldl : ∀ (l : List Int) (s : Int), isSet s → (∀ x ∈ l, 0 ≤ x ∧ x ≤ 5) → isSet (l.foldl orB s) ∧ setL (l.foldl orB s) = l.foldl putL (setL s)
  | [], s, hs, _ => ⟨hs, rfl⟩
  | n :: l, s, hs, h => by
    obtain ⟨h0, h5⟩ := h n List.mem_cons_self
    obtain ⟨k1, k2⟩ := orB_ok hs h0 h5
    obtain ⟨j1, j2⟩ := orB_foldl l (orB s n) k1 (fun x hx => h x (List.mem_cons_of_mem _ hx))
    exact ⟨j1, by rw [List.foldl_cons, j2, k2]; rfl⟩
/-- Rising numbers of so many. -/
def ris (l : List Int) (c : Int) : Prop := ∀ i, (hi : i < l.length) → 0 ≤ l[i] ∧ l[i] < c ∧ (0 < i → l[i - 1]'(by omega) < l[i])
theorem ris_tail {a : Int} {l : List Int} {c : Int} (h : ris (a :: l) c) : ris l c := by
  intro i hi
  have := h (i + 1) (by simp; omega)
  simp only [List.getElem_cons_succ, Nat.add_sub_cancel] at this
  refine ⟨this.1, this.2.1, fun hp => ?_⟩
  have h3 := this.2.2 (by omega)
  obtain ⟨j, rfl⟩ : ∃ j, i = j + 1 := ⟨i - 1, by omega⟩
  simpa using h3
theorem ris_mem {l : List Int} {c : Int} (h : ris l c) : ∀ x ∈ l, 0 ≤ x ∧ x < c := by
  intro x hx
  obtain ⟨i, hi, rfl⟩ := List.getElem_of_mem hx
  exact ⟨(h i hi).1, (h i hi).2.1⟩
theorem ris_lt : ∀ {l : List Int} {a c : Int}, ris (a :: l) c → ∀ x ∈ l, a < x
  | [], _, _, _ => fun x hx => by cases hx
  | b :: l, a, c, h => by
    have hab : a < b := by have := (h 1 (by simp)).2.2 (by omega); simpa using this
    intro x hx
    rcases List.mem_cons.1 hx with rfl | hx
    · exact hab
    · exact Int.lt_trans hab (ris_lt (ris_tail h) x hx)
theorem ris_zero {c : Int} (h : c ≤ 0) {l : List Int} (hl : ris l c) : l = [] := by
  cases l with
  | nil => rfl
  | cons a l => have := hl 0 (by simp); simp at this; omega
/-- Numbers put to their places behind those that are less: at the end. -/
theorem putL_end (p : List Int) (n : Int) (h : ∀ x ∈ p, x < n) : putL p n = p ++ [n] := by
  have hc : p.contains n = false := by
    rw [Bool.eq_false_iff]
    intro hn
    have := h n (by simpa using hn)
    omega
  have ht : p.takeWhile (fun x => decide (x < n)) = p := by
    clear hc
    induction p with
    | nil => rfl
    | cons a p ih => rw [List.takeWhile_cons, if_pos (by simpa using h a List.mem_cons_self), ih (fun x hx => h x (List.mem_cons_of_mem _ hx))]
  unfold putL
  rw [hc, ht, List.take_of_length_le (Nat.le_refl _), List.drop_of_length_le (Nat.le_refl _)]
  rfl
theorem foldl_putL : ∀ (l p : List Int) (c : Int), ris l c → (∀ x ∈ p, ∀ y ∈ l, x < y) → l.foldl putL p = p ++ l
  | [], p, _, _, _ => by simp
  | n :: l, p, c, h, hp => by
    rw [List.foldl_cons, putL_end p n (fun x hx => hp x hx n List.mem_cons_self), foldl_putL l (p ++ [n]) c (ris_tail h) ?_, List.append_assoc]
    · rfl
    · intro x hx y hy
      rcases List.mem_append.1 hx with hx | hx
      · exact hp x hx y (List.mem_cons_of_mem _ hy)
      · obtain rfl : x = n := by simpa using hx
        exact ris_lt h y hy
theorem setI_ok {l : List Int} {c : Int} (h : ris l c) (hc : c ≤ 6) : isSet (setI l) ∧ setL (setI l) = l := by
  obtain ⟨k1, k2⟩ := orB_foldl l 0 ⟨by omega, by omega⟩ (fun x hx => by have := ris_mem h x hx; omega)
  refine ⟨k1, ?_⟩
  unfold setI
  rw [k2, show setL 0 = [] from by decide +kernel, foldl_putL l [] c h (fun x hx => by cases hx)]
  rfl
theorem ris_len {l : List Int} {c : Int} (h : ris l c) (hc : c ≤ 6) : l.length ≤ 6 := by
  rw [← (setI_ok h hc).2]; exact setL_len _
def andS (a b : Int) : Int := Go.bits .and .i64 a b
def minusS (a b : Int) : Int := Go.bits .andNot .i64 a b
theorem andS_eq {a b : Int} (ha : isSet a) (hb : isSet b) : isSet (andS a b) ∧ setL (andS a b) = (setL a).filter (fun x => (setL b).contains x) := by
  obtain ⟨a, rfl⟩ := fin_set ha
  obtain ⟨b, rfl⟩ := fin_set hb
  have key : ∀ a b : Fin 64, (0 ≤ andS (a.val : Int) (b.val : Int) ∧ andS (a.val : Int) (b.val : Int) < 64) ∧ setL (andS (a.val : Int) (b.val : Int)) = (setL (a.val : Int)).filter (fun x => (setL (b.val : Int)).contains x) := by decide +kernel
  exact key a b
theorem minusS_eq {a b : Int} (ha : isSet a) (hb : isSet b) : isSet (minusS a b) ∧ setL (minusS a b) = (setL a).filter (fun x => !(setL b).contains x) := by
  obtain ⟨a, rfl⟩ := fin_set ha
  obtain ⟨b, rfl⟩ := fin_set hb
  have key : ∀ a b : Fin 64, (0 ≤ minusS (a.val : Int) (b.val : Int) ∧ minusS (a.val : Int) (b.val : Int) < 64) ∧ setL (minusS (a.val : Int) (b.val : Int)) = (setL (a.val : Int)).filter (fun x => !(setL (b.val : Int)).contains x) := by decide +kernel
  exact key a b
theorem mem_putL (l : List Int) (n x : Int) : x ∈ putL l n ↔ x = n ∨ x ∈ l := by
  unfold putL
  split
  · rename_i h
    have h2 : n ∈ l := by simpa using h
    exact ⟨.inr, fun h3 => h3.elim (fun e => e ▸ h2) id⟩
  · generalize (l.takeWhile fun y => decide (y < n)).length = m
    rw [List.mem_append, List.mem_cons]
    have e : x ∈ l ↔ x ∈ l.take m ∨ x ∈ l.drop m := by rw [← List.mem_append, List.take_append_drop]
    rw [e]
    exact ⟨fun h => h.elim (fun h => .inr (.inl h)) (fun h => h.elim .inl (fun h => .inr (.inr h))), fun h => h.elim (fun h => .inr (.inl h)) (fun h => h.elim .inl (fun h => .inr (.inr h)))⟩
theorem mem_foldl_putL : ∀ (l p : List Int) (x : Int), x ∈ l.foldl putL p ↔ x ∈ p ∨ x ∈ l
  | [], p, x => by simp
  | n :: l, p, x => by
    rw [List.foldl_cons, mem_foldl_putL l, mem_putL, List.mem_cons]
    exact ⟨fun h => h.elim (fun h => h.elim (fun h => .inr (.inl h)) .inl) (fun h => .inr (.inr h)), fun h => h.elim (fun h => .inl (.inr h)) (fun h => h.elim (fun h => .inl (.inl h)) .inr)⟩
theorem mem_or {a b : Int} (ha : isSet a) (hb : isSet b) (x : Int) : x ∈ setL (orS a b) ↔ x ∈ setL a ∨ x ∈ setL b := by rw [orS_fold ha hb, mem_foldl_putL]
theorem mem_and {a b : Int} (ha : isSet a) (hb : isSet b) (x : Int) : x ∈ setL (andS a b) ↔ x ∈ setL a ∧ x ∈ setL b := by rw [(andS_eq ha hb).2, List.mem_filter]; simp
theorem mem_minus {a b : Int} (ha : isSet a) (hb : isSet b) (x : Int) : x ∈ setL (minusS a b) ↔ x ∈ setL a ∧ x ∉ setL b := by rw [(minusS_eq ha hb).2, List.mem_filter]; simp
theorem mem_has {a b : Int} (ha : isSet a) (hb : isSet b) : hasB a b = true ↔ ∀ x ∈ setL b, x ∈ setL a := by rw [hasB_iff ha hb, List.all_eq_true]; simp
theorem setL_pw (s : Int) : (setL s).Pairwise (· < ·) := by
  unfold setL
  rw [List.pairwise_map]
  refine List.Pairwise.imp (fun h => by omega) ((List.pairwise_lt_range (n := 6)).filter _)
theorem pw_eq : ∀ {a b : List Int}, a.Pairwise (· < ·) → b.Pairwise (· < ·) → (∀ x, x ∈ a ↔ x ∈ b) → a = b
  | [], [], _, _, _ => rfl
  | [], y :: b, _, _, h => absurd ((h y).2 List.mem_cons_self) (by simp)
  | x :: a, [], _, _, h => absurd ((h x).1 List.mem_cons_self) (by simp)
  | x :: a, y :: b, ha, hb, h => by
    obtain ⟨hx, ha2⟩ := List.pairwise_cons.1 ha
    obtain ⟨hy, hb2⟩ := List.pairwise_cons.1 hb
    have e : x = y := by
      rcases List.mem_cons.1 ((h x).1 List.mem_cons_self) with e | m
      · exact e
      · rcases List.mem_cons.1 ((h y).2 List.mem_cons_self) with e | m2
        · exact e.symm
        · have := hy x m; have := hx y m2; omega
    subst e
    rw [pw_eq ha2 hb2 fun z => ?_]
    constructor
    · intro hz
      rcases List.mem_cons.1 ((h z).1 (List.mem_cons_of_mem _ hz)) with e | m
      · have := hx z hz; omega
      · exact m
    · intro hz
      rcases List.mem_cons.1 ((h z).2 (List.mem_cons_of_mem _ hz)) with e | m
      · have := hy z hz; omega
      · exact m
/-- A set has another one: it is as great just if it is the same. -/
theorem sub_len {a b : Int} (ha : isSet a) (hb : isSet b) (h : ∀ x ∈ setL b, x ∈ setL a) : (setL b).length ≤ (setL a).length ∧ ((setL b).length = (setL a).length ↔ a = b) := by
  obtain ⟨a, rfl⟩ := fin_set ha
  obtain ⟨b, rfl⟩ := fin_set hb
  have key : ∀ a b : Fin 64, (∀ x ∈ setL (b.val : Int), x ∈ setL (a.val : Int)) → (setL (b.val : Int)).length ≤ (setL (a.val : Int)).length ∧ ((setL (b.val : Int)).length = (setL (a.val : Int)).length ↔ (a.val : Int) = (b.val : Int)) := by decide +kernel
  exact key a b h
theorem l1Has_ev (l : List Int) (x : Int) (hl : l.length ≤ 4194304) : Ev (fun k => spec_l1Has.f k l x) (l.contains x) := by
  have loop := loop_up (n := l.length) (P := fun i => Ev (fun k => spec_l1Has.l0 k x l (l.length : Int) (i : Int)) ((l.drop i).contains x)) ?_ ?_
  · unfold spec_l1Has.f
    exact loop 0 (Nat.zero_le _)
  · refine Ev.succ ?_
    simp only [spec_l1Has.l0]
    exact Ev.neg (by omega) (Ev.const (by simp))
  · intro i hi ih
    refine Ev.succ ?_
    simp only [spec_l1Has.l0]
    refine Ev.pos (by omega) (Ev.pos (by omega) (Ev.pos (by omega) ?_))
    rw [List.drop_eq_getElem_cons hi, List.contains_cons, rd_nat hi, wrap_add (by omega) (by omega)]
    by_cases h : l[i] = x
    · exact Ev.pos h (Ev.const (by simp [h]))
    · have h' : (x == l[i]) = false := by simpa using fun e => h e.symm
      rw [h', Bool.false_or]
      exact Ev.neg h ih
theorem takeWhile_at (p : Int → Bool) : ∀ (l : List Int) (i : Nat), i ≤ l.length → (∀ j, (h : j < l.length) → j < i → p l[j] = true) → (∀ h : i < l.length, p l[i] = false) → (l.takeWhile p).length = i
  | [], i, hi, _, _ => by simp at hi; simp [hi]
  | a :: l, 0, _, _, h2 => by have := h2 (by simp); simp at this; simp [List.takeWhile_cons, this]
  | a :: l, i + 1, hi, h1, h2 => by
    have h0 := h1 0 (by simp) (by omega)
    simp at h0
    rw [List.takeWhile_cons, h0]
    simp only [if_true, List.length_cons]
    rw [takeWhile_at p l i (by simpa using hi) (fun j h hj => by have := h1 (j + 1) (by simpa using h) (by omega); simpa using this) (fun h => by have := h2 (by simpa using h); simpa using this)]
theorem l7Put_ev (l : List Int) (n : Int) (hl : l.length ≤ 1000) : Ev (fun k => spec_l7Put.f k l n) (putL l n) := by
  unfold spec_l7Put.f
  refine Ev.bind (l1Has_ev l n (by omega)) ?_
  by_cases hc : l.contains n = true
  · rw [putL, if_pos hc]
    exact Ev.pos hc (Ev.const rfl)
  · refine Ev.neg hc ?_
    rw [putL, if_neg hc]
    have done : ∀ i : Nat, i ≤ l.length → (∀ j, (h : j < l.length) → j < i → decide (l[j] < n) = true) → (∀ h : i < l.length, decide (l[i] < n) = false) → l.take (l.takeWhile (fun x => decide (x < n))).length ++ n :: l.drop (l.takeWhile (fun x => decide (x < n))).length = ([] ++ l.take (i : Int).toNat) ++ [n] ++ l.drop (i : Int).toNat := by
      intro i hi h1 h2
      rw [takeWhile_at _ l i hi h1 h2]; simp
    have loop := loop_up (n := l.length) (P := fun i => (∀ j, (h : j < l.length) → j < i → decide (l[j] < n) = true) → Ev (fun k => spec_l7Put.l0 k l n (i : Int)) (l.take (l.takeWhile (fun x => decide (x < n))).length ++ n :: l.drop (l.takeWhile (fun x => decide (x < n))).length)) ?_ ?_
    · exact loop 0 (Nat.zero_le _) (fun j _ h => absurd h (Nat.not_lt_zero _))
    · intro h1
      refine Ev.succ ?_
      rw [done l.length (Nat.le_refl _) h1 (fun h => absurd h (Nat.lt_irrefl _))]
      simp only [spec_l7Put.l0, Option.bind_some]
      refine Ev.neg (by omega) (Ev.pos (by omega) (Ev.pos (by omega) (Ev.pos (by simp; omega) (Ev.pos (by simp; omega) (Ev.pos (by simp; omega) (Ev.const rfl))))))
    · intro i hi ih h1
      refine Ev.succ ?_
      simp only [spec_l7Put.l0, Option.bind_some]
      refine Ev.pos (by omega) (Ev.pos (by omega) ?_)
      rw [rd_nat hi, wrap_add (by omega) (by omega)]
      by_cases h : l[i] < n
      · refine Ev.pos h (ih (fun j hj hji => ?_))
        by_cases e : j = i
        · subst e; simpa using h
        · exact h1 j hj (by omega)
      · refine Ev.neg h ?_
        rw [done i (by omega) h1 (fun _ => by simpa using h)]
        exact Ev.pos (by omega) (Ev.pos (by simp; omega) (Ev.pos (by simp; omega) (Ev.pos (by simp; omega) (Ev.const rfl))))
/-! ### chapter 7: dependencies -/
open Classical in
noncomputable def tell (p : Prop) : Bool := decide p
theorem tell_yes {p : Prop} (h : p) : tell p = true := by simp [tell, h]
theorem tell_no {p : Prop} (h : ¬ p) : tell p = false := by simp [tell, h]
theorem tell_iff {p : Prop} : tell p = true ↔ p := by simp [tell]
theorem l7All_ev (a b : List Int) (ha : a.length ≤ 4194304) (hb : b.length ≤ 4194304) : Ev (fun k => spec_l7All.f k a b) (b.all fun x => a.contains x) := by
  have loop := loop_up (n := b.length) (P := fun i => Ev (fun k => spec_l7All.l0 k a b (b.length : Int) (i : Int)) ((b.drop i).all fun x => a.contains x)) ?_ ?_
  · exact loop 0 (Nat.zero_le _)
  · refine Ev.succ ?_
    simp only [spec_l7All.l0]
    exact Ev.neg (by omega) (Ev.const (by simp))
  · intro i hi ih
    refine Ev.succ ?_
    simp only [spec_l7All.l0]
    rw [rd_nat hi, wrap_add (by omega) (by omega), List.drop_eq_getElem_cons hi, List.all_cons]
    refine Ev.pos (by omega) (Ev.pos (by omega) (Ev.pos (by omega) (Ev.bind (l1Has_ev a b[i] ha) ?_)))
    cases h : a.contains b[i] with
    | true => exact Ev.pos rfl (by simpa using ih)
    | false => exact Ev.neg (by simp) (Ev.const (by simp))
theorem setOf_ev (l : List Int) (hl : l.length ≤ 4194304) (h : ∀ x ∈ l, 0 ≤ x) : Ev (fun k => impl_setOf.f k l) (setI l) := by
  have loop := loop_up (n := l.length) (P := fun i => ∀ s : Int, (l.drop i).foldl orB s = setI l → Ev (fun k => impl_setOf.l0 k s l (l.length : Int) (i : Int)) (setI l)) ?_ ?_
  · exact loop 0 (Nat.zero_le _) 0 rfl
  · intro s hs
    refine Ev.succ ?_
    simp only [impl_setOf.l0]
    exact Ev.neg (by omega) (Ev.const (by rw [← hs]; simp))
  · intro i hi ih s hs
    refine Ev.succ ?_
    simp only [impl_setOf.l0]
    rw [rd_nat hi, wrap_add (by omega) (by omega)]
    refine Ev.pos (by omega) (Ev.pos (by omega) (Ev.pos (by omega) (Ev.pos (h _ (List.getElem_mem hi)) (ih _ ?_))))
    rw [← hs, List.drop_eq_getElem_cons hi]; rfl
/-- The reference's rounds, on lists. -/
theorem l7Put_set (s n : Int) (hs : isSet s) (h0 : 0 ≤ n) (h5 : n ≤ 5) : Ev (fun k => spec_l7Put.f k (setL s) n) (setL (orB s n)) := by
  rw [(orB_ok hs h0 h5).2]
  exact l7Put_ev (setL s) n (by have := setL_len s; omega)
theorem ris_from {l : List Int} {c : Int} (P : Nat → Prop) (hP : ∀ i, P i ↔ ∀ j, (hj : j < l.length) → j < i → 0 ≤ l[j] ∧ l[j] < c ∧ (0 < j → l[j - 1]'(by omega) < l[j])) : P l.length ↔ ris l c := by
  rw [hP]
  exact ⟨fun h i hi => h i hi hi, fun h j hj _ => h j hj⟩
theorem l1Some_ev (l : List Int) (c : Int) (hl : l.length ≤ 4194304) : Ev (fun k => spec_l1Some.f k l c) (tell (ris l c)) := by
  have loop := loop_up (n := l.length) (P := fun i => (∀ j, (hj : j < l.length) → j < i → 0 ≤ l[j] ∧ l[j] < c ∧ (0 < j → l[j - 1]'(by omega) < l[j])) → Ev (fun k => spec_l1Some.l0 k l c l (l.length : Int) (i : Int)) (tell (ris l c))) ?_ ?_
  · exact loop 0 (Nat.zero_le _) (fun j _ h => absurd h (Nat.not_lt_zero _))
  · intro g
    refine Ev.succ ?_
    simp only [spec_l1Some.l0]
    exact Ev.neg (by omega) (Ev.const (by rw [tell_yes (show ris l c from fun i hi => g i hi hi)]))
  · intro i hi ih g
    refine Ev.succ ?_
    simp only [spec_l1Some.l0]
    rw [rd_nat hi, wrap_add (by omega) (by omega)]
    refine Ev.pos (by omega) (Ev.pos (by omega) (Ev.pos (by omega) ?_))
    by_cases h1 : l[i] < 0
    · exact Ev.pos h1 (Ev.const (by rw [tell_no fun h => by have := (h i hi).1; omega]))
    refine Ev.neg h1 ?_
    by_cases h2 : l[i] ≥ c
    · exact Ev.pos h2 (Ev.const (by rw [tell_no fun h => by have := (h i hi).2.1; omega]))
    refine Ev.neg h2 ?_
    have next : (0 < i → l[i - 1]'(by omega) < l[i]) → Ev (fun k => spec_l1Some.l0 k l c l (l.length : Int) ((i : Int) + 1)) (tell (ris l c)) := fun hn => ih fun j hj hji => by
      by_cases e : j = i
      · subst e; exact ⟨by omega, by omega, hn⟩
      · exact g j hj (by omega)
    by_cases h3 : 0 < i
    · refine Ev.pos (by omega) ?_
      rw [wrap_id (by omega) (by omega), show (i : Int) - 1 = ((i - 1 : Nat) : Int) by omega, rd_nat (show i - 1 < l.length by omega)]
      refine Ev.pos (by omega) (Ev.pos (by omega) ?_)
      by_cases h4 : l[i - 1] ≥ l[i]
      · exact Ev.pos h4 (Ev.const (by rw [tell_no fun h => by have := (h i hi).2.2 h3; omega]))
      · exact Ev.neg h4 (next fun _ => by omega)
    · exact Ev.neg (by omega) (next fun h => absurd h h3)
theorem areRising_ev (l : List Int) (c : Int) (hl : l.length ≤ 4194304) : Ev (fun k => impl_areRising.f k l c) (tell (ris l c)) := by
  have loop := loop_up (n := l.length) (P := fun i => (∀ j, (hj : j < l.length) → j < i → 0 ≤ l[j] ∧ l[j] < c ∧ (0 < j → l[j - 1]'(by omega) < l[j])) → Ev (fun k => impl_areRising.l0 k l c l (l.length : Int) (i : Int)) (tell (ris l c))) ?_ ?_
  · exact loop 0 (Nat.zero_le _) (fun j _ h => absurd h (Nat.not_lt_zero _))
  · intro g
    refine Ev.succ ?_
    simp only [impl_areRising.l0]
    exact Ev.neg (by omega) (Ev.const (by rw [tell_yes (show ris l c from fun i hi => g i hi hi)]))
  · intro i hi ih g
    refine Ev.succ ?_
    simp only [impl_areRising.l0, impl_isPlace.f]
    rw [rd_nat hi, wrap_add (by omega) (by omega)]
    refine Ev.pos (by omega) (Ev.pos (by omega) (Ev.pos (by omega) ?_))
    by_cases h1 : l[i] ≥ 0
    case neg =>
      refine Ev.bind (a := false) (Ev.const (if_neg h1)) (Ev.neg (by simp) (Ev.const ?_))
      rw [tell_no fun h => by have := (h i hi).1; omega]
    by_cases h2 : l[i] < c
    case neg =>
      refine Ev.bind (a := false) (Ev.const (by rw [if_pos h1, decide_eq_false h2])) (Ev.neg (by simp) (Ev.const ?_))
      rw [tell_no fun h => by have := (h i hi).2.1; omega]
    refine Ev.bind (a := true) (Ev.const (by rw [if_pos h1, decide_eq_true h2])) (Ev.pos rfl ?_)
    have next : (0 < i → l[i - 1]'(by omega) < l[i]) → Ev (fun k => impl_areRising.l0 k l c l (l.length : Int) ((i : Int) + 1)) (tell (ris l c)) := fun hn => ih fun j hj hji => by
      by_cases e : j = i
      · subst e; exact ⟨by omega, by omega, hn⟩
      · exact g j hj (by omega)
    by_cases h3 : 0 < i
    · refine Ev.pos (by omega) ?_
      rw [wrap_id (by omega) (by omega), show (i : Int) - 1 = ((i - 1 : Nat) : Int) by omega, rd_nat (show i - 1 < l.length by omega)]
      refine Ev.pos (by omega) (Ev.pos (by omega) ?_)
      by_cases h4 : l[i] ≤ l[i - 1]
      · exact Ev.pos h4 (Ev.const (by rw [tell_no fun h => by have := (h i hi).2.2 h3; omega]))
      · exact Ev.neg h4 (next fun _ => by omega)
    · exact Ev.neg (by omega) (next fun h => absurd h h3)
/-- A dependency of so many columns; good dependencies. -/
def depOk (c : Int) (d : S37) : Prop := ris d.f0 c ∧ ris d.f1 c
def depsOk (l : List S37) (c : Int) : Prop := (∀ d ∈ l, depOk c d) ∧ 1 ≤ c ∧ c ≤ 6 ∧ l.length ≤ 10
def shortD (l : List S37) : Prop := l.length ≤ 1048576 ∧ ∀ x ∈ l, x.f0.length ≤ 1048576 ∧ x.f1.length ≤ 1048576
theorem l7Depend_ev (d : S37) (c : Int) (h : d.f0.length ≤ 1048576 ∧ d.f1.length ≤ 1048576) : Ev (fun k => spec_l7Depend.f k d.f0 d.f1 c) (tell (depOk c d)) := by
  unfold spec_l7Depend.f
  refine Ev.bind (l1Some_ev d.f0 c (by omega)) ?_
  by_cases h1 : ris d.f0 c
  · refine Ev.pos (tell_yes h1) (Ev.bind (l1Some_ev d.f1 c (by omega)) (Ev.const ?_))
    congr 1
    rw [Bool.eq_iff_iff, tell_iff, tell_iff]
    exact ⟨fun h2 => ⟨h1, h2⟩, fun h2 => h2.2⟩
  · exact Ev.neg (by rw [tell_no h1]; simp) (Ev.const (by rw [tell_no fun h2 => h1 h2.1]))
theorem isDepend_ev (d : S37) (c : Int) (h : d.f0.length ≤ 1048576 ∧ d.f1.length ≤ 1048576) : Ev (fun k => impl_isDepend.f k d.f0 d.f1 c) (tell (depOk c d)) := by
  unfold impl_isDepend.f
  refine Ev.bind (areRising_ev d.f0 c (by omega)) ?_
  by_cases h1 : ris d.f0 c
  · refine Ev.pos (tell_yes h1) (Ev.bind (areRising_ev d.f1 c (by omega)) (Ev.const ?_))
    congr 1
    rw [Bool.eq_iff_iff, tell_iff, tell_iff]
    exact ⟨fun h2 => ⟨h1, h2⟩, fun h2 => h2.2⟩
  · exact Ev.neg (by rw [tell_no h1]; simp) (Ev.const (by rw [tell_no fun h2 => h1 h2.1]))
theorem rdD {l : List S37} {i : Nat} (h : i < l.length) : rd_T37 l (i : Int) = l[i] := by simp [rd_T37, h]
theorem rdR {l : List S53} {i : Nat} (h : i < l.length) : rd_T53 l (i : Int) = l[i] := by simp [rd_T53, h]
theorem specGood_ev (l : List S37) (c : Int) (hl : shortD l) : Ev (fun k => spec_GoodDepends.f k l c) (tell (depsOk l c)) := by
  have hln := hl.1
  have loop := loop_up (n := l.length) (P := fun i => (∀ j, (hj : j < l.length) → j < i → depOk c l[j]) → Ev (fun k => spec_GoodDepends.l0 k l c l (l.length : Int) (i : Int)) (tell (depsOk l c))) ?_ ?_
  · exact loop 0 (Nat.zero_le _) (fun j _ h => absurd h (Nat.not_lt_zero _))
  · intro g
    have all : ∀ d ∈ l, depOk c d := fun d hd => by obtain ⟨i, hi, rfl⟩ := List.getElem_of_mem hd; exact g i hi hi
    refine Ev.succ ?_
    simp only [spec_GoodDepends.l0, spec_l1In.f]
    refine Ev.neg (by omega) ?_
    by_cases h1 : c ≥ 1
    case neg => exact Ev.bind (Ev.const (if_neg h1)) (Ev.neg (by simp) (Ev.const (by rw [tell_no fun h => h1 h.2.1])))
    by_cases h2 : c ≤ 6
    case neg => exact Ev.bind (Ev.const (by rw [if_pos h1, decide_eq_false h2])) (Ev.neg (by simp) (Ev.const (by rw [tell_no fun h => h2 h.2.2.1])))
    refine Ev.bind (Ev.const (by rw [if_pos h1, decide_eq_true h2])) (Ev.pos rfl (Ev.const ?_))
    congr 1
    rw [Bool.eq_iff_iff, decide_eq_true_iff, tell_iff]
    exact ⟨fun h => ⟨all, h1, h2, by omega⟩, fun h => by have := h.2.2.2; omega⟩
  · intro i hi ih g
    refine Ev.succ ?_
    simp only [spec_GoodDepends.l0]
    rw [rdD hi, wrap_add (by omega) (by omega)]
    refine Ev.pos (by omega) (Ev.pos (by omega) (Ev.pos (by omega) (Ev.bind (l7Depend_ev l[i] c (hl.2 _ (List.getElem_mem hi))) ?_)))
    by_cases h1 : depOk c l[i]
    · refine Ev.pos (tell_yes h1) (ih fun j hj hji => ?_)
      by_cases e : j = i
      · subst e; exact h1
      · exact g j hj (by omega)
    · exact Ev.neg (by rw [tell_no h1]; simp) (Ev.const (by rw [tell_no fun h => h1 (h.1 _ (List.getElem_mem hi))]))
theorem implGood_ev (l : List S37) (c : Int) (hl : shortD l) : Ev (fun k => impl_GoodDepends.f k l c) (tell (depsOk l c)) := by
  unfold impl_GoodDepends.f impl_within.f
  by_cases h1 : 1 ≤ c
  case neg => exact Ev.bind (Ev.const (if_neg h1)) (Ev.neg (by simp) (Ev.const (by rw [tell_no fun h => h1 h.2.1])))
  by_cases h2 : c ≤ 6
  case neg => exact Ev.bind (Ev.const (by rw [if_pos h1, decide_eq_false h2])) (Ev.neg (by simp) (Ev.const (by rw [tell_no fun h => h2 h.2.2.1])))
  refine Ev.bind (Ev.const (by rw [if_pos h1, decide_eq_true h2])) (Ev.pos rfl ?_)
  by_cases h3 : (l.length : Int) ≤ 10
  case neg => exact Ev.neg h3 (Ev.const (by rw [tell_no fun h => h3 (by have := h.2.2.2; omega)]))
  refine Ev.pos h3 ?_
  have all : ∀ l : List S37, (∀ x ∈ l, x.f0.length ≤ 1048576 ∧ x.f1.length ≤ 1048576) → ∃ K, ∀ k, K ≤ k → ∀ d ∈ l, impl_isDepend.f k d.f0 d.f1 c = some (tell (depOk c d)) := by
    intro l
    induction l with
    | nil => exact fun _ => ⟨0, fun _ _ d hd => by cases hd⟩
    | cons a l ih =>
      intro h
      obtain ⟨K1, hK1⟩ := ih (fun x hx => h x (List.mem_cons_of_mem _ hx))
      obtain ⟨K2, hK2⟩ := isDepend_ev a c (h a List.mem_cons_self)
      refine ⟨K1 + K2, fun k hk d hd => ?_⟩
      rcases List.mem_cons.1 hd with rfl | hd
      · exact hK2 k (by omega)
      · exact hK1 k (by omega) d hd
  obtain ⟨K, hK⟩ := all l hl.2
  have hE : Ev (fun k => areAll_GoodDepends1.f k l c) (tell (∀ d ∈ l, depOk c d)) := by
    refine ⟨K, fun k hk => ?_⟩
    have h4 := hK k hk
    show areAll_GoodDepends1.f k l c = _
    unfold areAll_GoodDepends1.f
    rw [if_pos (List.all_eq_true.2 fun d hd => by rw [h4 d hd]; rfl)]
    congr 1
    rw [Bool.eq_iff_iff, List.all_eq_true, tell_iff]
    refine forall_congr' fun d => forall_congr' fun hd => ?_
    unfold depB
    rw [h4 d hd]
    exact tell_iff
  refine Ev.bind hE (Ev.const ?_)
  congr 1
  rw [Bool.eq_iff_iff, tell_iff, tell_iff]
  exact ⟨fun h => ⟨h, h1, h2, by omega⟩, fun h => h.1⟩
/-- A list of dependencies as rules of sets. -/
def ruleI (d : S37) : S53 := ⟨setI d.f0, setI d.f1⟩
def rulesI (l : List S37) : List S53 := l.map ruleI
def ruleSet (r : S53) : Prop := isSet r.f0 ∧ isSet r.f1
theorem ruleI_ok {d : S37} {c : Int} (h : depOk c d) (hc : c ≤ 6) : ruleSet (ruleI d) ∧ setL (ruleI d).f0 = d.f0 ∧ setL (ruleI d).f1 = d.f1 :=
  ⟨⟨(setI_ok h.1 hc).1, (setI_ok h.2 hc).1⟩, (setI_ok h.1 hc).2, (setI_ok h.2 hc).2⟩
theorem rulesI_ok {l : List S37} {c : Int} (h : ∀ d ∈ l, depOk c d) (hc : c ≤ 6) : ∀ r ∈ rulesI l, ruleSet r := by
  intro r hr
  obtain ⟨d, hd, rfl⟩ := List.mem_map.1 hr
  exact (ruleI_ok (h d hd) hc).1
/-- One round of what columns tell; what they tell. -/
def stepR (s : Int) (r : S53) : Int := if hasB s r.f0 = true then orS s r.f1 else s
def roundR (R : List S53) (s : Int) : Int := R.foldl stepR s
theorem stepR_ok {s : Int} {r : S53} (hs : isSet s) (hr : ruleSet r) : isSet (stepR s r) := by
  unfold stepR; split
  · exact orS_set hs hr.2
  · exact hs
theorem roundR_ok : ∀ {R : List S53} {s : Int}, isSet s → (∀ r ∈ R, ruleSet r) → isSet (roundR R s)
  | [], s, hs, _ => hs
  | r :: R, s, hs, h => roundR_ok (R := R) (stepR_ok hs (h r List.mem_cons_self)) (fun x hx => h x (List.mem_cons_of_mem _ hx))
theorem roundR_len : ∀ {R : List S53} {s : Int}, isSet s → (∀ r ∈ R, ruleSet r) → (setL s).length ≤ (setL (roundR R s)).length ∧ ((setL (roundR R s)).length = (setL s).length → roundR R s = s)
  | [], s, hs, _ => ⟨Nat.le_refl _, fun _ => rfl⟩
  | r :: R, s, hs, h => by
    have hr := h r List.mem_cons_self
    obtain ⟨k1, k2⟩ := roundR_len (R := R) (stepR_ok hs hr) (fun x hx => h x (List.mem_cons_of_mem _ hx))
    have hst : (setL s).length ≤ (setL (stepR s r)).length ∧ ((setL (stepR s r)).length = (setL s).length → stepR s r = s) := by
      unfold stepR; split
      · exact ⟨(orS_len hs hr.2).1, fun e => ((orS_len hs hr.2).2.1 e.symm)⟩
      · exact ⟨Nat.le_refl _, fun _ => rfl⟩
    show (setL s).length ≤ (setL (roundR R (stepR s r))).length ∧ ((setL (roundR R (stepR s r))).length = (setL s).length → roundR R (stepR s r) = s)
    refine ⟨by omega, fun e => ?_⟩
    have e1 := hst.2 (by omega)
    rw [e1] at k2 e ⊢
    exact k2 e
def cloN (R : List S53) : Nat → Int → Int
  | 0, s => s
  | n + 1, s => if roundR R s = s then s else cloN R n (roundR R s)
/-- What columns tell. -/
def cloI (R : List S53) (s : Int) : Int := cloN R 7 s
theorem cloN_ok {R : List S53} (h : ∀ r ∈ R, ruleSet r) : ∀ n {s : Int}, isSet s → isSet (cloN R n s)
  | 0, _, hs => hs
  | n + 1, s, hs => by
    unfold cloN; split
    · exact hs
    · exact cloN_ok h n (roundR_ok hs h)
theorem cloI_ok {R : List S53} {s : Int} (h : ∀ r ∈ R, ruleSet r) (hs : isSet s) : isSet (cloI R s) := cloN_ok h 7 hs
theorem rulesOf_ev (l : List S37) (c : Int) (hl : l.length ≤ 1000) (h : ∀ d ∈ l, depOk c d) (hc : c ≤ 6) : Ev (fun k => impl_rulesOf.f k l) (rulesI l) := by
  have loop := loop_up (n := l.length) (P := fun i => Ev (fun k => impl_rulesOf.l0 k (rulesI (l.take i)) l (l.length : Int) (i : Int)) (rulesI l)) ?_ ?_
  · exact loop 0 (Nat.zero_le _)
  · refine Ev.succ ?_
    simp only [impl_rulesOf.l0]
    exact Ev.neg (by omega) (Ev.const (by simp))
  · intro i hi ih
    obtain ⟨h0, h1⟩ := h _ (List.getElem_mem hi)
    refine Ev.succ ?_
    simp only [impl_rulesOf.l0]
    rw [rdD hi, wrap_add (by omega) (by omega)]
    refine Ev.pos (by omega) (Ev.pos (by omega) (Ev.pos (by omega) (Ev.bind (setOf_ev l[i].f0 (by have := ris_len h0 hc; omega) (fun x hx => (ris_mem h0 x hx).1)) (Ev.bind (setOf_ev l[i].f1 (by have := ris_len h1 hc; omega) (fun x hx => (ris_mem h1 x hx).1)) (Ev.pos (by simp [rulesI]; omega) ?_)))))
    rw [show rulesI (l.take i) ++ [⟨setI l[i].f0, setI l[i].f1⟩] = rulesI (l.take (i + 1)) by unfold rulesI; rw [List.take_succ_eq_append_getElem hi, List.map_append]; rfl]
    exact ih
theorem closure_round (R : List S53) (hR : R.length ≤ 1000) (x1 : Int) {r : Int} : ∀ (s : Int) (i : Nat), i ≤ R.length → Ev (fun k => if roundR (R.drop i) s = x1 then some x1 else impl_closure.l0 k R (roundR (R.drop i) s)) r → Ev (fun k => impl_closure.l1 k R x1 s R (R.length : Int) (i : Int)) r := by
  intro s i hi hq
  have loop := loop_up (n := R.length) (P := fun i => ∀ s, Ev (fun k => if roundR (R.drop i) s = x1 then some x1 else impl_closure.l0 k R (roundR (R.drop i) s)) r → Ev (fun k => impl_closure.l1 k R x1 s R (R.length : Int) (i : Int)) r) ?_ ?_
  · exact loop i hi s hq
  · intro s h
    refine Ev.succ ?_
    simp only [impl_closure.l1]
    exact Ev.neg (by omega) (by simpa [roundR] using h)
  · intro i hi ih s h
    refine Ev.succ ?_
    simp only [impl_closure.l1, impl_set_has.f]
    rw [rdR hi, wrap_add (by omega) (by omega)]
    rw [List.drop_eq_getElem_cons hi] at h
    refine Ev.pos (by omega) (Ev.pos (by omega) (Ev.pos (by omega) (Ev.some_bind ?_)))
    by_cases hb : hasB s R[i].f0 = true
    · refine Ev.pos hb (ih _ ?_)
      have e : roundR (R[i] :: R.drop (i + 1)) s = roundR (R.drop (i + 1)) (Go.bits .or .i64 s R[i].f1) := by
        show roundR (R.drop (i + 1)) (stepR s R[i]) = _
        unfold stepR; rw [if_pos hb]; rfl
      rw [e] at h; exact h
    · refine Ev.neg hb (ih _ ?_)
      have e : roundR (R[i] :: R.drop (i + 1)) s = roundR (R.drop (i + 1)) s := by
        show roundR (R.drop (i + 1)) (stepR s R[i]) = _
        unfold stepR; rw [if_neg hb]
      rw [e] at h; exact h
theorem closureN_ev (R : List S53) (hR : R.length ≤ 1000) (hs : ∀ r ∈ R, ruleSet r) : ∀ (n : Nat) (s : Int), isSet s → 6 < (setL s).length + n → Ev (fun k => impl_closure.l0 k R s) (cloN R n s) := by
  intro n
  induction n with
  | zero => intro s h h2; have := setL_len s; omega
  | succ n ih =>
    intro s h h2
    refine Ev.succ ?_
    simp only [impl_closure.l0]
    refine closure_round R hR s s 0 (Nat.zero_le _) ?_
    rw [List.drop_zero]
    unfold cloN
    obtain ⟨l1, l2⟩ := roundR_len h hs
    by_cases e : roundR R s = s
    · rw [if_pos e]; exact Ev.pos e (Ev.const rfl)
    · rw [if_neg e]
      refine Ev.neg e (ih _ (roundR_ok h hs) ?_)
      have : (setL (roundR R s)).length ≠ (setL s).length := fun e2 => e (l2 e2)
      omega
theorem closure_ev (R : List S53) (hR : R.length ≤ 1000) (hs : ∀ r ∈ R, ruleSet r) (s : Int) (h : isSet s) : Ev (fun k => impl_closure.f k R s) (cloI R s) := closureN_ev R hR hs 7 s h (by omega)
theorem l7Closure_round (l : List S37) (c : Int) (hl : l.length ≤ 1000) (h : ∀ d ∈ l, depOk c d) (hc : c ≤ 6) (n : Int) {r : List Int} : ∀ (s : Int) (i : Nat), isSet s → i ≤ l.length →
    (∀ t, isSet t → t = roundR (rulesI (l.drop i)) s → Ev (fun k => if ((setL t).length : Int) = n then some (setL t) else spec_l7Closure.l0 k l (setL t)) r) → Ev (fun k => spec_l7Closure.l1 k l (setL s) n l (l.length : Int) (i : Int)) r := by
  intro s i hs hi hq
  have loop := loop_up (n := l.length) (P := fun i => ∀ s, isSet s → (∀ t, isSet t → t = roundR (rulesI (l.drop i)) s → Ev (fun k => if ((setL t).length : Int) = n then some (setL t) else spec_l7Closure.l0 k l (setL t)) r) → Ev (fun k => spec_l7Closure.l1 k l (setL s) n l (l.length : Int) (i : Int)) r) ?_ ?_
  · exact loop i hi s hs hq
  · intro s hs hq
    refine Ev.succ ?_
    simp only [spec_l7Closure.l1]
    exact Ev.neg (by omega) (hq s hs (by simp [rulesI, roundR]))
  · intro i hi ih s hs hq
    have hd := h _ (List.getElem_mem hi)
    obtain ⟨⟨k0, k1⟩, e0, e1⟩ := ruleI_ok hd hc
    rw [List.drop_eq_getElem_cons hi] at hq
    refine Ev.succ ?_
    simp only [spec_l7Closure.l1]
    rw [rdD hi, wrap_add (by omega) (by omega)]
    refine Ev.pos (by omega) (Ev.pos (by omega) (Ev.pos (by omega) (Ev.bind (l7All_ev (setL s) l[i].f0 (by have := setL_len s; omega) (by have := ris_len hd.1 hc; omega)) ?_)))
    have hh := hasB_iff hs k0
    rw [e0] at hh
    rw [← hh]
    by_cases hb : hasB s (ruleI l[i]).f0 = true
    · refine Ev.pos hb ?_
      -- the numbers of To, one after the other
      have inner := loop_up (n := l[i].f1.length) (P := fun j => ∀ t, isSet t → (l[i].f1.drop j).foldl putL (setL t) = setL (orS s (ruleI l[i]).f1) → Ev (fun k => spec_l7Closure.l2 k l (setL t) n l (l.length : Int) (i : Int) l[i].f1 (l[i].f1.length : Int) (j : Int)) r) ?_ ?_
      · refine inner 0 (Nat.zero_le _) s hs ?_
        rw [orS_fold hs k1, e1]; rfl
      · intro t ht e
        refine Ev.succ ?_
        simp only [spec_l7Closure.l2]
        rw [wrap_add (a := (i : Int)) (by omega) (by omega)]
        refine Ev.neg (by omega) (ih t ht fun u hu e2 => hq u hu ?_)
        have et : t = orS s (ruleI l[i]).f1 := setL_inj ht (orS_set hs k1) (by simpa using e)
        rw [e2, et]
        show roundR (rulesI (l.drop (i + 1))) _ = roundR (rulesI (l.drop (i + 1))) (stepR s (ruleI l[i]))
        unfold stepR; rw [if_pos hb]
      · intro j hj ihj t ht e
        have hm := ris_mem hd.2 _ (List.getElem_mem hj)
        refine Ev.succ ?_
        simp only [spec_l7Closure.l2]
        have hlen := ris_len hd.2 hc
        rw [rd_nat hj, wrap_add (a := (j : Int)) (by omega) (by omega)]
        refine Ev.pos (by omega) (Ev.pos (by omega) (Ev.pos (by omega) (Ev.bind (l7Put_set t _ ht hm.1 (by omega)) (ihj _ (orB_ok ht hm.1 (by omega)).1 ?_))))
        rw [(orB_ok ht hm.1 (by omega)).2, ← e, List.drop_eq_getElem_cons hj]; rfl
    · refine Ev.neg hb (ih s hs fun u hu e2 => hq u hu ?_)
      rw [e2]
      show _ = roundR (rulesI (l.drop (i + 1))) (stepR s (ruleI l[i]))
      unfold stepR; rw [if_neg hb]
theorem l7ClosureN_ev (l : List S37) (c : Int) (hl : l.length ≤ 1000) (h : ∀ d ∈ l, depOk c d) (hc : c ≤ 6) : ∀ (n : Nat) (s : Int), isSet s → 6 < (setL s).length + n → Ev (fun k => spec_l7Closure.l0 k l (setL s)) (setL (cloN (rulesI l) n s)) := by
  have hR := rulesI_ok h hc
  intro n
  induction n with
  | zero => intro s h h2; have := setL_len s; omega
  | succ n ih =>
    intro s hs h2
    refine Ev.succ ?_
    simp only [spec_l7Closure.l0]
    refine l7Closure_round l c hl h hc _ s 0 hs (Nat.zero_le _) ?_
    intro t ht e
    rw [List.drop_zero] at e
    obtain ⟨l1, l2⟩ := roundR_len hs hR
    rw [← e] at l1 l2
    unfold cloN
    rw [← e]
    by_cases e2 : t = s
    · rw [if_pos e2]; exact Ev.pos (by rw [e2]) (Ev.const (by rw [e2]))
    · rw [if_neg e2]
      have hne : (setL t).length ≠ (setL s).length := fun e3 => e2 (l2 e3)
      exact Ev.neg (by omega) (ih t ht (by omega))
theorem l7Closure_ev (l : List S37) (c : Int) (hl : l.length ≤ 1000) (h : ∀ d ∈ l, depOk c d) (hc : c ≤ 6) (s : Int) (hs : isSet s) : Ev (fun k => spec_l7Closure.f k l (setL s)) (setL (cloI (rulesI l) s)) := by
  unfold spec_l7Closure.f
  refine Ev.some_bind (Ev.pos (by have := setL_len s; simp; omega) ?_)
  rw [List.nil_append]
  exact l7ClosureN_ev l c hl h hc 7 s hs (by omega)
/-! ### covers: rules of sets whose right side is one column -/
def dep (r : S53) : S37 := ⟨setL r.f0, setL r.f1⟩
def bitS (k : Int) : Int := shl .i64 1 k
theorem bitS_ok {k : Int} (h0 : 0 ≤ k) (h5 : k ≤ 5) : isSet (bitS k) ∧ setL (bitS k) = [k] := by
  have key : ∀ m : Fin 6, (0 ≤ bitS (m.val : Int) ∧ bitS (m.val : Int) < 64) ∧ setL (bitS (m.val : Int)) = [(m.val : Int)] := by decide +kernel
  obtain ⟨m, rfl⟩ := fin_num h0 h5
  exact key m
theorem ris_of {l : List Int} {c : Int} (hp : l.Pairwise (· < ·)) (hm : ∀ x ∈ l, 0 ≤ x ∧ x < c) : ris l c := fun i hi =>
  ⟨(hm _ (List.getElem_mem hi)).1, (hm _ (List.getElem_mem hi)).2, fun h => List.pairwise_iff_getElem.1 hp _ _ (by omega) hi (by omega)⟩
theorem setI_setL {s : Int} (h : isSet s) : setI (setL s) = s := by
  have hr : ris (setL s) 6 := ris_of (setL_pw s) (fun x hx => by have := setL_mem hx; omega)
  obtain ⟨a, b⟩ := setI_ok hr (Int.le_refl _)
  exact setL_inj a h b
def okR (c : Int) (r : S53) : Prop := ruleSet r ∧ depOk c (dep r) ∧ ∃ k, setL r.f1 = [k]
theorem rulesI_dep : ∀ {R : List S53}, (∀ r ∈ R, ruleSet r) → rulesI (R.map dep) = R
  | [], _ => rfl
  | r :: R, h => by
    have hr := h r List.mem_cons_self
    have ih := rulesI_dep (R := R) (fun x hx => h x (List.mem_cons_of_mem _ hx))
    unfold rulesI at *
    rw [List.map_cons, List.map_cons, ih]
    congr 1
    obtain ⟨a, b⟩ := r
    show (⟨setI (setL a), setI (setL b)⟩ : S53) = ⟨a, b⟩
    rw [setI_setL hr.1, setI_setL hr.2]
theorem map_ok {R : List S53} {c : Int} (h : ∀ r ∈ R, okR c r) : ∀ d ∈ R.map dep, depOk c d := by
  intro d hd
  obtain ⟨r, hr, rfl⟩ := List.mem_map.1 hd
  exact (h r hr).2.1
theorem rdDep {R : List S53} {i : Nat} (h : i < R.length) : rd_T37 (R.map dep) (i : Int) = dep R[i] := by simp [rd_T37, h]
theorem implI_ev (R : List S53) (hR : R.length ≤ 1000) (hs : ∀ r ∈ R, ruleSet r) (a b : Int) (ha : isSet a) (hb : isSet b) : Ev (fun k => impl_implies.f k R a b) (hasB (cloI R a) b) := by
  unfold impl_implies.f
  exact Ev.bind (closure_ev R hR hs a ha) (Ev.const rfl)
theorem implS_ev (R : List S53) (c : Int) (hR : R.length ≤ 1000) (h : ∀ r ∈ R, okR c r) (hc : c ≤ 6) (a b : Int) (ha : isSet a) (hb : isSet b) : Ev (fun k => spec_l7Implies.f k (R.map dep) (setL a) (setL b)) (hasB (cloI R a) b) := by
  have hs : ∀ r ∈ R, ruleSet r := fun r hr => (h r hr).1
  unfold spec_l7Implies.f
  have h1 := l7Closure_ev (R.map dep) c (by simpa using hR) (map_ok h) hc a ha
  rw [rulesI_dep hs] at h1
  have l1 := setL_len (cloI R a)
  have l2 := setL_len b
  exact Ev.bind h1 (Ev.bind (l7All_ev _ _ (by omega) (by omega)) (Ev.const (by rw [hasB_iff (cloI_ok hs ha) hb])))
theorem dep_short {R : List S53} (hR : R.length ≤ 60) : okDependS (R.map dep) := by
  have hs : ∀ (R : List S53), ((R.map dep).map fun x => x.f0.length + x.f1.length).sum ≤ 12 * R.length := by
    intro R
    induction R with
    | nil => simp
    | cons r R ih =>
      have l1 := setL_len r.f0
      have l2 := setL_len r.f1
      simp only [List.map_cons, List.sum_cons, List.length_cons]
      show (setL r.f0).length + (setL r.f1).length + _ ≤ _
      omega
  refine ⟨⟨by simp; omega, fun x hx => ?_⟩, ?_⟩
  · obtain ⟨r, _, rfl⟩ := List.mem_map.1 hx
    have l1 := setL_len r.f0
    have l2 := setL_len r.f1
    exact ⟨by show (setL r.f0).length ≤ _; omega, by show (setL r.f1).length ≤ _; omega⟩
  · have := hs R
    omega
/-! the last stage: what can go goes -/
theorem l5_ev (R : List S53) (hR : R.length ≤ 60) (h : ∀ r ∈ R, ruleSet r) : Ev (fun k => impl_CoverOf.l5 k ([] : List S37) R (R.length : Int) 0) (R.map dep, true) := by
  have loop := loop_up (n := R.length) (P := fun i => Ev (fun k => impl_CoverOf.l5 k ((R.take i).map dep) R (R.length : Int) (i : Int)) (R.map dep, true)) ?_ ?_
  · exact loop 0 (Nat.zero_le _)
  · refine Ev.succ ?_
    simp only [impl_CoverOf.l5]
    exact Ev.neg (by omega) (Ev.const (by simp))
  · intro i hi ih
    obtain ⟨h0, h1⟩ := h _ (List.getElem_mem hi)
    refine Ev.succ ?_
    simp only [impl_CoverOf.l5]
    rw [rdR hi, wrap_add (by omega) (by omega)]
    refine Ev.pos (by omega) (Ev.pos (by omega) (Ev.pos (by omega) (Ev.bind (setL_ev _ h0.1 h0.2) (Ev.bind (setL_ev _ h1.1 h1.2) (Ev.pos (by simp; omega) ?_)))))
    rw [show (R.take i).map dep ++ [⟨setL R[i].f0, setL R[i].f1⟩] = (R.take (i + 1)).map dep by rw [List.take_succ_eq_append_getElem hi, List.map_append]; rfl]
    exact ih
theorem stage3 (c : Int) (hc1 : 1 ≤ c) (hc : c ≤ 6) : ∀ (m : Nat) (R : List S53) (i : Nat), R.length - i ≤ m → R.length ≤ 60 → (∀ r ∈ R, okR c r) →
    ∃ res : List S37 × Bool, okDependS res.1 ∧ Ev (fun k => spec_CoverOf.l6 k c (R.map dep) (i : Int)) res ∧ Ev (fun k => impl_CoverOf.l4 k R (i : Int)) res := by
  intro m
  induction m with
  | zero =>
    intro R i hm hR h
    have hs : ∀ r ∈ R, ruleSet r := fun r hr => (h r hr).1
    have hsh := dep_short hR
    have hG := specGood_ev (R.map dep) c hsh.1
    by_cases h10 : R.length ≤ 10
    · have hd : depsOk (R.map dep) c := ⟨map_ok h, hc1, hc, by simpa using h10⟩
      refine ⟨(R.map dep, true), hsh, Ev.succ ?_, Ev.succ ?_⟩
      · simp only [spec_CoverOf.l6]
        exact Ev.neg (by simp; omega) (Ev.bind hG (Ev.pos (tell_yes hd) (Ev.const rfl)))
      · simp only [impl_CoverOf.l4]
        exact Ev.neg (by omega) (Ev.neg (by omega) (l5_ev R hR hs))
    · have hd : ¬ depsOk (R.map dep) c := fun g => h10 (by simpa using g.2.2.2)
      refine ⟨([], false), ⟨⟨by simp, by simp⟩, by simp⟩, Ev.succ ?_, Ev.succ ?_⟩
      · simp only [spec_CoverOf.l6]
        exact Ev.neg (by simp; omega) (Ev.bind hG (Ev.neg (by rw [tell_no hd]; simp) (Ev.const rfl)))
      · simp only [impl_CoverOf.l4]
        exact Ev.neg (by omega) (Ev.pos (by omega) (Ev.const rfl))
  | succ m ih =>
    intro R i hm hR h
    by_cases hi : i < R.length
    case neg => exact ih R i (by omega) hR h
    have hs : ∀ r ∈ R, ruleSet r := fun r hr => (h r hr).1
    have hO : ∀ r ∈ R.eraseIdx i, okR c r := fun r hr => h r (List.mem_of_mem_eraseIdx hr)
    have hOs : ∀ r ∈ R.eraseIdx i, ruleSet r := fun r hr => (hO r hr).1
    have hel : (R.eraseIdx i).length = R.length - 1 := List.length_eraseIdx_of_lt hi
    obtain ⟨hi0, hi1⟩ := hs _ (List.getElem_mem hi)
    have e1 := implS_ev (R.eraseIdx i) c (by omega) hO hc R[i].f0 R[i].f1 hi0 hi1
    have e2 := implI_ev (R.eraseIdx i) (by omega) hOs R[i].f0 R[i].f1 hi0 hi1
    have hy : (([] : List S37) ++ (R.map dep).take (i : Int).toNat) ++ (R.map dep).drop ((i : Int) + 1).toNat = (R.eraseIdx i).map dep := by
      rw [List.nil_append, show ((i : Int) + 1).toNat = i + 1 by omega, show (i : Int).toNat = i by omega, ← List.map_take, ← List.map_drop, ← List.map_append, List.eraseIdx_eq_take_drop_succ]
    have goS : ∀ {res : List S37 × Bool}, Ev (fun k => if hasB (cloI (R.eraseIdx i) R[i].f0) R[i].f1 = true then spec_CoverOf.l6 k c ((R.eraseIdx i).map dep) (i : Int) else spec_CoverOf.l6 k c (R.map dep) ((i : Int) + 1)) res → Ev (fun k => spec_CoverOf.l6 k c (R.map dep) (i : Int)) res := by
      intro res hr
      refine Ev.succ ?_
      simp only [spec_CoverOf.l6]
      rw [wrap_add (by omega) (by omega), rdDep hi]
      refine Ev.pos (by simp; omega) (Ev.some_bind (Ev.pos (by omega) (Ev.pos (by simp; omega) (Ev.some_bind (Ev.pos (by simp; omega) (Ev.some_bind (Ev.pos (by omega) (Ev.pos (by simp; omega) (Ev.some_bind (Ev.pos (by simp; omega) (Ev.some_bind ?_)))))))))))
      rw [hy]
      exact Ev.bind e1 hr
    have goI : ∀ {res : List S37 × Bool}, Ev (fun k => if hasB (cloI (R.eraseIdx i) R[i].f0) R[i].f1 = true then impl_CoverOf.l4 k (R.eraseIdx i) (i : Int) else impl_CoverOf.l4 k R ((i : Int) + 1)) res → Ev (fun k => impl_CoverOf.l4 k R (i : Int)) res := by
      intro res hr
      refine Ev.succ ?_
      simp only [impl_CoverOf.l4]
      rw [wrap_add (by omega) (by omega), rdR hi]
      refine Ev.pos (by omega) (Ev.bind (Ev.const (show clone_Rule.f R = some R from if_pos ⟨by omega, by omega⟩)) (Ev.bind (Ev.const (show del_Rule.f R (i : Int) ((i : Int) + 1) = some (R.eraseIdx i) from ?_)) (Ev.pos (by omega) (Ev.bind e2 hr))))
      unfold del_Rule.f
      rw [if_pos ⟨by omega, rfl, by omega⟩, show (i : Int).toNat = i by omega]
    cases hb : hasB (cloI (R.eraseIdx i) R[i].f0) R[i].f1 with
    | true =>
      obtain ⟨res, k0, k1, k2⟩ := ih (R.eraseIdx i) i (by omega) (by omega) hO
      exact ⟨res, k0, goS (Ev.pos hb k1), goI (Ev.pos hb k2)⟩
    | false =>
      obtain ⟨res, k0, k1, k2⟩ := ih R (i + 1) (by omega) hR h
      exact ⟨res, k0, goS (Ev.neg (by rw [hb]; simp) k1), goI (Ev.neg (by rw [hb]; simp) k2)⟩
/-! the middle stage: columns that are not needed go -/
theorem minus_list {s k : Int} (hs : isSet s) (h0 : 0 ≤ k) (h5 : k ≤ 5) : isSet (minusS s (bitS k)) ∧ setL (minusS s (bitS k)) = (setL s).filter (fun x => !(x == k)) := by
  obtain ⟨b1, b2⟩ := bitS_ok h0 h5
  obtain ⟨a, b⟩ := minusS_eq hs b1
  refine ⟨a, ?_⟩
  rw [b, b2]
  congr 1
  funext x
  by_cases e : x = k
  · subst e; simp
  · have e2 : ¬ k = x := fun h => e h.symm
    simp [e]
theorem okR_cut {c : Int} {r : S53} (h : okR c r) (hc : c ≤ 6) {k : Int} (h0 : 0 ≤ k) (h5 : k ≤ 5) : okR c ⟨minusS r.f0 (bitS k), r.f1⟩ := by
  obtain ⟨⟨h1, h2⟩, ⟨h3, h4⟩, h6⟩ := h
  obtain ⟨m1, m2⟩ := minus_list h1 h0 h5
  refine ⟨⟨m1, h2⟩, ⟨?_, h4⟩, h6⟩
  refine ris_of (setL_pw _) (fun x hx => ?_)
  replace hx : x ∈ setL (minusS r.f0 (bitS k)) := hx
  rw [m2] at hx
  exact ris_mem h3 x ((List.mem_filter.1 hx).1)
theorem okR_set {c : Int} {R : List S53} {i : Nat} {r : S53} (h : ∀ x ∈ R, okR c x) (hr : okR c r) : ∀ x ∈ R.set i r, okR c x := fun x hx => by
  rcases List.mem_or_eq_of_mem_set hx with h2 | rfl
  · exact h x h2
  · exact hr
theorem less_ev (c kk : Int) (out : List S37) (i n : Nat) (L F : List Int) (ll j : Int) (hF : F.length ≤ 6) {res : List S37 × Bool}
    (hend : Ev (fun k => spec_CoverOf.l5 k c out (i : Int) kk (F.filter (fun x => !(x == kk))) (n : Int) (i : Int) L ll j F (F.length : Int) (F.length : Int)) res) :
    Ev (fun k => spec_CoverOf.l5 k c out (i : Int) kk ([] : List Int) (n : Int) (i : Int) L ll j F (F.length : Int) 0) res := by
  have loop := loop_up (n := F.length) (P := fun t => Ev (fun k => spec_CoverOf.l5 k c out (i : Int) kk ((F.take t).filter (fun x => !(x == kk))) (n : Int) (i : Int) L ll j F (F.length : Int) (t : Int)) res) ?_ ?_
  · exact loop 0 (Nat.zero_le _)
  · rw [List.take_length]; exact hend
  · intro t ht ih
    have hl : ((F.take t).filter (fun x => !(x == kk))).length ≤ t := Nat.le_trans (List.length_filter_le _ _) (by simp; omega)
    rw [List.take_succ_eq_append_getElem ht, List.filter_append] at ih
    refine Ev.succ ?_
    simp only [spec_CoverOf.l5]
    rw [rd_nat ht, wrap_add (by omega) (by omega)]
    refine Ev.pos (by omega) (Ev.pos (by omega) (Ev.pos (by omega) ?_))
    by_cases e : F[t] = kk
    · refine Ev.pos e ?_
      rw [List.filter_cons_of_neg (by simp [e]), List.filter_nil, List.append_nil] at ih
      exact ih
    · refine Ev.neg e (Ev.pos (by omega) ?_)
      rw [List.filter_cons_of_pos (by simp [e]), List.filter_nil] at ih
      exact ih
theorem stage2in (c : Int) (hc1 : 1 ≤ c) (hc : c ≤ 6) (n i : Nat) (L : List Int) (hL : ∀ x ∈ L, 0 ≤ x ∧ x ≤ 5) (hLl : L.length ≤ 6) (hi : i < n) (hn : n ≤ 60)
    (next : ∀ R : List S53, R.length = n → (∀ r ∈ R, okR c r) → ∃ res : List S37 × Bool, okDependS res.1 ∧ Ev (fun k => spec_CoverOf.l3 k c (R.map dep) (n : Int) ((i + 1 : Nat) : Int)) res ∧ Ev (fun k => impl_CoverOf.l2 k R (n : Int) ((i + 1 : Nat) : Int)) res) :
    ∀ R : List S53, R.length = n → (∀ r ∈ R, okR c r) → ∃ res : List S37 × Bool, okDependS res.1 ∧ Ev (fun k => spec_CoverOf.l4 k c (R.map dep) (i : Int) (n : Int) (i : Int) L (L.length : Int) 0) res ∧ Ev (fun k => impl_CoverOf.l3 k R (i : Int) (n : Int) (i : Int) L (L.length : Int) 0) res := by
  have loop := loop_up (n := L.length) (P := fun j => ∀ R : List S53, R.length = n → (∀ r ∈ R, okR c r) → ∃ res : List S37 × Bool, okDependS res.1 ∧ Ev (fun k => spec_CoverOf.l4 k c (R.map dep) (i : Int) (n : Int) (i : Int) L (L.length : Int) (j : Int)) res ∧ Ev (fun k => impl_CoverOf.l3 k R (i : Int) (n : Int) (i : Int) L (L.length : Int) (j : Int)) res) ?_ ?_
  · exact loop 0 (Nat.zero_le _)
  · intro R hR h
    obtain ⟨res, k0, k1, k2⟩ := next R hR h
    refine ⟨res, k0, Ev.succ ?_, Ev.succ ?_⟩
    · simp only [spec_CoverOf.l4]
      rw [wrap_add (a := (i : Int)) (by omega) (by omega)]
      exact Ev.neg (by omega) k1
    · simp only [impl_CoverOf.l3]
      rw [wrap_add (a := (i : Int)) (by omega) (by omega)]
      exact Ev.neg (by omega) k2
  · intro j hj ih R hR h
    have hs : ∀ r ∈ R, ruleSet r := fun r hr => (h r hr).1
    have hiR : i < R.length := by omega
    obtain ⟨kl, kh⟩ := hL L[j] (List.getElem_mem hj)
    have hRi := h _ (List.getElem_mem hiR)
    obtain ⟨h0, h1⟩ := hRi.1
    obtain ⟨m1, m2⟩ := minus_list h0 kl kh
    have e1 := implS_ev R c (by omega) h hc (minusS R[i].f0 (bitS L[j])) R[i].f1 m1 h1
    have e2 := implI_ev R (by omega) hs (minusS R[i].f0 (bitS L[j])) R[i].f1 m1 h1
    have l6 := setL_len R[i].f0
    have hset : (R.map dep).set (i : Int).toNat ⟨setL (minusS R[i].f0 (bitS L[j])), (dep R[i]).f1⟩ = (R.set i ⟨minusS R[i].f0 (bitS L[j]), R[i].f1⟩).map dep := by
      rw [show (i : Int).toNat = i by omega, List.map_set]; rfl
    have goS : ∀ {res : List S37 × Bool}, Ev (fun k => if hasB (cloI R (minusS R[i].f0 (bitS L[j]))) R[i].f1 = true then spec_CoverOf.l4 k c ((R.set i ⟨minusS R[i].f0 (bitS L[j]), R[i].f1⟩).map dep) (i : Int) (n : Int) (i : Int) L (L.length : Int) ((j + 1 : Nat) : Int) else spec_CoverOf.l4 k c (R.map dep) (i : Int) (n : Int) (i : Int) L (L.length : Int) ((j + 1 : Nat) : Int)) res → Ev (fun k => spec_CoverOf.l4 k c (R.map dep) (i : Int) (n : Int) (i : Int) L (L.length : Int) (j : Int)) res := by
      intro res hr
      refine Ev.succ ?_
      simp only [spec_CoverOf.l4]
      rw [rdDep hiR, rd_nat hj]
      refine Ev.pos (by omega) (Ev.pos (by omega) (Ev.pos (by omega) (Ev.pos (by omega) (Ev.pos (by simp; omega) ?_))))
      refine less_ev c L[j] (R.map dep) i n L (dep R[i]).f0 _ _ l6 (Ev.succ ?_)
      simp only [spec_CoverOf.l5]
      rw [rdDep hiR, wrap_add (a := (j : Int)) (by omega) (by omega)]
      refine Ev.neg (by omega) (Ev.pos (by omega) (Ev.pos (by simp; omega) ?_))
      rw [show (dep R[i]).f0.filter (fun x => !(x == L[j])) = setL (minusS R[i].f0 (bitS L[j])) from m2.symm, hset]
      exact Ev.bind e1 hr
    have goI : ∀ {res : List S37 × Bool}, Ev (fun k => if hasB (cloI R (minusS R[i].f0 (bitS L[j]))) R[i].f1 = true then impl_CoverOf.l3 k (R.set i ⟨minusS R[i].f0 (bitS L[j]), R[i].f1⟩) (i : Int) (n : Int) (i : Int) L (L.length : Int) ((j + 1 : Nat) : Int) else impl_CoverOf.l3 k R (i : Int) (n : Int) (i : Int) L (L.length : Int) ((j + 1 : Nat) : Int)) res → Ev (fun k => impl_CoverOf.l3 k R (i : Int) (n : Int) (i : Int) L (L.length : Int) (j : Int)) res := by
      intro res hr
      refine Ev.succ ?_
      simp only [impl_CoverOf.l3]
      rw [rdR hiR, rd_nat hj, wrap_add (a := (j : Int)) (by omega) (by omega), show (i : Int).toNat = i by omega]
      exact Ev.pos (by omega) (Ev.pos (by omega) (Ev.pos (by omega) (Ev.pos (by omega) (Ev.pos (by omega) (Ev.pos kl (Ev.bind e2 hr))))))
    cases hb : hasB (cloI R (minusS R[i].f0 (bitS L[j]))) R[i].f1 with
    | true =>
      obtain ⟨res, k0, k1, k2⟩ := ih (R.set i ⟨minusS R[i].f0 (bitS L[j]), R[i].f1⟩) (by simpa using hR) (okR_set h (okR_cut hRi hc kl kh))
      exact ⟨res, k0, goS (Ev.pos hb k1), goI (Ev.pos hb k2)⟩
    | false =>
      obtain ⟨res, k0, k1, k2⟩ := ih R hR h
      exact ⟨res, k0, goS (Ev.neg (by rw [hb]; simp) k1), goI (Ev.neg (by rw [hb]; simp) k2)⟩
theorem stage2 (c : Int) (hc1 : 1 ≤ c) (hc : c ≤ 6) (n : Nat) (hn : n ≤ 60) : ∀ R : List S53, R.length = n → (∀ r ∈ R, okR c r) →
    ∃ res : List S37 × Bool, okDependS res.1 ∧ Ev (fun k => spec_CoverOf.l3 k c (R.map dep) (n : Int) 0) res ∧ Ev (fun k => impl_CoverOf.l2 k R (n : Int) 0) res := by
  have loop := loop_up (n := n) (P := fun i => ∀ R : List S53, R.length = n → (∀ r ∈ R, okR c r) → ∃ res : List S37 × Bool, okDependS res.1 ∧ Ev (fun k => spec_CoverOf.l3 k c (R.map dep) (n : Int) (i : Int)) res ∧ Ev (fun k => impl_CoverOf.l2 k R (n : Int) (i : Int)) res) ?_ ?_
  · exact loop 0 (Nat.zero_le _)
  · intro R hR h
    obtain ⟨res, k0, k1, k2⟩ := stage3 c hc1 hc R.length R 0 (by omega) (by omega) h
    refine ⟨res, k0, Ev.succ ?_, Ev.succ ?_⟩
    · simp only [spec_CoverOf.l3]
      exact Ev.neg (by omega) k1
    · simp only [impl_CoverOf.l2]
      exact Ev.neg (by omega) k2
  · intro i hi ih R hR h
    have hiR : i < R.length := by omega
    obtain ⟨h0, h1⟩ := (h _ (List.getElem_mem hiR)).1
    have l6 := setL_len R[i].f0
    obtain ⟨res, k0, k1, k2⟩ := stage2in c hc1 hc n i (setL R[i].f0) (fun x hx => setL_mem hx) l6 hi hn ih R hR h
    refine ⟨res, k0, Ev.succ ?_, Ev.succ ?_⟩
    · simp only [spec_CoverOf.l3]
      rw [rdDep hiR]
      refine Ev.pos (by omega) (Ev.some_bind (Ev.pos (by omega) (Ev.pos (by simp; omega) (Ev.pos ?_ (Ev.some_bind ?_)))))
      · show ([] : List Int).length + (setL R[i].f0).length < _
        simp; omega
      · exact k1
    · simp only [impl_CoverOf.l2]
      rw [rdR hiR]
      exact Ev.pos (by omega) (Ev.pos (by omega) (Ev.pos (by omega) (Ev.bind (setL_ev _ h0.1 h0.2) k2)))
/-! the first stage: a rule for each column, once -/
def has1 (R : List S53) (a b : Int) : Bool := R.any fun x => (a == x.f0 && b == x.f1)
theorem contains_ev (R : List S53) (hR : R.length ≤ 1000) (a b : Int) : Ev (fun k => impl_rule_26.f k R a b) (has1 R a b) := by
  have loop := loop_up (n := R.length) (P := fun i => ∃ t : Int, Ev (fun k => impl_rule_52.l0 k R (R.length : Int) (i : Int) a b) t ∧ decide (t ≥ 0) = has1 (R.drop i) a b) ?_ ?_
  · obtain ⟨t, h1, h2⟩ := loop 0 (Nat.zero_le _)
    unfold impl_rule_26.f impl_rule_52.f
    rw [List.drop_zero] at h2
    exact Ev.bind h1 (Ev.const (by rw [h2]))
  · refine ⟨-1, Ev.succ ?_, by simp [has1]⟩
    simp only [impl_rule_52.l0]
    exact Ev.neg (by omega) (Ev.const rfl)
  · intro i hi ih
    obtain ⟨t, h1, h2⟩ := ih
    have hd : has1 (R.drop i) a b = ((a == R[i].f0 && b == R[i].f1) || has1 (R.drop (i + 1)) a b) := by
      unfold has1
      rw [List.drop_eq_getElem_cons hi, List.any_cons]
    cases e : (a == R[i].f0 && b == R[i].f1) with
    | true =>
      refine ⟨(i : Int), Ev.succ ?_, ?_⟩
      · simp only [impl_rule_52.l0]
        rw [rdR hi]
        exact Ev.pos (by omega) (Ev.pos (by omega) (Ev.pos (by omega) (Ev.pos e (Ev.const rfl))))
      · rw [hd, e, Bool.true_or]
        exact decide_eq_true (by omega)
    | false =>
      refine ⟨t, Ev.succ ?_, ?_⟩
      · simp only [impl_rule_52.l0]
        rw [rdR hi, wrap_add (by omega) (by omega)]
        exact Ev.pos (by omega) (Ev.pos (by omega) (Ev.pos (by omega) (Ev.neg (by rw [e]; simp) h1)))
      · rw [hd, e, Bool.false_or, h2]
theorem same_ev (a b : Int) (ha : isSet a) (hb : isSet b) : Ev (fun k => spec_l7Same.f k (setL a) (setL b)) (b == a) := by
  have l1 := setL_len a
  have l2 := setL_len b
  unfold spec_l7Same.f
  by_cases hl : ((setL a).length : Int) = ((setL b).length : Int)
  · refine Ev.pos hl (Ev.bind (l7All_ev (setL a) (setL b) (by omega) (by omega)) (Ev.const ?_))
    rw [← hasB_iff ha hb]
    congr 1
    rw [Bool.eq_iff_iff, mem_has ha hb, beq_iff_eq]
    constructor
    · intro h
      exact ((sub_len ha hb h).2.1 (by omega)).symm
    · rintro rfl x hx
      exact hx
  · refine Ev.neg hl (Ev.const ?_)
    congr 1
    rw [Bool.eq_iff_iff, beq_iff_eq]
    constructor
    · intro h; cases h
    · rintro rfl; exact absurd rfl hl
theorem have_ev (c kk s : Int) (R : List S53) (hR : R.length ≤ 60) (h : ∀ r ∈ R, okR c r) (hs : isSet s) (k0 : 0 ≤ kk) (k5 : kk ≤ 5) (l : List S37) (n i : Int) (T T' : List Int) (tl j : Int) {res : List S37 × Bool} :
    Ev (fun k => spec_CoverOf.l2 k c (R.map dep) kk (has1 R s (bitS kk)) l n i T tl j (R.map dep) ((R.map dep).length : Int) ((R.map dep).length : Int) (setL s) T') res →
    Ev (fun k => spec_CoverOf.l2 k c (R.map dep) kk false l n i T tl j (R.map dep) ((R.map dep).length : Int) 0 (setL s) T') res := by
  intro hend
  have loop := loop_up (n := R.length) (P := fun q => ∀ b : Bool, (b || has1 (R.drop q) s (bitS kk)) = has1 R s (bitS kk) → Ev (fun k => spec_CoverOf.l2 k c (R.map dep) kk b l n i T tl j (R.map dep) ((R.map dep).length : Int) (q : Int) (setL s) T') res) ?_ ?_
  · exact loop 0 (Nat.zero_le _) false (by simp)
  · intro b hb
    rw [List.drop_length, show has1 [] s (bitS kk) = false from rfl, Bool.or_false] at hb
    subst hb
    rw [List.length_map] at hend ⊢
    exact hend
  · intro q hq ih b hb
    have hd : has1 (R.drop q) s (bitS kk) = ((s == R[q].f0 && bitS kk == R[q].f1) || has1 (R.drop (q + 1)) s (bitS kk)) := by
      unfold has1
      rw [List.drop_eq_getElem_cons hq, List.any_cons]
    rw [hd] at hb
    refine Ev.succ ?_
    simp only [spec_CoverOf.l2]
    rw [rdDep hq, wrap_add (a := (q : Int)) (by omega) (by omega)]
    refine Ev.pos (by simp; omega) (Ev.pos (by omega) (Ev.pos (by simp; omega) ?_))
    cases b with
    | true =>
      exact Ev.pos rfl (ih true (by rw [← hb]; simp))
    | false =>
      rw [Bool.false_or] at hb
      obtain ⟨⟨r0, r1⟩, _, k', hk⟩ := h _ (List.getElem_mem hq)
      obtain ⟨b1, b2⟩ := bitS_ok k0 k5
      have ek : (bitS kk == R[q].f1) = decide (k' = kk) := by
        rw [Bool.eq_iff_iff, beq_iff_eq, decide_eq_true_iff]
        constructor
        · intro e
          rw [← e, b2] at hk
          simpa using hk.symm
        · rintro rfl
          exact setL_inj b1 r1 (by rw [b2, hk])
      refine Ev.neg (by simp) (Ev.pos ?_ ?_)
      · show (0 : Int) < ((setL R[q].f1).length : Int)
        rw [hk]; simp
      rw [show rd (dep R[q]).f1 0 = k' by show rd (setL R[q].f1) 0 = k'; rw [hk]; rfl]
      by_cases e : k' = kk
      · refine Ev.pos e (Ev.bind (same_ev R[q].f0 s r0 hs) (ih _ ?_))
        rw [← hb, ek, decide_eq_true e, Bool.and_true]
      · refine Ev.neg e (ih false ?_)
        rw [← hb, ek, decide_eq_false e, Bool.and_false]
theorem stage1in (c : Int) (hc : c ≤ 6) (l : List S37) (hl : l.length ≤ 10) (hok : ∀ d ∈ l, depOk c d) (i : Nat) (hi : i < l.length)
    (next : ∀ R : List S53, R.length ≤ 6 * (i + 1) → (∀ r ∈ R, okR c r) → ∃ res : List S37 × Bool, okDependS res.1 ∧ Ev (fun k => spec_CoverOf.l0 k c (R.map dep) l (l.length : Int) ((i + 1 : Nat) : Int)) res ∧ Ev (fun k => impl_CoverOf.l0 k R (rulesI l) ((rulesI l).length : Int) ((i + 1 : Nat) : Int)) res) :
    ∀ R : List S53, R.length ≤ 6 * i → (∀ r ∈ R, okR c r) → ∃ res : List S37 × Bool, okDependS res.1 ∧ Ev (fun k => spec_CoverOf.l1 k c (R.map dep) l (l.length : Int) (i : Int) l[i].f1 (l[i].f1.length : Int) 0 l[i].f0 l[i].f1) res ∧ Ev (fun k => impl_CoverOf.l1 k R (rulesI l) ((rulesI l).length : Int) (i : Int) l[i].f1 (l[i].f1.length : Int) 0 (setI l[i].f0) (setI l[i].f1)) res := by
  have hd := hok _ (List.getElem_mem hi)
  have t6 := ris_len hd.2 hc
  obtain ⟨s1, s2⟩ := setI_ok hd.1 hc
  have f6 := ris_len hd.1 hc
  have loop := loop_up (n := l[i].f1.length) (P := fun j => ∀ R : List S53, R.length ≤ 6 * i + j → (∀ r ∈ R, okR c r) → ∃ res : List S37 × Bool, okDependS res.1 ∧ Ev (fun k => spec_CoverOf.l1 k c (R.map dep) l (l.length : Int) (i : Int) l[i].f1 (l[i].f1.length : Int) (j : Int) l[i].f0 l[i].f1) res ∧ Ev (fun k => impl_CoverOf.l1 k R (rulesI l) ((rulesI l).length : Int) (i : Int) l[i].f1 (l[i].f1.length : Int) (j : Int) (setI l[i].f0) (setI l[i].f1)) res) ?_ ?_
  · exact loop 0 (Nat.zero_le _)
  · intro R hR h
    obtain ⟨res, k0, k1, k2⟩ := next R (by omega) h
    refine ⟨res, k0, Ev.succ ?_, Ev.succ ?_⟩
    · simp only [spec_CoverOf.l1]
      rw [wrap_add (a := (i : Int)) (by omega) (by omega)]
      exact Ev.neg (by omega) k1
    · simp only [impl_CoverOf.l1]
      rw [wrap_add (a := (i : Int)) (by omega) (by omega)]
      exact Ev.neg (by omega) k2
  · intro j hj ih R hR h
    obtain ⟨y0, yc⟩ := ris_mem hd.2 _ (List.getElem_mem hj)
    obtain ⟨b1, b2⟩ := bitS_ok y0 (by omega : l[i].f1[j] ≤ 5)
    have hnew : okR c ⟨setI l[i].f0, bitS l[i].f1[j]⟩ := by
      refine ⟨⟨s1, b1⟩, ⟨?_, ?_⟩, _, b2⟩
      · show ris (setL (setI l[i].f0)) c
        rw [s2]; exact hd.1
      · show ris (setL (bitS l[i].f1[j])) c
        rw [b2]
        intro q hq
        have : q = 0 := by simpa using hq
        subst this
        exact ⟨y0, yc, fun h => absurd h (Nat.lt_irrefl _)⟩
    have hdn : dep ⟨setI l[i].f0, bitS l[i].f1[j]⟩ = ⟨l[i].f0, [l[i].f1[j]]⟩ := by
      unfold dep
      rw [s2, b2]
    have goS : ∀ {res : List S37 × Bool}, Ev (fun k => if has1 R (setI l[i].f0) (bitS l[i].f1[j]) = true then spec_CoverOf.l1 k c (R.map dep) l (l.length : Int) (i : Int) l[i].f1 (l[i].f1.length : Int) ((j + 1 : Nat) : Int) l[i].f0 l[i].f1 else spec_CoverOf.l1 k c ((R ++ [(⟨setI l[i].f0, bitS l[i].f1[j]⟩ : S53)]).map dep) l (l.length : Int) (i : Int) l[i].f1 (l[i].f1.length : Int) ((j + 1 : Nat) : Int) l[i].f0 l[i].f1) res → Ev (fun k => spec_CoverOf.l1 k c (R.map dep) l (l.length : Int) (i : Int) l[i].f1 (l[i].f1.length : Int) (j : Int) l[i].f0 l[i].f1) res := by
      intro res hr
      refine Ev.succ ?_
      simp only [spec_CoverOf.l1]
      rw [rd_nat hj]
      refine Ev.pos (by omega) (Ev.pos (by omega) (Ev.pos (by omega) ?_))
      have := have_ev c l[i].f1[j] (setI l[i].f0) R (by omega) h s1 y0 (by omega) l (l.length : Int) (i : Int) l[i].f1 l[i].f1 (l[i].f1.length : Int) (j : Int) (res := res)
      rw [s2] at this
      refine this (Ev.succ ?_)
      simp only [spec_CoverOf.l2]
      rw [wrap_add (a := (j : Int)) (by omega) (by omega)]
      refine Ev.neg (by omega) ?_
      cases hb : has1 R (setI l[i].f0) (bitS l[i].f1[j]) with
      | true =>
        rw [hb] at hr
        exact Ev.pos rfl (Ev.congr (fun _ => (if_pos rfl).symm) hr)
      | false =>
        rw [hb] at hr
        refine Ev.neg (by simp) (Ev.some_bind (Ev.pos (by simp; omega) (Ev.pos (by simp; omega) ?_)))
        rw [List.map_append, List.map_cons, List.map_nil, hdn] at hr
        exact Ev.congr (fun _ => (if_neg (by simp)).symm) hr
    have goI : ∀ {res : List S37 × Bool}, Ev (fun k => if has1 R (setI l[i].f0) (bitS l[i].f1[j]) = true then impl_CoverOf.l1 k R (rulesI l) ((rulesI l).length : Int) (i : Int) l[i].f1 (l[i].f1.length : Int) ((j + 1 : Nat) : Int) (setI l[i].f0) (setI l[i].f1) else impl_CoverOf.l1 k (R ++ [(⟨setI l[i].f0, bitS l[i].f1[j]⟩ : S53)]) (rulesI l) ((rulesI l).length : Int) (i : Int) l[i].f1 (l[i].f1.length : Int) ((j + 1 : Nat) : Int) (setI l[i].f0) (setI l[i].f1)) res → Ev (fun k => impl_CoverOf.l1 k R (rulesI l) ((rulesI l).length : Int) (i : Int) l[i].f1 (l[i].f1.length : Int) (j : Int) (setI l[i].f0) (setI l[i].f1)) res := by
      intro res hr
      refine Ev.succ ?_
      simp only [impl_CoverOf.l1]
      rw [rd_nat hj, wrap_add (a := (j : Int)) (by omega) (by omega)]
      refine Ev.pos (by omega) (Ev.pos (by omega) (Ev.pos (by omega) (Ev.pos y0 (Ev.bind (contains_ev R (by omega) (setI l[i].f0) (bitS l[i].f1[j])) ?_))))
      cases hb : has1 R (setI l[i].f0) (bitS l[i].f1[j]) with
      | true =>
        rw [hb] at hr
        exact Ev.pos rfl (Ev.congr (fun _ => (if_pos rfl).symm) hr)
      | false =>
        rw [hb] at hr
        exact Ev.neg (by simp) (Ev.pos (by omega) (Ev.congr (fun _ => (if_neg (by simp)).symm) hr))
    cases hb : has1 R (setI l[i].f0) (bitS l[i].f1[j]) with
    | true =>
      obtain ⟨res, k0, k1, k2⟩ := ih R (by omega) h
      exact ⟨res, k0, goS (Ev.pos hb k1), goI (Ev.pos hb k2)⟩
    | false =>
      obtain ⟨res, k0, k1, k2⟩ := ih (R ++ [(⟨setI l[i].f0, bitS l[i].f1[j]⟩ : S53)]) (by simp; omega) (fun x hx => by
        rcases List.mem_append.1 hx with h2 | h2
        · exact h x h2
        · rw [List.mem_singleton.1 h2]; exact hnew)
      exact ⟨res, k0, goS (Ev.neg (by rw [hb]; simp) k1), goI (Ev.neg (by rw [hb]; simp) k2)⟩
theorem stage1 (c : Int) (hc1 : 1 ≤ c) (hc : c ≤ 6) (l : List S37) (hl : l.length ≤ 10) (hok : ∀ d ∈ l, depOk c d) :
    ∃ res : List S37 × Bool, okDependS res.1 ∧ Ev (fun k => spec_CoverOf.l0 k c ([] : List S37) l (l.length : Int) 0) res ∧ Ev (fun k => impl_CoverOf.l0 k ([] : List S53) (rulesI l) ((rulesI l).length : Int) 0) res := by
  have hrl : (rulesI l).length = l.length := by simp [rulesI]
  have loop := loop_up (n := l.length) (P := fun i => ∀ R : List S53, R.length ≤ 6 * i → (∀ r ∈ R, okR c r) → ∃ res : List S37 × Bool, okDependS res.1 ∧ Ev (fun k => spec_CoverOf.l0 k c (R.map dep) l (l.length : Int) (i : Int)) res ∧ Ev (fun k => impl_CoverOf.l0 k R (rulesI l) ((rulesI l).length : Int) (i : Int)) res) ?_ ?_
  · exact loop 0 (Nat.zero_le _) [] (by simp) (fun r hr => by cases hr)
  · intro R hR h
    obtain ⟨res, k0, k1, k2⟩ := stage2 c hc1 hc R.length (by omega) R rfl h
    refine ⟨res, k0, Ev.succ ?_, Ev.succ ?_⟩
    · simp only [spec_CoverOf.l0]
      refine Ev.neg (by omega) ?_
      rw [List.length_map]
      exact k1
    · simp only [impl_CoverOf.l0]
      exact Ev.neg (by omega) k2
  · intro i hi ih R hR h
    have hd := hok _ (List.getElem_mem hi)
    have hi2 : i < (rulesI l).length := by omega
    have er : (rulesI l)[i] = ⟨setI l[i].f0, setI l[i].f1⟩ := by simp [rulesI, ruleI]
    obtain ⟨s1, s2⟩ := setI_ok hd.2 hc
    obtain ⟨res, k0, k1, k2⟩ := stage1in c hc l hl hok i hi ih R hR h
    refine ⟨res, k0, Ev.succ ?_, Ev.succ ?_⟩
    · simp only [spec_CoverOf.l0]
      rw [rdD hi]
      exact Ev.pos (by omega) (Ev.pos (by omega) (Ev.pos (by omega) k1))
    · simp only [impl_CoverOf.l0]
      rw [rdR hi2, er]
      refine Ev.pos (by omega) (Ev.pos (by omega) (Ev.pos (by omega) (Ev.bind (setL_ev _ s1.1 s1.2) ?_)))
      rw [s2]
      exact k2
theorem both (l : List S37) (c : Int) (hl : shortD l) : ∃ r : List S37 × Bool, okDependS r.1 ∧ Ev (fun k => spec_CoverOf.f k l c) r ∧ Ev (fun k => impl_CoverOf.f k l c) r := by
  unfold spec_CoverOf.f impl_CoverOf.f
  by_cases g : depsOk l c
  case neg =>
    exact ⟨([], false), ⟨⟨by simp, by simp⟩, by simp⟩, Ev.bind (specGood_ev l c hl) (Ev.neg (by rw [tell_no g]; simp) (Ev.const rfl)), Ev.bind (implGood_ev l c hl) (Ev.neg (by rw [tell_no g]; simp) (Ev.const rfl))⟩
  have g' := g
  obtain ⟨g1, g2, g3, g4⟩ := g
  obtain ⟨res, k0, k1, k2⟩ := stage1 c g2 g3 l g4 g1
  exact ⟨res, k0, Ev.bind (specGood_ev l c hl) (Ev.pos (tell_yes g') k1), Ev.bind (implGood_ev l c hl) (Ev.pos (tell_yes g') (Ev.bind (rulesOf_ev l c (by omega) g1 g3) k2))⟩
theorem FnExactCoverOf : laws_FnExactCoverOf.Pure := by
  intro l0 c w0 w1 hz
  obtain ⟨r, h0, h1, h2⟩ := both (cvDependS l0) c (okDependS_cv hz).1
  obtain ⟨K1, k1⟩ := h1
  obtain ⟨K2, k2⟩ := h2
  exact ⟨K1 + K2, r, k1 _ (by omega), k2 _ (by omega), h0⟩
end Go.Proofs.Ytadfmbmnnekamaa.Pure
