/- What SerialOrder's law comes to, in numbers and lists alone: it is true at every list of steps. -/
import Derived.Test.YtinjjpakpngaoaaPFnExactSerialOrderx6
import Derived.Test.YtinjjpakpngaoaaEv
namespace Go.Proofs.Ytinjjpakpngaoaa.Pure
open Go.RowKit Go.Proofs.Ytinjjpakpngaoaa.PFnExactSerialOrder Go.Proofs.YtinjjpakpngaoaaW.PrintWords Go.Proofs.YtinjjpakpngaoaaW.PrintLast Go.Proofs.YtinjjpakpngaoaaW.PrintMore
set_option linter.unusedVariables false
set_option linter.unusedSimpArgs false

def cv (x : S93) : S84 := ⟨x.f0, x.f1, x.f2⟩
theorem toStepS_ev (l : List S93) (hl : l.length ≤ 1048576) : Ev (fun k => laws_toStepS.f k l) (l.map cv) := by
  have loop := loop_up (n := l.length) (P := fun i => ∀ x : List S84, x.length = l.length → x.take i = (l.take i).map cv → Ev (fun k => laws_toStepS.l0 k l x (i : Int)) (l.map cv)) ?_ ?_
  · unfold laws_toStepS.f
    refine Ev.pos (by omega) (Ev.pos (by omega) ?_)
    exact loop 0 (Nat.zero_le _) (List.replicate _ z84) (by simp) (by simp)
  · intro x hx ht
    refine Ev.succ ?_
    simp only [laws_toStepS.l0]
    refine Ev.neg (by omega) (Ev.const ?_)
    rw [List.take_of_length_le (by omega), List.take_of_length_le (by omega)] at ht
    rw [ht]
  · intro i hi ih x hx ht
    refine Ev.succ ?_
    simp only [laws_toStepS.l0, laws_toStep.f, Option.bind_some]
    refine Ev.pos (by omega) (Ev.pos (by omega) (Ev.pos (by omega) ?_))
    rw [wrap_add (by omega) (by omega)]
    refine ih _ (by simp [hx]) ?_
    rw [List.take_succ_eq_append_getElem (by simp [hx]; omega), List.take_succ_eq_append_getElem hi, List.map_append]
    simp only [Int.toNat_natCast, List.getElem_set_self]
    rw [List.take_set_of_le (by omega), ht]
    simp [rd_T93, hi, cv]
theorem eqIntS_ev (l : List Int) (hl : l.length ≤ 1048576) : Ev (fun k => laws_eqIntS.f k l l) true := by
  have loop := loop_up (n := l.length) (P := fun i => Ev (fun k => laws_eqIntS.l0 k l l (i : Int)) true) ?_ ?_
  · unfold laws_eqIntS.f
    exact Ev.pos rfl (loop 0 (Nat.zero_le _))
  · refine Ev.succ ?_
    simp only [laws_eqIntS.l0]
    exact Ev.neg (by omega) (Ev.const rfl)
  · intro i hi ih
    refine Ev.succ ?_
    simp only [laws_eqIntS.l0]
    refine Ev.pos (by omega) (Ev.pos (by omega) (Ev.pos (by omega) (Ev.pos trivial ?_)))
    rw [wrap_add (by omega) (by omega)]
    exact ih
theorem eqStepS_ev (l : List S84) (hl : l.length ≤ 1048576) : Ev (fun k => laws_eqStepS.f k l l) true := by
  have loop := loop_up (n := l.length) (P := fun i => Ev (fun k => laws_eqStepS.l0 k l l (i : Int)) true) ?_ ?_
  · unfold laws_eqStepS.f
    exact Ev.pos rfl (loop 0 (Nat.zero_le _))
  · refine Ev.succ ?_
    simp only [laws_eqStepS.l0]
    exact Ev.neg (by omega) (Ev.const rfl)
  · intro i hi ih
    refine Ev.succ ?_
    simp only [laws_eqStepS.l0, laws_eqStep.f, if_true, Option.bind_some]
    refine Ev.pos (by omega) (Ev.pos (by omega) (Ev.pos (by omega) ?_))
    rw [wrap_add (by omega) (by omega)]
    exact ih
theorem markStepS_ev (l : List S84) (hl : l.length ≤ 1048576) : EvX (fun k => laws_markStepS.f k l 1) (fun r => r.1 = 1 + 3 * (l.length : Int)) := by
  have loop := loop_up (n := l.length) (P := fun i => ∀ x : List S84, x.length = l.length → EvX (fun k => laws_markStepS.l0 k x (1 + 3 * (i : Int)) (i : Int)) (fun r => r.1 = 1 + 3 * (l.length : Int))) ?_ ?_
  · unfold laws_markStepS.f
    exact loop 0 (Nat.zero_le _) l rfl
  · intro x hx
    refine EvX.succ ?_
    simp only [laws_markStepS.l0]
    exact EvX.neg (by omega) (EvX.const rfl rfl)
  · intro i hi ih x hx
    have h1 : wrap64 (wrap64 (wrap64 (1 + 3 * (i : Int) + 1) + 1) + 1) = 1 + 3 * ((i + 1 : Nat) : Int) := by unfold wrap64; omega
    have h2 : wrap64 ((i : Int) + 1) = ((i + 1 : Nat) : Int) := by unfold wrap64; omega
    refine EvX.succ ?_
    simp only [laws_markStepS.l0, Option.bind_some]
    refine EvX.pos (by omega) (EvX.pos (by omega) ?_)
    rw [h1, h2]
    exact ih _ (by simp [hx])
theorem markIntS_ev (l : List Int) (hl : l.length ≤ 1048576) : Ev (fun k => laws_markIntS.f k l 1) (1 + (l.length : Int), (List.range l.length).map (fun (j : Nat) => 1 + (j : Int))) := by
  have loop := loop_up (n := l.length) (P := fun i => ∀ x : List Int, x.length = l.length → x.take i = (List.range i).map (fun (j : Nat) => 1 + (j : Int)) → Ev (fun k => laws_markIntS.l0 k x (1 + (i : Int)) (i : Int)) (1 + (l.length : Int), (List.range l.length).map (fun (j : Nat) => 1 + (j : Int)))) ?_ ?_
  · unfold laws_markIntS.f
    exact loop 0 (Nat.zero_le _) l rfl (by simp)
  · intro x hx ht
    refine Ev.succ ?_
    simp only [laws_markIntS.l0]
    refine Ev.neg (by omega) (Ev.const ?_)
    rw [List.take_of_length_le (by omega)] at ht
    rw [ht]
  · intro i hi ih x hx ht
    have h2 : wrap64 ((i : Int) + 1) = ((i + 1 : Nat) : Int) := by unfold wrap64; omega
    have h1 : wrap64 (1 + (i : Int) + 1) = 1 + ((i + 1 : Nat) : Int) := by unfold wrap64; omega
    refine Ev.succ ?_
    simp only [laws_markIntS.l0]
    refine Ev.pos (by omega) (Ev.pos (by omega) ?_)
    rw [h1, h2]
    refine ih _ (by simp [hx]) ?_
    rw [List.take_succ_eq_append_getElem (by simp [hx]; omega), List.range_succ, List.map_append]
    simp only [Int.toNat_natCast, List.getElem_set_self]
    rw [List.take_set_of_le (by omega), ht]
    rfl
theorem heldIntS_ev (n : Nat) (hn : n ≤ 1048576) : Ev (fun k => laws_heldIntS.f k ((List.range n).map (fun (j : Nat) => 1 + (j : Int))) 1) (1 + (n : Int)) := by
  have loop := loop_up (n := n) (P := fun i => Ev (fun k => laws_heldIntS.l0 k ((List.range n).map (fun (j : Nat) => 1 + (j : Int))) (1 + (i : Int)) (i : Int)) (1 + (n : Int))) ?_ ?_
  · unfold laws_heldIntS.f
    exact loop 0 (Nat.zero_le _)
  · refine Ev.succ ?_
    simp only [laws_heldIntS.l0]
    exact Ev.neg (by simp) (Ev.const rfl)
  · intro i hi ih
    have h2 : wrap64 ((i : Int) + 1) = ((i + 1 : Nat) : Int) := by unfold wrap64; omega
    have h1 : wrap64 (1 + (i : Int) + 1) = 1 + ((i + 1 : Nat) : Int) := by unfold wrap64; omega
    refine Ev.succ ?_
    simp only [laws_heldIntS.l0]
    refine Ev.pos (by simp; omega) (Ev.pos (by omega) (Ev.pos (by rw [rd_nat (by simpa using hi)]; simp) ?_))
    rw [h1, h2]
    exact ih
/-- What both answer, whatever it is, makes the law true. -/
theorem law_of (l : List S93) (hl : l.length ≤ 1048576) (o : List Int × Bool × Bool) (ho : o.1.length ≤ 1048576) (hs : Ev (fun k => spec_SerialOrder.f k (l.map cv)) o) (hi : Ev (fun k => impl_SerialOrder.f k (l.map cv)) o) :
    EvX (fun k => laws_FnExactSerialOrder.f k l) (fun b => b = true) := by
  obtain ⟨o1, o2, o3⟩ := o
  have hto := toStepS_ev l hl
  have heq := eqIntS_ev o1 ho
  have hm := markIntS_ev o1 ho
  have hh := heldIntS_ev o1.length ho
  have hsz : laws_szStepS.f l 1048576 = some (1048576 - (l.length : Int)) := by
    unfold laws_szStepS.f
    rw [wrap_id (by omega) (by omega), if_neg (by omega)]
  unfold laws_FnExactSerialOrder.f
  simp only [hsz, Option.bind_some]
  refine EvX.neg (by omega) (Ev.bindX hto (Ev.bindX hs (Ev.bindX hto (Ev.bindX hi (Ev.bindX heq (EvX.pos rfl (EvX.neg (by simp) ?_)))))))
  refine EvX.succ ?_
  simp only [laws_FnExactSerialOrder.j0]
  refine EvX.neg (by simp) (Ev.bindX hto (Ev.bindX (eqStepS_ev _ (by simpa using hl)) (EvX.pos rfl (EvX.bind (markStepS_ev _ (by simpa using hl)) fun a ha => ?_))))
  refine EvX.neg (by rw [ha]; omega) (Ev.bindX heq (EvX.pos rfl (EvX.neg (by simp) ?_)))
  refine EvX.succ ?_
  simp only [laws_FnExactSerialOrder.j1]
  refine EvX.neg (by simp) (Ev.bindX hm (Ev.bindX hh (EvX.neg (by omega) (EvX.pos rfl (Ev.bindX hto (Ev.bindX hi (Ev.bindX heq (EvX.pos rfl (EvX.neg (by simp) ?_)))))))))
  refine EvX.succ ?_
  simp only [laws_FnExactSerialOrder.j2]
  exact EvX.neg (by simp) (Ev.bindX hh (EvX.neg (by omega) (EvX.pos rfl (EvX.const rfl rfl))))

/-! ### the specification's small functions -/
theorem l1Has_ev (l : List Int) (x : Int) (hl : l.length ≤ 1048576) : Ev (fun k => spec_l1Has.f k l x) (l.contains x) := by
  have loop := loop_up (n := l.length) (P := fun i => Ev (fun k => spec_l1Has.l0 k x l (l.length : Int) (i : Int)) ((l.drop i).contains x)) ?_ ?_
  · unfold spec_l1Has.f
    exact loop 0 (Nat.zero_le _)
  · refine Ev.succ ?_
    simp only [spec_l1Has.l0]
    exact Ev.neg (by omega) (Ev.const (by simp))
  · intro i hi ih
    refine Ev.succ ?_
    simp only [spec_l1Has.l0]
    refine Ev.pos (by omega) (Ev.pos (by omega) (Ev.pos (by omega) ?_))
    rw [List.drop_eq_getElem_cons hi, List.contains_cons, rd_nat hi, wrap_add (by omega) (by omega)]
    by_cases h : l[i] = x
    · exact Ev.pos h (Ev.const (by simp [h]))
    · have h' : (x == l[i]) = false := by simpa using fun e => h e.symm
      rw [h', Bool.false_or]
      exact Ev.neg h ih
/-- A number put to its place, once. -/
def putL (l : List Int) (n : Int) : List Int := if l.contains n then l else l.take (l.takeWhile (fun x => decide (x < n))).length ++ n :: l.drop (l.takeWhile (fun x => decide (x < n))).length
theorem takeWhile_at (p : Int → Bool) : ∀ (l : List Int) (i : Nat), i ≤ l.length → (∀ j, (h : j < l.length) → j < i → p l[j] = true) → (∀ h : i < l.length, p l[i] = false) → (l.takeWhile p).length = i
  | [], i, hi, _, _ => by simp at hi; simp [hi]
  | a :: l, 0, _, _, h2 => by have := h2 (by simp); simp at this; simp [List.takeWhile_cons, this]
  | a :: l, i + 1, hi, h1, h2 => by
    have h0 := h1 0 (by simp) (by omega)
    simp at h0
    rw [List.takeWhile_cons, h0]
    simp only [if_true, List.length_cons]
    rw [takeWhile_at p l i (by simpa using hi) (fun j h hj => by have := h1 (j + 1) (by simpa using h) (by omega); simpa using this) (fun h => by have := h2 (by simpa using h); simpa using this)]
theorem l7Put_ev (l : List Int) (n : Int) (hl : l.length ≤ 1000) : Ev (fun k => spec_l7Put.f k l n) (putL l n) := by
  unfold spec_l7Put.f
  refine Ev.bind (l1Has_ev l n (by omega)) ?_
  by_cases hc : l.contains n = true
  · rw [putL, if_pos hc]
    exact Ev.pos hc (Ev.const rfl)
  · refine Ev.neg hc ?_
    rw [putL, if_neg hc]
    have done : ∀ i : Nat, i ≤ l.length → (∀ j, (h : j < l.length) → j < i → decide (l[j] < n) = true) → (∀ h : i < l.length, decide (l[i] < n) = false) → l.take (l.takeWhile (fun x => decide (x < n))).length ++ n :: l.drop (l.takeWhile (fun x => decide (x < n))).length = ([] ++ l.take (i : Int).toNat) ++ [n] ++ l.drop (i : Int).toNat := by
      intro i hi h1 h2
      rw [takeWhile_at _ l i hi h1 h2]; simp
    have loop := loop_up (n := l.length) (P := fun i => (∀ j, (h : j < l.length) → j < i → decide (l[j] < n) = true) → Ev (fun k => spec_l7Put.l0 k l n (i : Int)) (l.take (l.takeWhile (fun x => decide (x < n))).length ++ n :: l.drop (l.takeWhile (fun x => decide (x < n))).length)) ?_ ?_
    · exact loop 0 (Nat.zero_le _) (fun j _ h => absurd h (Nat.not_lt_zero _))
    · intro h1
      refine Ev.succ ?_
      rw [done l.length (Nat.le_refl _) h1 (fun h => absurd h (Nat.lt_irrefl _))]
      simp only [spec_l7Put.l0, Option.bind_some]
      refine Ev.neg (by omega) (Ev.pos (by omega) (Ev.pos (by omega) (Ev.pos (by simp; omega) (Ev.pos (by simp; omega) (Ev.pos (by simp; omega) (Ev.const rfl))))))
    · intro i hi ih h1
      refine Ev.succ ?_
      simp only [spec_l7Put.l0, Option.bind_some]
      refine Ev.pos (by omega) (Ev.pos (by omega) ?_)
      rw [rd_nat hi, wrap_add (by omega) (by omega)]
      by_cases h : l[i] < n
      · refine Ev.pos h (ih (fun j hj hji => ?_))
        by_cases e : j = i
        · subst e; simpa using h
        · exact h1 j hj (by omega)
      · refine Ev.neg h ?_
        rw [done i (by omega) h1 (fun _ => by simpa using h)]
        exact Ev.pos (by omega) (Ev.pos (by simp; omega) (Ev.pos (by simp; omega) (Ev.pos (by simp; omega) (Ev.const rfl))))
theorem l11Without_ev (l : List Int) (x : Int) (hl : l.length ≤ 1000) : Ev (fun k => spec_l11Without.f k l x) (l.filter (fun y => y != x)) := by
  have loop := loop_up (n := l.length) (P := fun i => ∀ o : List Int, o.length ≤ i → o ++ (l.drop i).filter (fun y => y != x) = l.filter (fun y => y != x) → Ev (fun k => spec_l11Without.l0 k x o l (l.length : Int) (i : Int)) (l.filter (fun y => y != x))) ?_ ?_
  · unfold spec_l11Without.f
    exact loop 0 (Nat.zero_le _) [] (by simp) (by simp)
  · intro o ho he
    refine Ev.succ ?_
    simp only [spec_l11Without.l0]
    exact Ev.neg (by omega) (Ev.const (by rw [← he]; simp))
  · intro i hi ih o ho he
    refine Ev.succ ?_
    simp only [spec_l11Without.l0]
    refine Ev.pos (by omega) (Ev.pos (by omega) (Ev.pos (by omega) ?_))
    rw [List.drop_eq_getElem_cons hi, List.filter_cons] at he
    rw [rd_nat hi, wrap_add (by omega) (by omega)]
    by_cases h : l[i] = x
    · refine Ev.pos h (ih o (by omega) ?_)
      rwa [if_neg (by simpa using h)] at he
    · refine Ev.neg h (Ev.pos (by omega) (ih _ (by simp; omega) ?_))
      rw [if_pos (by simpa using h)] at he
      rw [← he]; simp
theorem goodSteps_ev (l : List S84) (hl : l.length ≤ 1048576) : Ev (fun k => spec_GoodSteps.f k l) (decide ((l.length : Int) ≤ 40) && l.all stepB) := by
  have loop := loop_up (n := l.length) (P := fun i => Ev (fun k => spec_GoodSteps.l0 k l l (l.length : Int) (i : Int)) (decide ((l.length : Int) ≤ 40) && (l.drop i).all stepB)) ?_ ?_
  · unfold spec_GoodSteps.f
    exact loop 0 (Nat.zero_le _)
  · refine Ev.succ ?_
    simp only [spec_GoodSteps.l0]
    exact Ev.neg (by omega) (Ev.const (by simp))
  · intro i hi ih
    refine Ev.succ ?_
    simp only [spec_GoodSteps.l0, spec_l1In.f]
    refine Ev.pos (by omega) (Ev.pos (by omega) (Ev.pos (by omega) ?_))
    rw [List.drop_eq_getElem_cons hi, List.all_cons, wrap_add (by omega) (by omega)]
    have hr : rd_T84 l (i : Int) = l[i] := by simp [rd_T84, hi]
    rw [hr]
    obtain ⟨a, b, c⟩ := l[i]
    simp only [stepB]
    by_cases h1 : a < 0
    · exact Ev.pos h1 (Ev.const (by simp; omega))
    refine Ev.neg h1 ?_
    by_cases h2 : a ≥ 6
    · exact Ev.pos h2 (Ev.const (by simp; omega))
    refine Ev.neg h2 ?_
    by_cases h3 : c < 0
    · exact Ev.pos h3 (Ev.const (by simp; omega))
    refine Ev.neg h3 ?_
    by_cases h4 : c ≥ 4
    · exact Ev.pos h4 (Ev.const (by simp; omega))
    refine Ev.neg h4 ?_
    by_cases h5 : b ≥ 1
    · simp only [if_pos h5, Option.bind_some]
      by_cases h6 : b ≤ 2
      · refine Ev.pos (by simpa using h6) ?_
        rw [decide_eq_true (show 0 ≤ a ∧ a ≤ 5 ∧ 1 ≤ b ∧ b ≤ 2 ∧ 0 ≤ c ∧ c ≤ 3 by omega), Bool.true_and]
        exact ih
      · exact Ev.neg (by simpa using h6) (Ev.const (by simp; omega))
    · simp only [if_neg h5, Option.bind_some]
      exact Ev.neg (by simp) (Ev.const (by simp; omega))

/-! ### sets as bits and as rising lists -/
def orB (s n : Int) : Int := Go.bits .or .i64 s (shl .i64 1 n)
def minusB (s n : Int) : Int := Go.bits .andNot .i64 s (shl .i64 1 n)
def isSet (s : Int) : Prop := 0 ≤ s ∧ s < 64
theorem fin_set {s : Int} (h : isSet s) : ∃ m : Fin 64, s = (m.val : Int) := ⟨⟨s.toNat, by have := h.1; have := h.2; omega⟩, by have := h.1; simp; omega⟩
theorem fin_num {n : Int} (h0 : 0 ≤ n) (h5 : n ≤ 5) : ∃ m : Fin 6, n = (m.val : Int) := ⟨⟨n.toNat, by omega⟩, by simp; omega⟩
theorem orB_ok {s n : Int} (h : isSet s) (h0 : 0 ≤ n) (h5 : n ≤ 5) : isSet (orB s n) ∧ setL (orB s n) = putL (setL s) n := by
  obtain ⟨a, rfl⟩ := fin_set h
  obtain ⟨b, rfl⟩ := fin_num h0 h5
  have key : ∀ a : Fin 64, ∀ b : Fin 6, (0 ≤ orB (a.val : Int) (b.val : Int) ∧ orB (a.val : Int) (b.val : Int) < 64) ∧ setL (orB (a.val : Int) (b.val : Int)) = putL (setL (a.val : Int)) (b.val : Int) := by decide +kernel
  exact key a b
theorem minusB_ok {s n : Int} (h : isSet s) (h0 : 0 ≤ n) (h5 : n ≤ 5) : isSet (minusB s n) ∧ setL (minusB s n) = (setL s).filter (fun y => y != n) := by
  obtain ⟨a, rfl⟩ := fin_set h
  obtain ⟨b, rfl⟩ := fin_num h0 h5
  have key : ∀ a : Fin 64, ∀ b : Fin 6, (0 ≤ minusB (a.val : Int) (b.val : Int) ∧ minusB (a.val : Int) (b.val : Int) < 64) ∧ setL (minusB (a.val : Int) (b.val : Int)) = (setL (a.val : Int)).filter (fun y => y != (b.val : Int)) := by decide +kernel
  exact key a b
theorem hasB_ok {s n : Int} (h : isSet s) (h0 : 0 ≤ n) (h5 : n ≤ 5) : hasB s (shl .i64 1 n) = (setL s).contains n := by
  obtain ⟨a, rfl⟩ := fin_set h
  obtain ⟨b, rfl⟩ := fin_num h0 h5
  have key : ∀ a : Fin 64, ∀ b : Fin 6, hasB (a.val : Int) (shl .i64 1 (b.val : Int)) = (setL (a.val : Int)).contains (b.val : Int) := by decide +kernel
  exact key a b
theorem setL_nil {s : Int} (h : isSet s) : s = 0 ↔ setL s = [] := by
  obtain ⟨a, rfl⟩ := fin_set h
  have key : ∀ a : Fin 64, (a.val : Int) = 0 ↔ setL (a.val : Int) = [] := by decide +kernel
  exact key a
theorem setL_len (s : Int) : (setL s).length ≤ 6 := by
  unfold setL
  rw [List.length_map]
  exact Nat.le_trans (List.length_filter_le _ _) (by simp)
theorem putL_len (l : List Int) (n : Int) : (putL l n).length ≤ l.length + 1 := by
  unfold putL
  split
  · omega
  · simp; omega

/-! ### who comes ahead of whom, and who there is -/
theorem good_step {x : S84} (h : stepB x = true) : 0 ≤ x.f0 ∧ x.f0 ≤ 5 := by
  simp only [stepB, decide_eq_true_eq] at h
  exact ⟨h.1, h.2.1⟩
def txF (s : Int) (l : List S84) : Int := l.foldl (fun s x => orB s x.f0) s
theorem txF_ok : ∀ (l : List S84) (s : Int), isSet s → (∀ x ∈ l, stepB x = true) → isSet (txF s l) ∧ setL (txF s l) = l.foldl (fun r x => putL r x.f0) (setL s)
  | [], s, hs, _ => ⟨hs, rfl⟩
  | a :: l, s, hs, hg => by
    obtain ⟨h0, h5⟩ := good_step (hg a List.mem_cons_self)
    obtain ⟨k1, k2⟩ := orB_ok hs h0 h5
    obtain ⟨j1, j2⟩ := txF_ok l (orB s a.f0) k1 (fun x hx => hg x (List.mem_cons_of_mem _ hx))
    refine ⟨j1, ?_⟩
    show setL (txF (orB s a.f0) l) = _
    rw [j2, k2]; rfl
theorem txnsOf_ev (l : List S84) (hl : l.length ≤ 1048576) (hg : ∀ x ∈ l, stepB x = true) : Ev (fun k => impl_txnsOf.f k l) (txF 0 l) := by
  have loop := loop_up (n := l.length) (P := fun i => ∀ s : Int, txF s (l.drop i) = txF 0 l → Ev (fun k => impl_txnsOf.l0 k s l (l.length : Int) (i : Int)) (txF 0 l)) ?_ ?_
  · unfold impl_txnsOf.f
    exact loop 0 (Nat.zero_le _) 0 rfl
  · intro s hs
    refine Ev.succ ?_
    simp only [impl_txnsOf.l0]
    exact Ev.neg (by omega) (Ev.const (by rw [← hs]; simp [txF]))
  · intro i hi ih s hs
    refine Ev.succ ?_
    simp only [impl_txnsOf.l0]
    have hr : rd_T84 l (i : Int) = l[i] := by simp [rd_T84, hi]
    rw [hr, wrap_add (by omega) (by omega)]
    refine Ev.pos (by omega) (Ev.pos (by omega) (Ev.pos (by omega) (Ev.pos (good_step (hg _ (List.getElem_mem hi))).1 (ih _ ?_))))
    rw [← hs, List.drop_eq_getElem_cons hi]; rfl
theorem l13Txns_ev (l : List S84) (hl : l.length ≤ 40) : Ev (fun k => spec_l13Txns.f k l) (l.foldl (fun r x => putL r x.f0) []) := by
  have loop := loop_up (n := l.length) (P := fun i => ∀ s : List Int, s.length ≤ i → (l.drop i).foldl (fun r x => putL r x.f0) s = l.foldl (fun r x => putL r x.f0) [] → Ev (fun k => spec_l13Txns.l0 k s l (l.length : Int) (i : Int)) (l.foldl (fun r x => putL r x.f0) [])) ?_ ?_
  · unfold spec_l13Txns.f
    exact loop 0 (Nat.zero_le _) [] (by simp) rfl
  · intro s _ hs
    refine Ev.succ ?_
    simp only [spec_l13Txns.l0]
    exact Ev.neg (by omega) (Ev.const (by rw [← hs]; simp))
  · intro i hi ih s hn hs
    refine Ev.succ ?_
    simp only [spec_l13Txns.l0]
    have hr : rd_T84 l (i : Int) = l[i] := by simp [rd_T84, hi]
    rw [hr, wrap_add (by omega) (by omega)]
    refine Ev.pos (by omega) (Ev.pos (by omega) (Ev.pos (by omega) (Ev.bind (l7Put_ev s _ (by omega)) (ih _ ?_ ?_))))
    · have := putL_len s l[i].f0; omega
    · rw [← hs, List.drop_eq_getElem_cons hi]; rfl
def confS (a : S84) (C : List (List Int)) (b : S84) : List (List Int) := if clashB a b = true then C.set a.f0.toNat (putL (rd_L3 C a.f0) b.f0) else C
def confSF : List S84 → List (List Int) → List (List Int)
  | [], C => C
  | a :: l, C => confSF l (l.foldl (confS a) C)
theorem confS_length (a : S84) (C : List (List Int)) (b : S84) : (confS a C b).length = C.length := by unfold confS; split <;> simp
theorem confS_len (a : S84) : ∀ (l : List S84) (C : List (List Int)), (l.foldl (confS a) C).length = C.length
  | [], _ => rfl
  | b :: l, C => by rw [List.foldl_cons, confS_len a l, confS_length]
def okC (C : List Int) : Prop := C.length = 6 ∧ ∀ s ∈ C, isSet s
theorem rd_ok {C : List Int} (h : okC C) {n : Int} (h0 : 0 ≤ n) (h5 : n ≤ 5) : isSet (rd C n) ∧ rd_L3 (C.map setL) n = setL (rd C n) := by
  have hn : n.toNat < C.length := by rw [h.1]; omega
  have e : rd C n = C[n.toNat] := by simp [rd, hn]
  rw [e]
  exact ⟨h.2 _ (List.getElem_mem hn), by simp [rd_L3, hn]⟩
theorem confPut_ok (a b : S84) (ha : stepB a = true) (hb : stepB b = true) (C : List Int) (h : okC C) : okC (confPut a C b) ∧ (confPut a C b).map setL = confS a (C.map setL) b := by
  obtain ⟨p0, p5⟩ := good_step ha
  obtain ⟨q0, q5⟩ := good_step hb
  unfold confPut confS
  by_cases hc : clashB a b = true
  · rw [if_pos hc, if_pos hc]
    obtain ⟨k1, k2⟩ := rd_ok h p0 p5
    obtain ⟨j1, j2⟩ := orB_ok k1 q0 q5
    refine ⟨⟨by simp [h.1], fun s hs => ?_⟩, ?_⟩
    · rcases List.mem_or_eq_of_mem_set hs with hs | rfl
      · exact h.2 s hs
      · exact j1
    · rw [List.map_set, k2, ← j2]; rfl
  · rw [if_neg hc, if_neg hc]
    exact ⟨h, rfl⟩
theorem conf_row_ok (a : S84) (ha : stepB a = true) : ∀ (l : List S84) (C : List Int), okC C → (∀ x ∈ l, stepB x = true) → okC (l.foldl (confPut a) C) ∧ (l.foldl (confPut a) C).map setL = l.foldl (confS a) (C.map setL)
  | [], C, h, _ => ⟨h, rfl⟩
  | b :: l, C, h, hg => by
    obtain ⟨k1, k2⟩ := confPut_ok a b ha (hg b List.mem_cons_self) C h
    obtain ⟨j1, j2⟩ := conf_row_ok a ha l _ k1 (fun x hx => hg x (List.mem_cons_of_mem _ hx))
    exact ⟨j1, by rw [List.foldl_cons, List.foldl_cons, ← k2]; exact j2⟩
theorem confFrom_ok : ∀ (l : List S84) (C : List Int), okC C → (∀ x ∈ l, stepB x = true) → okC (confFrom l C) ∧ (confFrom l C).map setL = confSF l (C.map setL)
  | [], C, h, _ => ⟨h, rfl⟩
  | a :: l, C, h, hg => by
    have hl : ∀ x ∈ l, stepB x = true := fun x hx => hg x (List.mem_cons_of_mem _ hx)
    obtain ⟨k1, k2⟩ := conf_row_ok a (hg a List.mem_cons_self) l C h hl
    obtain ⟨j1, j2⟩ := confFrom_ok l _ k1 hl
    exact ⟨j1, by rw [confFrom, confSF, ← k2]; exact j2⟩
theorem conf_ok (l : List S84) (hg : ∀ x ∈ l, stepB x = true) : okC (conf l) ∧ (conf l).map setL = confSF l [[], [], [], [], [], []] := by
  have h0 : okC [0, 0, 0, 0, 0, 0] := ⟨rfl, by intro s hs; simp at hs; subst hs; exact ⟨by omega, by omega⟩⟩
  obtain ⟨h1, h2⟩ := confFrom_ok l _ h0 hg
  refine ⟨h1, ?_⟩
  have : ([0, 0, 0, 0, 0, 0] : List Int).map setL = [[], [], [], [], [], []] := by decide +kernel
  rw [this] at h2
  exact h2
theorem clashS_some (a b : S84) : spec_l13Clash.f a.f0 a.f1 a.f2 b.f0 b.f1 b.f2 = some (clashB a b) := clash_some a b
theorem conflicts_ev (l : List S84) (hl : l.length ≤ 40) (hg : ∀ x ∈ l, stepB x = true) : Ev (fun k => spec_l13Conflicts.f k l) ((conf l).map setL) := by
  have inner : ∀ (i : Nat) (a : S84), stepB a = true → ∀ (ys : List S84), ys.length ≤ 40 → (∀ x ∈ ys, stepB x = true) → ∀ R, ∀ j, j ≤ ys.length → ∀ D, okC D →
      Ev (fun k => spec_l13Conflicts.l0 k l (((ys.drop j).foldl (confPut a) D).map setL) l (l.length : Int) (wrap64 ((i : Int) + 1))) R →
      Ev (fun k => spec_l13Conflicts.l1 k l (D.map setL) l (l.length : Int) (i : Int) ys (ys.length : Int) (j : Int) a.f0 a.f1 a.f2) R := by
    intro i a ha ys hy hgy R
    refine loop_up ?_ ?_
    · intro D hD h
      refine Ev.succ ?_
      simp only [spec_l13Conflicts.l1]
      refine Ev.neg (by omega) ?_
      simpa using h
    · intro j hj ih D hD h
      refine Ev.succ ?_
      simp only [spec_l13Conflicts.l1]
      have hr : rd_T84 ys (j : Int) = ys[j] := by simp [rd_T84, hj]
      have hb := hgy _ (List.getElem_mem hj)
      rw [List.drop_eq_getElem_cons hj, List.foldl_cons] at h
      rw [hr, wrap_add (a := (j : Int)) (by omega) (by omega)]
      simp only [clashS_some, Option.bind_some]
      obtain ⟨p0, p5⟩ := good_step ha
      obtain ⟨k1, k2⟩ := confPut_ok a _ ha hb D hD
      refine Ev.pos (by omega) (Ev.pos (by omega) (Ev.pos (by omega) ?_))
      by_cases hc : clashB a ys[j] = true
      · refine Ev.pos hc (Ev.pos p0 (Ev.pos (by simp [hD.1]; omega) ?_))
        rw [(rd_ok hD p0 p5).2]
        refine Ev.bind (l7Put_ev _ _ (by have := setL_len (rd D a.f0); omega)) ?_
        have := ih _ k1 h
        rw [k2] at this
        unfold confS at this
        rw [if_pos hc, (rd_ok hD p0 p5).2] at this
        exact this
      · refine Ev.neg hc ?_
        have hcp : confPut a D ys[j] = D := by rw [confPut, if_neg hc]
        have := ih _ k1 h
        rw [hcp] at this
        exact this
  have loop := loop_up (n := l.length) (P := fun i => ∀ D, okC D → confFrom (l.drop i) D = conf l → Ev (fun k => spec_l13Conflicts.l0 k l (D.map setL) l (l.length : Int) (i : Int)) ((conf l).map setL)) ?_ ?_
  · unfold spec_l13Conflicts.f
    refine Ev.pos (by omega) ?_
    have h0 : okC [0, 0, 0, 0, 0, 0] := ⟨rfl, by intro s hs; simp at hs; subst hs; exact ⟨by omega, by omega⟩⟩
    have := loop 0 (Nat.zero_le _) _ h0 rfl
    rw [show ([0, 0, 0, 0, 0, 0] : List Int).map setL = List.replicate 6 [] from by decide +kernel] at this
    exact this
  · intro D hD h
    refine Ev.succ ?_
    simp only [spec_l13Conflicts.l0]
    refine Ev.neg (by omega) (Ev.const ?_)
    rw [List.drop_eq_nil_of_le (Nat.le_refl _), confFrom] at h
    rw [h]
  · intro i hi ih D hD h
    refine Ev.succ ?_
    simp only [spec_l13Conflicts.l0, Option.bind_some]
    have hr : rd_T84 l (i : Int) = l[i] := by simp [rd_T84, hi]
    have h2 : wrap64 ((i : Int) + 1) = ((i + 1 : Nat) : Int) := by unfold wrap64; omega
    rw [hr]
    refine Ev.pos (by omega) (Ev.pos (by omega) (Ev.pos (by omega) (Ev.pos (by omega) (Ev.pos (by omega) ?_))))
    rw [show (wrap64 ((i : Int) + 1)).toNat = i + 1 from by rw [h2]; simp]
    have ha := hg _ (List.getElem_mem hi)
    have hgd : ∀ x ∈ l.drop (i + 1), stepB x = true := fun x hx => hg x (List.mem_of_mem_drop hx)
    refine inner i l[i] ha (l.drop (i + 1)) (by simp; omega) hgd _ 0 (Nat.zero_le _) D hD ?_
    rw [h2, List.drop_zero]
    rw [List.drop_eq_getElem_cons hi, confFrom] at h
    exact ih _ (conf_row_ok _ ha _ _ hD hgd).1 h
theorem find_congr {p q : Int → Bool} : ∀ {l : List Int}, (∀ x ∈ l, p x = q x) → l.find? p = l.find? q
  | [], _ => rfl
  | a :: l, h => by
    rw [List.find?_cons, List.find?_cons, h a List.mem_cons_self, find_congr (fun x hx => h x (List.mem_cons_of_mem _ hx))]
theorem find_idx (p : Int → Bool) (l : List Int) : l.find? p = if idxf p l < 0 then none else some (rd l (idxf p l)) := by
  unfold idxf
  cases h : l.findIdx? p with
  | none =>
    rw [if_pos (by simp)]
    rw [List.find?_eq_none]
    intro x hx
    have := List.findIdx?_eq_none_iff.1 h x hx
    simp [this]
  | some i =>
    rw [if_neg (by simp)]
    obtain ⟨hi, hp, hb⟩ := List.findIdx?_eq_some_iff_getElem.1 h
    rw [show rd l (i : Int) = l[i] from rd_nat hi, List.find?_eq_some_iff_getElem]
    exact ⟨hp, i, hi, rfl, fun j hj => by simpa using hb j hj⟩
/-- Is t free of all others that are left, by the lists? -/
def freeS (C : List (List Int)) (T : List Int) (t : Int) : Bool := T.all fun o => !(rd_L3 C o).contains t
theorem free_ok (ah : List Int) (h : okC ah) (left t : Int) (hl : isSet left) (t0 : 0 ≤ t) (t5 : t ≤ 5) : freeB ah left t = freeS (ah.map setL) (setL left) t := by
  unfold freeB freeS
  rw [Bool.eq_iff_iff, List.all_eq_true, List.all_eq_true]
  refine forall_congr' fun o => forall_congr' fun ho => ?_
  obtain ⟨o0, o5⟩ := setL_mem ho
  obtain ⟨k1, k2⟩ := rd_ok h o0 o5
  rw [k2, hasB_ok k1 t0 t5]
/-- One more transaction told, or none that can be: the specification's two inner loops. -/
theorem order_round (C : List (List Int)) (hC : C.length = 6) (hC2 : ∀ x ∈ C, x.length ≤ 6) (T out : List Int) (hT : T.length ≤ 6) (hT2 : ∀ o ∈ T, 0 ≤ o ∧ o ≤ 5) (ho : out.length ≤ 100) (R : List Int × Bool)
    (hn : T.find? (freeS C T) = none → R = ([], false)) (hs : ∀ t, T.find? (freeS C T) = some t → Ev (fun k => spec_l13Order.l0 k C (T.filter (fun y => y != t)) (out ++ [t])) R) :
    Ev (fun k => spec_l13Order.l1 k C T out (-1) T (T.length : Int) 0) R := by
  have inner : ∀ (i : Nat) (hi : i < T.length), (freeS C T T[i] = true → Ev (fun k => if T[i] < 0 then some (([] : List Int), false) else if out.length < 17592186044416 then ((spec_l11Without.f k T T[i]).bind fun t => spec_l13Order.l0 k C t (out ++ [T[i]])) else none) R) →
      (freeS C T T[i] = false → Ev (fun k => spec_l13Order.l1 k C T out (-1) T (T.length : Int) (wrap64 ((i : Int) + 1))) R) →
      ∀ j, j ≤ T.length → ∀ fl : Bool, (fl && (T.drop j).all fun o => !(rd_L3 C o).contains T[i]) = freeS C T T[i] → Ev (fun k => spec_l13Order.l2 k C T out (-1) T[i] fl T (T.length : Int) (i : Int) T (T.length : Int) (j : Int)) R := by
    intro i hi ht hf
    refine loop_up ?_ ?_
    · intro fl hfl
      refine Ev.succ ?_
      simp only [spec_l13Order.l2]
      refine Ev.neg (by omega) ?_
      rw [List.drop_eq_nil_of_le (Nat.le_refl _), List.all_nil, Bool.and_true] at hfl
      cases fl with
      | true => exact Ev.pos rfl (ht hfl.symm)
      | false => exact Ev.neg (by simp) (hf hfl.symm)
    · intro j hj ih fl hfl
      refine Ev.succ ?_
      simp only [spec_l13Order.l2]
      rw [List.drop_eq_getElem_cons hj, List.all_cons] at hfl
      rw [rd_nat hj, wrap_add (a := (j : Int)) (by omega) (by omega)]
      obtain ⟨o0, o5⟩ := hT2 _ (List.getElem_mem hj)
      refine Ev.pos (by omega) (Ev.pos (by omega) (Ev.pos (by omega) ?_))
      cases fl with
      | true =>
        have hrow : (rd_L3 C T[j]).length ≤ 6 := by
          have hn : T[j].toNat < C.length := by omega
          have e : rd_L3 C T[j] = C[T[j].toNat] := by simp [rd_L3, hn]
          rw [e]; exact hC2 _ (List.getElem_mem hn)
        refine Ev.pos rfl (Ev.pos o0 (Ev.pos (by omega) (Ev.bind (l1Has_ev _ _ (by omega)) ?_)))
        exact ih _ (by rw [← hfl, Bool.true_and])
      | false => exact Ev.neg (by simp) (ih _ (by rw [← hfl, Bool.false_and, Bool.false_and]))
  have loop := loop_up (n := T.length) (P := fun i => (T.drop i).find? (freeS C T) = T.find? (freeS C T) → Ev (fun k => spec_l13Order.l1 k C T out (-1) T (T.length : Int) (i : Int)) R) ?_ ?_
  · exact loop 0 (Nat.zero_le _) rfl
  · intro h
    refine Ev.succ ?_
    simp only [spec_l13Order.l1]
    refine Ev.neg (by omega) (Ev.pos (by omega) (Ev.const ?_))
    rw [hn (by rw [← h]; simp)]
  · intro i hi ih h
    refine Ev.succ ?_
    simp only [spec_l13Order.l1]
    rw [rd_nat hi]
    rw [List.drop_eq_getElem_cons hi, List.find?_cons] at h
    refine Ev.pos (by omega) (Ev.pos (by omega) (Ev.pos (by omega) ?_))
    have t0 := (hT2 _ (List.getElem_mem hi)).1
    refine inner i hi ?_ ?_ 0 (Nat.zero_le _) true (by simp [freeS])
    · intro hfr
      rw [hfr] at h
      exact Ev.neg (by omega) (Ev.pos (by omega) (Ev.bind (l11Without_ev T _ (by omega)) (hs _ h.symm)))
    · intro hfr
      rw [hfr] at h
      rw [wrap_add (by omega) (by omega)]
      exact ih h
theorem order_ev (ah : List Int) (hah : okC ah) : ∀ (n : Nat) (left : Int) (out : List Int), isSet left → (setL left).length < n → out.length + (setL left).length ≤ 50 →
    ∃ q, q.1.length ≤ 60 ∧ Ev (fun k => soLoop ah k left out) q ∧ Ev (fun k => spec_l13Order.l0 k (ah.map setL) (setL left) out) q := by
  intro n
  induction n with
  | zero => intro left out _ h; omega
  | succ n ih =>
    intro left out hs hn ho
    have hC2 : ∀ x ∈ ah.map setL, x.length ≤ 6 := by
      intro x hx
      obtain ⟨s, _, rfl⟩ := List.mem_map.1 hx
      exact setL_len s
    have hlen := setL_len left
    by_cases h0 : left = 0
    · have hnil := (setL_nil hs).1 h0
      refine ⟨(out, true), by simp; omega, Ev.succ ?_, Ev.succ ?_⟩
      · simp only [soLoop]
        exact Ev.pos ⟨hs.1, hs.2, by omega⟩ (Ev.pos h0 (Ev.const rfl))
      · simp only [spec_l13Order.l0]
        rw [hnil]
        exact Ev.neg (by simp) (Ev.const rfl)
    · have hne : setL left ≠ [] := fun e => h0 ((setL_nil hs).2 e)
      have hpos : (setL left).length > 0 := List.length_pos_iff.2 hne
      have hfind : (setL left).find? (freeS (ah.map setL) (setL left)) = (setL left).find? (freeB ah left) := by
        refine find_congr fun x hx => ?_
        obtain ⟨x0, x5⟩ := setL_mem hx
        exact (free_ok ah hah left x hs x0 x5).symm
      by_cases hix : idxf (freeB ah left) (setL left) < 0
      · refine ⟨([], false), by simp, Ev.succ ?_, Ev.succ ?_⟩
        · simp only [soLoop]
          exact Ev.pos ⟨hs.1, hs.2, by omega⟩ (Ev.neg h0 (Ev.pos hix (Ev.const rfl)))
        · simp only [spec_l13Order.l0]
          refine Ev.pos (by omega) (order_round _ (by simp [hah.1]) hC2 _ _ hlen (fun o ho => setL_mem ho) (by omega) _ (fun _ => rfl) (fun t ht => ?_))
          rw [hfind, find_idx, if_pos hix] at ht
          cases ht
      · obtain ⟨m1, m2⟩ := idxf_mem (p := freeB ah left) (l := setL left) (by omega)
        obtain ⟨t0, t5⟩ := setL_mem m2
        obtain ⟨k1, k2⟩ := minusB_ok hs t0 t5
        have hlt : ((setL left).filter (fun y => y != rd (setL left) (idxf (freeB ah left) (setL left)))).length < (setL left).length := by
          rcases Nat.lt_or_ge ((setL left).filter (fun y => y != rd (setL left) (idxf (freeB ah left) (setL left)))).length (setL left).length with h | h
          · exact h
          · exfalso
            have := List.length_filter_le (fun y => y != rd (setL left) (idxf (freeB ah left) (setL left))) (setL left)
            have := List.length_filter_eq_length_iff.1 (Nat.le_antisymm this h) _ m2
            simp at this
        obtain ⟨q, q1, q2, q3⟩ := ih _ (out ++ [rd (setL left) (idxf (freeB ah left) (setL left))]) k1 (by rw [k2]; omega) (by rw [k2]; simp; omega)
        refine ⟨q, q1, Ev.succ ?_, Ev.succ ?_⟩
        · simp only [soLoop]
          exact Ev.pos ⟨hs.1, hs.2, by omega⟩ (Ev.neg h0 (Ev.neg hix q2))
        · simp only [spec_l13Order.l0]
          refine Ev.pos (by omega) (order_round _ (by simp [hah.1]) hC2 _ _ hlen (fun o ho => setL_mem ho) (by omega) _ (fun h => ?_) (fun t ht => ?_))
          · rw [hfind, find_idx, if_neg hix] at h
            cases h
          · rw [hfind, find_idx, if_neg hix] at ht
            obtain rfl := Option.some.inj ht
            rw [← k2]
            exact q3
theorem both (l : List S84) (hl : l.length ≤ 1048576) : ∃ o : List Int × Bool × Bool, o.1.length ≤ 1048576 ∧ Ev (fun k => spec_SerialOrder.f k l) o ∧ Ev (fun k => impl_SerialOrder.f k l) o := by
  by_cases hg : (decide ((l.length : Int) ≤ 40) && l.all stepB) = true
  · have h40 : l.length ≤ 40 := by have := of_decide_eq_true (Bool.and_eq_true_iff.1 hg).1; omega
    have hgo : ∀ x ∈ l, stepB x = true := List.all_eq_true.1 (Bool.and_eq_true_iff.1 hg).2
    obtain ⟨hc, _⟩ := conf_ok l hgo
    obtain ⟨t1, t2⟩ := txF_ok l 0 ⟨by omega, by omega⟩ hgo
    have h0 : setL 0 = [] := by decide +kernel
    rw [h0] at t2
    have hlen := setL_len (txF 0 l)
    obtain ⟨q, q1, q2, q3⟩ := order_ev (conf l) hc 10 (txF 0 l) [] t1 (by omega) (by simp; omega)
    refine ⟨(q.1, q.2, true), by simp; omega, ?_, ?_⟩
    · unfold spec_SerialOrder.f
      refine Ev.bind (goodSteps_ev l hl) (Ev.pos hg ?_)
      refine Ev.bind (a := q) ?_ (Ev.const rfl)
      unfold spec_l13Order.f
      refine Ev.bind (conflicts_ev l h40 hgo) (Ev.bind (l13Txns_ev l h40) ?_)
      rw [← t2]
      exact q3
    · unfold impl_SerialOrder.f
      exact Ev.pos hg (Ev.bind (txnsOf_ev l hl hgo) (Ev.bind q2 (Ev.const rfl)))
  · refine ⟨([], false, false), by simp, ?_, ?_⟩
    · unfold spec_SerialOrder.f
      exact Ev.bind (goodSteps_ev l hl) (Ev.neg hg (Ev.const rfl))
    · unfold impl_SerialOrder.f
      exact Ev.neg hg (Ev.const rfl)
theorem FnExactSerialOrder : laws_FnExactSerialOrder.Pure := by
  intro l hw
  by_cases hl : l.length ≤ 1048576
  · obtain ⟨o, ho, h1, h2⟩ := both (l.map cv) (by simpa using hl)
    exact (law_of l hl o ho h1 h2).rounds
  · refine ⟨0, ?_⟩
    have hm := hw.1
    unfold maxLen at hm
    have hsz : laws_szStepS.f l 1048576 = some (-1) := by
      unfold laws_szStepS.f
      rw [wrap_id (by omega) (by omega), if_pos (by omega)]
    unfold laws_FnExactSerialOrder.f
    simp only [hsz, Option.bind_some]
    rw [if_pos (by omega)]
end Go.Proofs.Ytinjjpakpngaoaa.Pure
