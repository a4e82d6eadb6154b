/-
  A text of this claim's own, printed by a program of the session (wip/tools/xprint.py): functions of the program as Lean functions, each with what its call comes to.
-/
import Derived.Test.YtboligpcbndkjaaPFnExactEarsOfx0
import Derived.Test.YtboligpcbndkjaaPFnExactEarsOfx1
import Derived.Test.YtboligpcbndkjaaPFnExactEarsOfx2
import Derived.Test.YtboligpcbndkjaaPFnExactEarsOfx4
import Derived.Test.YtboligpcbndkjaaPFnExactEarsOfx6
namespace Go.Proofs.Ytboligpcbndkjaa.PFnExactEarsOf
open Go.Proofs.YtboligpcbndkjaaW.PrintWords renaming pw_below_drewN → qD, blk_cell → qC, below_drew1 → qO, below_alloc → qA, blk_frozen → qF, below_set → qS, blk_drewN → qN, blk_alloc → qL, blk_drew → qW, below_size → qZ, below_step → qT, blk_below → qB, blk_far → qR, blk_put → qP
open Go.Proofs.YtboligpcbndkjaaW.PrintWords.Aside0 renaming mk → qK
open Bool renaming true → Y, false → Z
open List renaming setIfInBounds_toArray → sIb, set_cons_zero → sZ, set_cons_succ → sS, map_toArray → mT, map_cons → mC, map_nil → mN, length_drop → lD, length_take → lT
open Go.Proofs.YtboligpcbndkjaaW.PrintWords.Kd renaming C_alloc → cL, C_drewN → cN, C_drew → cW, C_below → cB, R_alloc → rL, R_drewN → rN, R_drew → rW, R_below → rB
open Go.RowKit Go.Proofs.YtboligpcbndkjaaW.PrintWords Go.Proofs.YtboligpcbndkjaaW.PrintLast Go.Proofs.YtboligpcbndkjaaW.PrintMore
attribute [local go_sem] max2_int min2_int max_two min_two max_three min_three max_four min_four   -- for this text's walks alone
set_option linter.unusedVariables false
set_option linter.unusedSimpArgs false

/-! ### laws_FnExactEarsOf: function 11 -/
theorem laws_szIntS_some (l : List Int) (a : Int) (h0 : 0 ≤ a) (h1 : a ≤ 1048576) (hl : l.length ≤ maxLen) : laws_szIntS.f l a = some (if a < (l.length : Int) then -1 else a - (l.length : Int)) := by
  unfold maxLen at hl
  unfold laws_szIntS.f
  rw [wrap_id (by omega) (by omega)]
  by_cases h : a < (l.length : Int)
  · rw [if_pos (by omega), if_pos h]
  · rw [if_neg (by omega), if_neg h]
theorem toIntS_ev (l : List Int) (hl : l.length ≤ 1048576) : Ev (fun k => laws_toIntS.f k l) l := by
  have loop := loop_up (n := l.length) (P := fun i => ∀ x : List Int, x.length = l.length → x.take i = l.take i → Ev (fun k => laws_toIntS.l0 k l x (i : Int)) l) ?_ ?_
  · unfold laws_toIntS.f
    refine Ev.pos (by omega) (Ev.pos (by omega) ?_)
    exact loop 0 (Nat.zero_le _) (List.replicate _ 0) (by simp) (by simp)
  · intro x hx ht
    refine Ev.succ ?_
    simp only [laws_toIntS.l0]
    refine Ev.neg (by omega) (Ev.const ?_)
    rw [List.take_of_length_le (by omega), List.take_of_length_le (by omega)] at ht
    rw [ht]
  · intro i hi ih x hx ht
    refine Ev.succ ?_
    simp only [laws_toIntS.l0]
    refine Ev.pos (by omega) (Ev.pos (by omega) (Ev.pos (by omega) ?_))
    rw [wrap_add (by omega) (by omega), rd_nat hi]
    refine ih _ (by simp [hx]) ?_
    rw [List.take_succ_eq_append_getElem (by simp [hx]; omega), List.take_succ_eq_append_getElem hi]
    simp only [Int.toNat_natCast, List.getElem_set_self]
    rw [List.take_set_of_le (by omega), ht]
theorem laws_toIntS_x (l : List Int) (hl : l.length ≤ 1048576) : ∃ k, laws_toIntS.f k l = some l := (toIntS_ev l hl).rounds
theorem eqIntS_ev (l : List Int) (hl : l.length ≤ 1048576) : Ev (fun k => laws_eqIntS.f k l l) true := by
  have loop := loop_up (n := l.length) (P := fun i => Ev (fun k => laws_eqIntS.l0 k l l (i : Int)) true) ?_ ?_
  · unfold laws_eqIntS.f
    exact Ev.pos rfl (loop 0 (Nat.zero_le _))
  · refine Ev.succ ?_
    simp only [laws_eqIntS.l0]
    exact Ev.neg (by omega) (Ev.const rfl)
  · intro i hi ih
    refine Ev.succ ?_
    simp only [laws_eqIntS.l0]
    refine Ev.pos (by omega) (Ev.pos (by omega) (Ev.pos (by omega) (Ev.pos trivial ?_)))
    rw [wrap_add (by omega) (by omega)]
    exact ih
theorem laws_eqIntS_x (l : List Int) (hl : l.length ≤ 1048576) : ∃ k, laws_eqIntS.f k l l = some true := (eqIntS_ev l hl).rounds
def markedIntS (n : Nat) (a : Int) : List Int := (List.range n).map (fun (j : Nat) => a + (j : Int))
def cntIntS (l : List Int) : Int := (l.length : Int)
theorem markIntS_ev (l : List Int) (a : Int) (hl : l.length ≤ 1048576) (h0 : 0 ≤ a) (h1 : a ≤ 1099511627776) : Ev (fun k => laws_markIntS.f k l a) (a + (l.length : Int), markedIntS l.length a) := by
  unfold markedIntS
  have loop := loop_up (n := l.length) (P := fun i => ∀ x : List Int, x.length = l.length → x.take i = (List.range i).map (fun (j : Nat) => a + (j : Int)) → Ev (fun k => laws_markIntS.l0 k x (a + (i : Int)) (i : Int)) (a + (l.length : Int), (List.range l.length).map (fun (j : Nat) => a + (j : Int)))) ?_ ?_
  · unfold laws_markIntS.f
    have := loop 0 (Nat.zero_le _) l rfl (by simp)
    rwa [show a + ((0 : Nat) : Int) = a by omega] at this
  · intro x hx ht
    refine Ev.succ ?_
    simp only [laws_markIntS.l0]
    refine Ev.neg (by omega) (Ev.const ?_)
    rw [List.take_of_length_le (by omega)] at ht
    rw [ht]
  · intro i hi ih x hx ht
    have h2 : wrap64 ((i : Int) + 1) = ((i + 1 : Nat) : Int) := by unfold wrap64; omega
    have h3 : wrap64 (a + (i : Int) + 1) = a + ((i + 1 : Nat) : Int) := by unfold wrap64; omega
    refine Ev.succ ?_
    simp only [laws_markIntS.l0]
    refine Ev.pos (by omega) (Ev.pos (by omega) ?_)
    rw [h3, h2]
    refine ih _ (by simp [hx]) ?_
    rw [List.take_succ_eq_append_getElem (by simp [hx]; omega), List.range_succ, List.map_append]
    simp only [Int.toNat_natCast, List.getElem_set_self]
    rw [List.take_set_of_le (by omega), ht]
    rfl
theorem laws_markIntS_x (l : List Int) (a : Int) (hl : l.length ≤ 1048576) (h0 : 0 ≤ a) (h1 : a ≤ 1099511627776) : ∃ k, laws_markIntS.f k l a = some (a + cntIntS l, markedIntS l.length a) := (markIntS_ev l a hl h0 h1).rounds
theorem cntIntS_ok (l : List Int) (hl : l.length ≤ 1048576) : 0 ≤ cntIntS l ∧ cntIntS l ≤ 16777216 := by unfold cntIntS; omega
theorem cntIntS_le (l : List Int) (hl : l.length ≤ 1048576) : 0 ≤ cntIntS l ∧ cntIntS l ≤ 16777216 := by unfold cntIntS; omega
def okEarS (l : List S106) : Prop := l.length ≤ 1048576
theorem laws_eqEarS_x (l : List S106) (h : okEarS l) : ∃ k, laws_eqEarS.f k l l = some true := by
  have hl : l.length ≤ 1048576 := h
  have loop := loop_up (n := l.length) (P := fun i => Ev (fun k => laws_eqEarS.l0 k l l (i : Int)) true) ?_ ?_
  · refine Ev.rounds ?_
    unfold laws_eqEarS.f
    exact Ev.pos rfl (loop 0 (Nat.zero_le _))
  · refine Ev.succ ?_
    simp only [laws_eqEarS.l0]
    exact Ev.neg (by omega) (Ev.const rfl)
  · intro i hi ih
    refine Ev.succ ?_
    simp only [laws_eqEarS.l0]
    rw [wrap_add (by omega) (by omega)]
    refine Ev.pos (by omega) (Ev.pos (by omega) (Ev.pos (by omega) (Ev.bind (a := true) (Ev.const ?_) (Ev.pos rfl ih))))
    unfold laws_eqEar.f
    rw [if_pos rfl, if_pos rfl]
def cntEarS (l : List S106) : Int := 2 * (l.length : Int)
def markedE (n : Nat) (a : Int) : List S106 := (List.range n).map fun (j : Nat) => (⟨a + 2 * (j : Int), a + 2 * (j : Int) + 1⟩ : S106)
def markedEarS (l : List S106) (a : Int) : List S106 := markedE l.length a
theorem cntEarS_ok (l : List S106) (h : okEarS l) : 0 ≤ cntEarS l ∧ cntEarS l ≤ 16777216 := by unfold okEarS at h; unfold cntEarS; omega
theorem markEarS_ev (l : List S106) (a : Int) (hl : l.length ≤ 1048576) (h0 : 0 ≤ a) (h1 : a + cntEarS l ≤ 1099511627776) : Ev (fun k => laws_markEarS.f k l a) (a + cntEarS l, markedEarS l a) := by
  unfold cntEarS at h1
  unfold cntEarS markedEarS
  have loop := loop_up (n := l.length) (P := fun i => ∀ x : List S106, x.length = l.length → x.take i = markedE i a → Ev (fun k => laws_markEarS.l0 k x (a + 2 * (i : Int)) (i : Int)) (a + 2 * (l.length : Int), markedE l.length a)) ?_ ?_
  · unfold laws_markEarS.f
    have := loop 0 (Nat.zero_le _) l rfl (by simp [markedE])
    rwa [show a + 2 * ((0 : Nat) : Int) = a by omega] at this
  · intro x hx ht
    refine Ev.succ ?_
    simp only [laws_markEarS.l0]
    refine Ev.neg (by omega) (Ev.const ?_)
    rw [List.take_of_length_le (by omega)] at ht
    rw [ht]
  · intro i hi ih x hx ht
    have h2 : wrap64 ((i : Int) + 1) = ((i + 1 : Nat) : Int) := by unfold wrap64; omega
    have h3 : wrap64 (a + 2 * (i : Int) + 1) = a + 2 * (i : Int) + 1 := by unfold wrap64; omega
    have h4 : wrap64 (a + 2 * (i : Int) + 1 + 1) = a + 2 * ((i + 1 : Nat) : Int) := by unfold wrap64; omega
    refine Ev.succ ?_
    simp only [laws_markEarS.l0]
    refine Ev.pos (by omega) (Ev.pos (by omega) (Ev.some_bind ?_))
    rw [h3, h4, h2]
    refine ih _ (by simp [hx]) ?_
    have hr : (rd_T106 (x.set (i : Int).toNat ⟨a + 2 * (i : Int), (rd_T106 x (i : Int)).f1⟩) (i : Int)).f0 = a + 2 * (i : Int) := by simp [rd_T106, hx, hi]
    rw [hr, List.take_succ_eq_append_getElem (by simp [hx]; omega)]
    unfold markedE at ht ⊢
    rw [List.range_succ, List.map_append]
    simp only [Int.toNat_natCast, List.getElem_set_self, List.set_set]
    rw [List.take_set_of_le (by omega), ht]
    rfl
theorem laws_markEarS_x (l : List S106) (a : Int) (h : okEarS l) (h0 : 0 ≤ a) (h1 : a + cntEarS l ≤ 1099511627776) : ∃ k, laws_markEarS.f k l a = some (a + cntEarS l, markedEarS l a) := (markEarS_ev l a h h0 h1).rounds
theorem laws_heldEarS_x (l : List S106) (a : Int) (h : okEarS l) (h0 : 0 ≤ a) (h1 : a + cntEarS l ≤ 1099511627776) : ∃ k, laws_heldEarS.f k (markedEarS l a) a = some (a + cntEarS l) := by
  have hl : l.length ≤ 1048576 := h
  unfold cntEarS at h1
  unfold cntEarS markedEarS
  refine Ev.rounds ?_
  generalize l.length = n at *
  have hm : (markedE n a).length = n := by simp [markedE]
  have loop := loop_up (n := n) (P := fun i => Ev (fun k => laws_heldEarS.l0 k (markedE n a) (a + 2 * (i : Int)) (i : Int)) (a + 2 * (n : Int))) ?_ ?_
  · unfold laws_heldEarS.f
    have := loop 0 (Nat.zero_le _)
    rwa [show a + 2 * ((0 : Nat) : Int) = a by omega] at this
  · refine Ev.succ ?_
    simp only [laws_heldEarS.l0]
    exact Ev.neg (by omega) (Ev.const rfl)
  · intro i hi ih
    have h2 : wrap64 ((i : Int) + 1) = ((i + 1 : Nat) : Int) := by unfold wrap64; omega
    have h3 : wrap64 (a + 2 * (i : Int) + 1) = a + 2 * (i : Int) + 1 := by unfold wrap64; omega
    have h4 : wrap64 (a + 2 * (i : Int) + 1 + 1) = a + 2 * ((i + 1 : Nat) : Int) := by unfold wrap64; omega
    have hr : rd_T106 (markedE n a) (i : Int) = ⟨a + 2 * (i : Int), a + 2 * (i : Int) + 1⟩ := by simp [rd_T106, markedE, hi]
    refine Ev.succ ?_
    simp only [laws_heldEarS.l0]
    rw [hr, h3, h4, h2]
    exact Ev.pos (by omega) (Ev.pos (by omega) (Ev.pos rfl (Ev.pos rfl ih)))
theorem sum_ge : ∀ {l : List Nat} {x : Nat}, x ∈ l → x ≤ l.sum
  | a :: l, x, h => by
    rw [List.sum_cons]
    rcases List.mem_cons.1 h with rfl | h
    · omega
    · have := sum_ge h; omega
def wtA (x : S158) : Nat := x.f1.length
def szOk_laws_szQuery (l0 : List Int) (l : List S158) : Prop := l0.length + l.length + (l.map wtA).sum ≤ 1048576
theorem szAtomS_ev (l : List S158) (a : Int) (h0 : 0 ≤ a) (h1 : a ≤ 1048576) (hm : l.length ≤ 9223372036854775807) (hl : ∀ x, x ∈ l → x.f1.length ≤ maxLen) :
    ∃ s, Ev (fun k => laws_szAtomS.f k l a) s ∧ (s < 0 ∨ ((l.length + (l.map wtA).sum : Nat) : Int) ≤ a ∧ 0 ≤ s ∧ s ≤ a) := by
  have loop := loop_up (n := l.length) (P := fun i => ∀ b : Int, 0 ≤ b → b ≤ 1048576 → ∃ s, Ev (fun k => laws_szAtomS.l0 k l b (i : Int)) s ∧ (s < 0 ∨ (((l.drop i).map wtA).sum : Nat) ≤ b ∧ 0 ≤ s ∧ s ≤ b)) ?_ ?_
  · unfold laws_szAtomS.f
    rw [wrap_id (by omega) (by omega)]
    by_cases h : a - (l.length : Int) < 0
    · exact ⟨-1, Ev.pos h (Ev.const rfl), .inl (by omega)⟩
    · obtain ⟨s, hs, hq⟩ := loop 0 (Nat.zero_le _) (a - (l.length : Int)) (by omega) (by omega)
      refine ⟨s, Ev.neg h hs, ?_⟩
      rcases hq with hq | ⟨q1, q2, q3⟩
      · exact .inl hq
      · simp only [List.drop_zero] at q1
        exact .inr ⟨by omega, q2, by omega⟩
  · intro b b0 b1
    refine ⟨b, Ev.succ ?_, .inr ⟨by simp; omega, b0, by omega⟩⟩
    simp only [laws_szAtomS.l0]
    exact Ev.neg (by omega) (Ev.const rfl)
  · intro i hi ih b b0 b1
    have hx := hl l[i] (List.getElem_mem hi)
    have hr : rd_T158 l (i : Int) = l[i] := by simp [rd_T158, hi]
    have hd : ((l.drop i).map wtA).sum = wtA l[i] + ((l.drop (i + 1)).map wtA).sum := by rw [List.drop_eq_getElem_cons hi, List.map_cons, List.sum_cons]
    have e1 := laws_szIntS_some l[i].f1 b b0 b1 hx
    by_cases c1 : b < (l[i].f1.length : Int)
    · rw [if_pos c1] at e1
      refine ⟨-1, Ev.succ ?_, .inl (by omega)⟩
      simp only [laws_szAtomS.l0]
      rw [hr]
      exact Ev.pos (by omega) (Ev.pos (by omega) (Ev.bind (Ev.const (by unfold laws_szAtom.f; rw [e1]; simp; rfl)) (Ev.pos (by omega) (Ev.const rfl))))
    rw [if_neg c1] at e1
    obtain ⟨s, hs, hq⟩ := ih (b - (l[i].f1.length : Int)) (by omega) (by omega)
    refine ⟨s, Ev.succ ?_, ?_⟩
    · simp only [laws_szAtomS.l0]
      rw [hr, wrap_add (by omega) (by omega)]
      exact Ev.pos (by omega) (Ev.pos (by omega) (Ev.bind (Ev.const (by unfold laws_szAtom.f; rw [e1]; simp only [Option.bind_some]; rw [if_neg (by omega)])) (Ev.neg (by omega) hs)))
    · rcases hq with hq | ⟨q1, q2, q3⟩
      · exact .inl hq
      · rw [hd]; unfold wtA at *; exact .inr ⟨by omega, q2, by omega⟩
theorem laws_szQuery_x (l0 : List Int) (l : List S158) (a : Int) (h0 : 0 ≤ a) (h1 : a ≤ 1048576) (hl0 : l0.length ≤ maxLen ∧ ∀ y, y ∈ l0 → (Lit.int .i64 y).wf = true) (hl : l.length ≤ maxLen ∧ ∀ x, x ∈ l → ((Lit.int .i64 x.f0).wf = true) ∧ (x.f1.length ≤ maxLen ∧ ∀ y, y ∈ x.f1 → (Lit.int .i64 y).wf = true)) :
    ∃ s, (∃ k, laws_szQuery.f k l0 l a = some s) ∧ (s < 0 ∨ szOk_laws_szQuery l0 l ∧ 0 ≤ s ∧ s ≤ 1048576) := by
  have hm : l.length ≤ 9223372036854775807 := by have := hl.1; unfold maxLen at this; omega
  have e0 := laws_szIntS_some l0 a h0 h1 hl0.1
  by_cases c : a < (l0.length : Int)
  · rw [if_pos c] at e0
    exact ⟨-1, ⟨0, by unfold laws_szQuery.f; rw [e0]; simp⟩, .inl (by omega)⟩
  rw [if_neg c] at e0
  obtain ⟨s, hs, hq⟩ := szAtomS_ev l (a - (l0.length : Int)) (by omega) (by omega) hm (fun x hx => (hl.2 x hx).2.1)
  by_cases c2 : s < 0
  · refine ⟨-1, (Ev.rounds (r := (-1 : Int)) ?_), .inl (by omega)⟩
    unfold laws_szQuery.f; rw [e0]
    exact Ev.some_bind (Ev.neg (by omega) (Ev.bind hs (Ev.pos c2 (Ev.const rfl))))
  · refine ⟨s, (Ev.rounds (r := s) ?_), ?_⟩
    · unfold laws_szQuery.f; rw [e0]
      exact Ev.some_bind (Ev.neg (by omega) (Ev.bind hs (Ev.neg c2 (Ev.const rfl))))
    · rcases hq with hq | ⟨q1, q2, q3⟩
      · exact absurd hq c2
      · exact .inr ⟨by unfold szOk_laws_szQuery; omega, q2, by omega⟩
def cvA (x : S158) : S97 := ⟨x.f0, x.f1⟩
def cvAtomS (l : List S158) : List S97 := l.map cvA
theorem szQ_le {l0 : List Int} {l : List S158} (h : szOk_laws_szQuery l0 l) : l0.length ≤ 1048576 ∧ l.length ≤ 1048576 ∧ ∀ x ∈ l, x.f1.length ≤ 1048576 := by
  unfold szOk_laws_szQuery at h
  refine ⟨by omega, by omega, fun x hx => ?_⟩
  have := sum_ge (List.mem_map_of_mem (f := wtA) hx)
  unfold wtA at *
  omega
theorem toAtomS_ev (l : List S158) (hl : l.length ≤ 1048576) (hx : ∀ x ∈ l, x.f1.length ≤ 1048576) : Ev (fun k => laws_toAtomS.f k l) (cvAtomS l) := by
  unfold cvAtomS
  have loop := loop_up (n := l.length) (P := fun i => ∀ x : List S97, x.length = l.length → x.take i = (l.map cvA).take i → Ev (fun k => laws_toAtomS.l0 k l x (i : Int)) (l.map cvA)) ?_ ?_
  · unfold laws_toAtomS.f
    refine Ev.pos (by omega) (Ev.pos (by omega) ?_)
    exact loop 0 (Nat.zero_le _) (List.replicate _ z97) (by simp) (by simp)
  · intro x hx2 ht
    refine Ev.succ ?_
    simp only [laws_toAtomS.l0]
    refine Ev.neg (by omega) (Ev.const ?_)
    rw [List.take_of_length_le (by omega), List.take_of_length_le (by simp)] at ht
    rw [ht]
  · intro i hi ih x hx2 ht
    have hr : rd_T158 l (i : Int) = l[i] := by simp [rd_T158, hi]
    refine Ev.succ ?_
    simp only [laws_toAtomS.l0]
    rw [hr]
    refine Ev.pos (by omega) (Ev.pos (by omega) (Ev.bind (a := (l[i].f0, l[i].f1)) ?_ (Ev.pos (by omega) ?_)))
    · unfold laws_toAtom.f
      exact Ev.bind (toIntS_ev _ (hx _ (List.getElem_mem hi))) (Ev.const rfl)
    rw [wrap_add (by omega) (by omega)]
    refine ih _ (by simp [hx2]) ?_
    rw [List.take_succ_eq_append_getElem (by simp [hx2]; omega), List.take_succ_eq_append_getElem (by simpa using hi)]
    simp only [Int.toNat_natCast, List.getElem_set_self, List.getElem_map]
    rw [List.take_set_of_le (by omega), ht]
    rfl
theorem laws_toQuery_x (l0 : List Int) (l : List S158) (h : szOk_laws_szQuery l0 l) : ∃ k, laws_toQuery.f k l0 l = some (l0, cvAtomS l) := by
  obtain ⟨h0, hl, hx⟩ := szQ_le h
  refine Ev.rounds ?_
  unfold laws_toQuery.f
  exact Ev.bind (toIntS_ev _ h0) (Ev.bind (toAtomS_ev l hl hx) (Ev.const rfl))
def okQuery (l0 : List Int) (l : List S97) : Prop := l0.length ≤ 1048576 ∧ l.length ≤ 1048576 ∧ (∀ x ∈ l, x.f1.length ≤ 1048576) ∧ l.length + (l.map fun x => x.f1.length).sum ≤ 1048576
theorem okQuery_cv {l0 : List Int} {l : List S158} (h : szOk_laws_szQuery l0 l) : okQuery l0 (cvAtomS l) := by
  obtain ⟨h0, hl, hx⟩ := szQ_le h
  refine ⟨h0, by unfold cvAtomS; simpa using hl, fun x hx2 => ?_, ?_⟩
  · obtain ⟨y, hy, rfl⟩ := List.mem_map.1 hx2
    exact hx y hy
  · unfold szOk_laws_szQuery at h
    unfold cvAtomS
    rw [List.length_map, List.map_map]
    have : (l.map ((fun x : S97 => x.f1.length) ∘ cvA)).sum = (l.map wtA).sum := rfl
    omega
theorem eqAtomS_ev (l : List S97) (hl : l.length ≤ 1048576) (hx : ∀ x ∈ l, x.f1.length ≤ 1048576) : Ev (fun k => laws_eqAtomS.f k l l) true := by
  have loop := loop_up (n := l.length) (P := fun i => Ev (fun k => laws_eqAtomS.l0 k l l (i : Int)) true) ?_ ?_
  · unfold laws_eqAtomS.f
    exact Ev.pos rfl (loop 0 (Nat.zero_le _))
  · refine Ev.succ ?_
    simp only [laws_eqAtomS.l0]
    exact Ev.neg (by omega) (Ev.const rfl)
  · intro i hi ih
    have hr : rd_T97 l (i : Int) = l[i] := by simp [rd_T97, hi]
    refine Ev.succ ?_
    simp only [laws_eqAtomS.l0]
    rw [hr, wrap_add (by omega) (by omega)]
    refine Ev.pos (by omega) (Ev.pos (by omega) (Ev.pos (by omega) (Ev.bind (a := true) ?_ (Ev.pos rfl ih))))
    unfold laws_eqAtom.f
    exact Ev.pos rfl (Ev.bind (eqIntS_ev _ (hx _ (List.getElem_mem hi))) (Ev.pos rfl (Ev.const rfl)))
theorem laws_eqQuery_x (l0 : List Int) (l : List S97) (h : okQuery l0 l) : ∃ k, laws_eqQuery.f k l0 l l0 l = some true := by
  obtain ⟨h0, hl, hx, _⟩ := h
  refine Ev.rounds ?_
  unfold laws_eqQuery.f
  exact Ev.bind (eqIntS_ev _ h0) (Ev.pos rfl (Ev.bind (eqAtomS_ev l hl hx) (Ev.pos rfl (Ev.const rfl))))
def cntAtomS (l : List S97) : Int := ((l.length + (l.map fun x => x.f1.length).sum : Nat) : Int)
def markedAtomS : List S97 → Int → List S97
  | [], _ => []
  | x :: l, a => ⟨a, markedIntS x.f1.length (a + 1)⟩ :: markedAtomS l (a + 1 + (x.f1.length : Int))
theorem markAtomS_ev (l : List S97) (a : Int) (hl : l.length ≤ 1048576) (hx : ∀ x ∈ l, x.f1.length ≤ 1048576) (h0 : 0 ≤ a) (h1 : a + cntAtomS l ≤ 1099511627776) :
    Ev (fun k => laws_markAtomS.f k l a) (a + cntAtomS l, markedAtomS l a) := by
  have key : ∀ (d : Nat) (x : List S97) (i : Nat) (p q : List S97) (b : Int), x = p ++ q → p.length = i → q.length = d → x.length ≤ 1048576 → (∀ z ∈ q, z.f1.length ≤ 1048576) → 0 ≤ b → b + cntAtomS q ≤ 1099511627776 →
      Ev (fun k => laws_markAtomS.l0 k x b (i : Int)) (b + cntAtomS q, p ++ markedAtomS q b) := by
    intro d
    induction d with
    | zero =>
      intro x i p q b hxe hp hq hxl _ _ _
      obtain rfl := List.length_eq_zero_iff.1 hq
      refine Ev.succ ?_
      simp only [laws_markAtomS.l0]
      refine Ev.neg (by rw [hxe]; simp [hp]) (Ev.const ?_)
      simp [cntAtomS, markedAtomS, hxe]
    | succ d ih =>
      intro x i p q b hxe hp hq hxl hb b0 b1
      obtain ⟨z, q, rfl⟩ : ∃ z t, q = z :: t := by cases q with
        | nil => simp at hq
        | cons z t => exact ⟨z, t, rfl⟩
      have hlen : x.length = i + (d + 1) := by rw [hxe, List.length_append, hp, hq]
      have hr : rd_T97 x (i : Int) = z := by rw [hxe]; simp [rd_T97, ← hp]
      have c0 := hb z List.mem_cons_self
      have hc : cntAtomS (z :: q) = 1 + (z.f1.length : Int) + cntAtomS q := by unfold cntAtomS; rw [List.map_cons, List.sum_cons, List.length_cons]; omega
      have hn : 0 ≤ cntAtomS q := by unfold cntAtomS; omega
      rw [hc] at b1
      have hset0 : x.set (i : Int).toNat (⟨b, z.f1⟩ : S97) = (p ++ [⟨b, z.f1⟩]) ++ q := by rw [hxe, Int.toNat_natCast, ← hp]; simp
      have hr1 : rd_T97 ((p ++ [(⟨b, z.f1⟩ : S97)]) ++ q) (i : Int) = ⟨b, z.f1⟩ := by simp [rd_T97, ← hp]
      have hset1 : ((p ++ [(⟨b, z.f1⟩ : S97)]) ++ q).set (i : Int).toNat (⟨b, markedIntS z.f1.length (b + 1)⟩ : S97) = (p ++ [⟨b, markedIntS z.f1.length (b + 1)⟩]) ++ q := by rw [Int.toNat_natCast, ← hp]; simp
      refine Ev.succ ?_
      simp only [laws_markAtomS.l0]
      rw [hr, hset0, hr1, wrap_add (a := (i : Int)) (by omega) (by omega), wrap_add (a := b) (by omega) (by omega)]
      refine Ev.pos (by omega) (Ev.pos (by omega) (Ev.bind (markIntS_ev _ (b + 1) c0 (by omega) (by omega)) ?_))
      rw [hset1]
      have := ih _ (i + 1) (p ++ [⟨b, markedIntS z.f1.length (b + 1)⟩]) q (b + 1 + (z.f1.length : Int)) rfl (by simp [hp]) (by simpa using hq) (by simp at hlen hq ⊢; omega) (fun y hy => hb y (List.mem_cons_of_mem _ hy)) (by omega) (by omega)
      have e1 : b + 1 + (z.f1.length : Int) + cntAtomS q = b + cntAtomS (z :: q) := by rw [hc]; omega
      rw [e1] at this
      simpa [markedAtomS, List.append_assoc] using this
  exact key l.length l 0 [] l a rfl rfl rfl hl hx h0 h1
def cntQuery (l0 : List Int) (l : List S97) : Int := (l0.length : Int) + cntAtomS l
def markedQuery (l0 : List Int) (l : List S97) (a : Int) : List Int × List S97 := (markedIntS l0.length a, markedAtomS l (a + (l0.length : Int)))
theorem cntQuery_ok (l0 : List Int) (l : List S97) (h : okQuery l0 l) : 0 ≤ cntQuery l0 l ∧ cntQuery l0 l ≤ 16777216 := by
  obtain ⟨h0, _, _, h3⟩ := h
  unfold cntQuery cntAtomS; omega
theorem cntQuery_sz {l0 : List Int} {l : List S158} (h : szOk_laws_szQuery l0 l) : 0 ≤ cntQuery l0 (cvAtomS l) ∧ cntQuery l0 (cvAtomS l) ≤ 16777216 := cntQuery_ok _ _ (okQuery_cv h)
theorem laws_markQuery_x (l0 : List Int) (l : List S97) (a : Int) (h : okQuery l0 l) (h0 : 0 ≤ a) (h1 : a + cntQuery l0 l ≤ 1099511627776) : ∃ k, laws_markQuery.f k l0 l a = some (a + cntQuery l0 l, (markedQuery l0 l a).1, (markedQuery l0 l a).2) := by
  obtain ⟨g0, g1, g2, _⟩ := h
  have hn : 0 ≤ cntAtomS l := by unfold cntAtomS; omega
  unfold cntQuery at *
  refine Ev.rounds ?_
  unfold laws_markQuery.f
  refine Ev.bind (markIntS_ev l0 a g0 h0 (by omega)) (Ev.bind (markAtomS_ev l (a + (l0.length : Int)) g1 g2 (by omega) (by omega)) (Ev.const ?_))
  rw [show a + (l0.length : Int) + cntAtomS l = a + ((l0.length : Int) + cntAtomS l) by omega]
  rfl
/-- THE ONE PURE STATEMENT of laws_FnExactEarsOf: what the reference tells, the program tells. -/
def laws_FnExactEarsOf.Pure : Prop := ∀ (l0_0 : List Int) (l0_1 : List (S158)) (l1 : List Int), (l0_0.length ≤ maxLen ∧ ∀ x_, x_ ∈ l0_0 → (Lit.int .i64 x_).wf = true) → (l0_1.length ≤ maxLen ∧ ∀ x_, x_ ∈ l0_1 → ((Lit.int .i64 x_.f0).wf = true) ∧ (x_.f1.length ≤ maxLen ∧ ∀ x__, x__ ∈ x_.f1 → (Lit.int .i64 x__).wf = true)) → (l1.length ≤ maxLen ∧ ∀ x_, x_ ∈ l1 → (Lit.int .i64 x_).wf = true) → l1.length ≤ 1048576 → szOk_laws_szQuery l0_0 l0_1 → ∃ (k : Nat) (r : (List (S106)) × Bool × Bool), spec_EarsOf.f k l0_0 (cvAtomS l0_1) l1 = some r ∧ impl_EarsOf.f k l0_0 (cvAtomS l0_1) l1 = some r ∧ okEarS r.1
set_option maxHeartbeats 16000000 in
set_option maxRecDepth 100000 in
theorem laws_FnExactEarsOf.walk (P:laws_FnExactEarsOf.Pure) (A0_0:Option Addr) (c0_0:Nat) (l0_0:List Int) (A0_1:Option Addr) (c0_1:Nat) (l0_1:List (S158)) (A1:Option Addr) (c1:Nat) (l1:List Int) (w:World) (hr0_0:Kd.C (Kd.int .i64) w A0_0 l0_0.length l0_0) (hc0_0:l0_0.length≤c0_0) (hr0_1:Kd.C k158 w A0_1 l0_1.length l0_1) (hc0_1:l0_1.length≤c0_1) (hr1:Kd.C (Kd.int .i64) w A1 l1.length l1) (hc1:l1.length≤c1) (wq0_0:l0_0.length≤maxLen∧∀ x_,x_ ∈ l0_0→(Lit.int .i64 x_).wf=true) (wq0_1:l0_1.length≤maxLen∧∀ x_,x_ ∈ l0_1→((Lit.int .i64 x_.f0).wf=true)∧(x_.f1.length≤maxLen∧∀ x__,x__ ∈ x_.f1→(Lit.int .i64 x__).wf=true)) (wq1:l1.length≤maxLen∧∀ x_,x_ ∈ l1→(Lit.int .i64 x_).wf=true) :
  Calls Try.prog 11 #[.agg #[.slice A0_0 l0_0.length c0_0,.slice A0_1 l0_1.length c0_1],.slice A1 l1.length c1] w fun e w'=>e=.returned (.bool true)∧Below w.heap.size w w':=by
 have HR0_0:=qK hr0_0;have HC0_0:=qK hc0_0;clear hr0_0 hc0_0;have HR0_1:=qK hr0_1;have HC0_1:=qK hc0_1;clear hr0_1 hc0_1;have HR1:=qK hr1;have HC1:=qK hc1;clear hr1 hc1;have HB:=qK (Below.refl w.heap.size w);by_cases g0_:(l1.length:Int) > 1048576
 ·have g0_b:decide ((l1.length:Int) > 1048576)=true:=decide_eq_true g0_;clear g0_;go_enter Try.func11,Try.ntmps11
  go_wp2_with (first|((with_reducible refine gate_dst (N:=2) rfl ?_);refine box_event ?hg (N:=2) ?hd (cs:=#[.slice A0_0 l0_0.length c0_0,.slice A0_1 l0_1.length c0_1]) (t:=25) ?hr ?_;(case hd=>rfl);(case hg=>rfl);(case hr=>(go_simp;try rfl));intro gb1 hg w1 hbox hb;have HG1:=qK hg;have HST:=qK hb;have HB1:=qK (qT HB.out HST.out);have HS1:=qK (show w.heap.size≤w1.heap.size from HST.out.size);have HS1b:=qK (show gb1 < w1.heap.size from blk_lt hbox);have BK1:=qK hbox;have hc1_0_1:w1.cell? ⟨gb1,0,none⟩=some (.slice A0_0 l0_0.length c0_0):=(qC BK1.out 0).trans rfl;have hc1_1_1:w1.cell? ⟨gb1,1,none⟩=some (.slice A0_1 l0_1.length c0_1):=(qC BK1.out 1).trans rfl;clear hg hbox hb HST))
  go_ret
  exact ⟨rfl,HB1.out⟩
 have g0_b:decide ((l1.length:Int) > 1048576)=false:=decide_eq_false g0_;obtain ⟨s2_,Nr2_,q2_⟩:=laws_szQuery_x l0_0 l0_1 1048576 (by omega) (by omega) wq0_0 wq0_1;obtain ⟨kz2_,Nr2_⟩:=Nr2_;have N2:=qK Nr2_;clear Nr2_;by_cases g1_:s2_ < 0
 ·have g1_b:decide (s2_ < 0)=true:=decide_eq_true g1_;clear g1_ q2_;go_enter Try.func11,Try.ntmps11
  go_wp2_with (first|((with_reducible refine gate_dst (N:=2) rfl ?_);refine box_event ?hg (N:=2) ?hd (cs:=#[.slice A0_0 l0_0.length c0_0,.slice A0_1 l0_1.length c0_1]) (t:=25) ?hr ?_;(case hd=>rfl);(case hg=>rfl);(case hr=>(go_simp;try rfl));intro gb1 hg w1 hbox hb;have HG1:=qK hg;have HST:=qK hb;have HB1:=qK (qT HB.out HST.out);have HS1:=qK (show w.heap.size≤w1.heap.size from HST.out.size);have HS1b:=qK (show gb1 < w1.heap.size from blk_lt hbox);have BK1:=qK hbox;have hc1_0_1:w1.cell? ⟨gb1,0,none⟩=some (.slice A0_0 l0_0.length c0_0):=(qC BK1.out 0).trans rfl;have hc1_1_1:w1.cell? ⟨gb1,1,none⟩=some (.slice A0_1 l0_1.length c0_1):=(qC BK1.out 1).trans rfl;clear hg hbox hb HST)|((with_reducible refine gate_callee (f:=14) rfl ?_);refine goesL_ (some 25) rfl rfl Try.func14 (by kernel_rfl) rfl #[.agg #[.slice A0_0 l0_0.length c0_0,.slice A0_1 l0_1.length c0_1],.int .i64 1048576] rfl (by (try simp only [mT,mC,mN]);first|done|rfl|(simp only [lD,lT];rfl)) ?_;(with_reducible refine (laws_szQuery.calls (hr0_0:=cB HR0_0.out HB1.out) (hc0_0:=HC0_0.out) (hr0_1:=cB HR0_1.out HB1.out) (hc0_1:=HC0_1.out) (h:=N2.out)).mono ?_);rintro e w2 ⟨rfl,hb⟩;have HST:=qK (hb);have HB2:=qK (qT HB1.out HST.out);have HS2:=qK (show w1.heap.size≤w2.heap.size from HST.out.size);have BK1_:=qK (qB BK1.out HST.out);clear BK1;have BK1:=BK1_;clear BK1_;have hc1_0_2:w2.cell? ⟨gb1,0,none⟩=some (.slice A0_0 l0_0.length c0_0):=(qC BK1.out 0).trans rfl;have hc1_1_2:w2.cell? ⟨gb1,1,none⟩=some (.slice A0_1 l0_1.length c0_1):=(qC BK1.out 1).trans rfl;clear hb HST;clear HB1;refine ⟨_,rfl,?_⟩))
  go_ret
  exact ⟨rfl,HB2.out⟩
 have g1_b:decide (s2_ < 0)=false:=decide_eq_false g1_;have hz2_:szOk_laws_szQuery l0_0 l0_1:=by rcases q2_ with h_|h_;exact absurd h_ g1_;exact h_.1
 have hs2_:0≤s2_∧s2_≤1048576:=by rcases q2_ with h_|h_;exact absurd h_ g1_;exact h_.2
 clear q2_;obtain ⟨k_,⟨o0_,o1_,o2_⟩,P1,P2,P3⟩:=P l0_0 l0_1 l1 wq0_0 wq0_1 wq1 (by omega) hz2_;replace P3:okEarS o0_:=P3;obtain ⟨k3_,Nr3_⟩:=laws_toQuery_x l0_0 l0_1 hz2_;obtain ⟨k4_,Nr4_⟩:=laws_toIntS_x l1 (show l1.length≤1048576 by omega);have Nr5_:=P1;obtain ⟨k6_,Nr6_⟩:=laws_toQuery_x l0_0 l0_1 hz2_;obtain ⟨k9_,Nr9_⟩:=laws_toIntS_x l1 (show l1.length≤1048576 by omega);have Nr10_:=P2;obtain ⟨k11_,Nr11_⟩:=laws_eqEarS_x o0_ P3;obtain ⟨k12_,Nr12_⟩:=laws_toQuery_x l0_0 l0_1 hz2_;obtain ⟨k13_,Nr13_⟩:=laws_eqQuery_x l0_0 (cvAtomS l0_1) (okQuery_cv hz2_);obtain ⟨k14_,Nr14_⟩:=laws_toIntS_x l1 (show l1.length≤1048576 by omega);obtain ⟨k15_,Nr15_⟩:=laws_eqIntS_x l1 (show l1.length≤1048576 by omega);have hb16_:=cntQuery_sz hz2_;obtain ⟨k16_,Nr16_⟩:=laws_markQuery_x l0_0 (cvAtomS l0_1) 1 (okQuery_cv hz2_) (by omega) (by omega);obtain ⟨m16_,hm16_⟩:∃ z_,z_=1 + cntQuery l0_0 (cvAtomS l0_1):=⟨_,rfl⟩;rw [← hm16_] at Nr16_;obtain ⟨y16_0,hy16_0⟩:∃ z_,z_=(markedQuery l0_0 (cvAtomS l0_1) 1).1:=⟨_,rfl⟩;rw [← hy16_0] at Nr16_;clear hy16_0;obtain ⟨y16_1,hy16_1⟩:∃ z_,z_=(markedQuery l0_0 (cvAtomS l0_1) 1).2:=⟨_,rfl⟩;rw [← hy16_1] at Nr16_;clear hy16_1;have hb17_:=cntIntS_le _ (show l1.length≤1048576 by omega);obtain ⟨k17_,Nr17_⟩:=laws_markIntS_x l1 m16_ (show l1.length≤1048576 by omega) (by omega) (by omega);obtain ⟨m17_,hm17_⟩:∃ z_,z_=m16_ + cntIntS l1:=⟨_,rfl⟩;rw [← hm17_] at Nr17_;obtain ⟨y17_0,hy17_0⟩:∃ z_,z_=markedIntS l1.length m16_:=⟨_,rfl⟩;rw [← hy17_0] at Nr17_;clear hy17_0;obtain ⟨k18_,Nr18_⟩:=laws_eqEarS_x o0_ P3;have hb19_:=cntEarS_ok _ P3;obtain ⟨k19_,Nr19_⟩:=laws_markEarS_x o0_ 1 P3 (by omega) (by omega);obtain ⟨k20_,Nr20_⟩:=laws_heldEarS_x o0_ 1 P3 (by omega) (by omega);obtain ⟨m19_,hm19_⟩:∃ z_,z_=1 + cntEarS o0_:=⟨_,rfl⟩;rw [← hm19_] at Nr19_ Nr20_;obtain ⟨y19_0,hy19_0⟩:∃ z_,z_=markedEarS o0_ 1:=⟨_,rfl⟩;rw [← hy19_0] at Nr19_ Nr20_;clear hy19_0;have Nr25_:=Nr20_;obtain ⟨k21_,Nr21_⟩:=laws_toQuery_x l0_0 l0_1 hz2_;obtain ⟨k22_,Nr22_⟩:=laws_toIntS_x l1 (show l1.length≤1048576 by omega);have Nr23_:=P2;obtain ⟨k24_,Nr24_⟩:=laws_eqEarS_x o0_ P3;have N3:=qK Nr3_;have N4:=qK Nr4_;have N5:=qK Nr5_;have N6:=qK Nr6_;have N9:=qK Nr9_;have N10:=qK Nr10_;have N11:=qK Nr11_;have N12:=qK Nr12_;have N13:=qK Nr13_;have N14:=qK Nr14_;have N15:=qK Nr15_;have N16:=qK Nr16_;have N17:=qK Nr17_;have N18:=qK Nr18_;have N19:=qK Nr19_;have N20:=qK Nr20_;have N21:=qK Nr21_;have N22:=qK Nr22_;have N23:=qK Nr23_;have N24:=qK Nr24_;have N25:=qK Nr25_;have cdm17_:decide (m17_ < 0)=false:=decide_eq_false (by omega);have cdm19_:decide (m19_ < 0)=false:=decide_eq_false (by omega);have cnm19_:(m19_ != m19_)=false:=bne_self_eq_false _;have cno1_:(o1_ != o1_)=false:=bne_self_eq_false _;have cno2_:(o2_ != o2_)=false:=bne_self_eq_false _;clear P1 P2 P3 Nr3_ Nr4_ Nr5_ Nr6_ Nr9_ Nr10_ Nr11_ Nr12_ Nr13_ Nr14_ Nr15_ Nr16_ Nr17_ Nr18_ Nr19_ Nr20_ Nr21_ Nr22_ Nr23_ Nr24_ Nr25_ hm16_ hb16_ hm17_ hb17_ hm19_ hb19_;clear P g0_ g1_ hz2_ hs2_ wq0_0 wq0_1 wq1;go_enter Try.func11,Try.ntmps11
 go_upto_region 1 with (first|((with_reducible refine gate_dst (N:=2) rfl ?_);refine box_event ?hg (N:=2) ?hd (cs:=#[.slice A0_0 l0_0.length c0_0,.slice A0_1 l0_1.length c0_1]) (t:=25) ?hr ?_;(case hd=>rfl);(case hg=>rfl);(case hr=>(go_simp;try rfl));intro gb1 hg w1 hbox hb;have HG1:=qK hg;have HST:=qK hb;have HB1:=qK (qT HB.out HST.out);have HS1:=qK (show w.heap.size≤w1.heap.size from HST.out.size);have HS1b:=qK (show gb1 < w1.heap.size from blk_lt hbox);have BK1:=qK hbox;have hc1_0_1:w1.cell? ⟨gb1,0,none⟩=some (.slice A0_0 l0_0.length c0_0):=(qC BK1.out 0).trans rfl;have hc1_1_1:w1.cell? ⟨gb1,1,none⟩=some (.slice A0_1 l0_1.length c0_1):=(qC BK1.out 1).trans rfl;clear hg hbox hb HST))
 go_upto_region 5 with (first|((with_reducible refine gate_callee (f:=14) rfl ?_);refine goesL_ (some 25) rfl rfl Try.func14 (by kernel_rfl) rfl #[.agg #[.slice A0_0 l0_0.length c0_0,.slice A0_1 l0_1.length c0_1],.int .i64 1048576] rfl (by (try simp only [mT,mC,mN]);first|done|rfl|(simp only [lD,lT];rfl)) ?_;(with_reducible refine (laws_szQuery.calls (hr0_0:=cB HR0_0.out HB1.out) (hc0_0:=HC0_0.out) (hr0_1:=cB HR0_1.out HB1.out) (hc0_1:=HC0_1.out) (h:=N2.out)).mono ?_);rintro e w2 ⟨rfl,hb⟩;have HST:=qK (hb);have HB2:=qK (qT HB1.out HST.out);have HS2:=qK (show w1.heap.size≤w2.heap.size from HST.out.size);have BK1_:=qK (qB BK1.out HST.out);clear BK1;have BK1:=BK1_;clear BK1_;have hc1_0_2:w2.cell? ⟨gb1,0,none⟩=some (.slice A0_0 l0_0.length c0_0):=(qC BK1.out 0).trans rfl;have hc1_1_2:w2.cell? ⟨gb1,1,none⟩=some (.slice A0_1 l0_1.length c0_1):=(qC BK1.out 1).trans rfl;clear hb HST;clear HB1;refine ⟨_,rfl,?_⟩))
 go_upto_region 8 with (first|((with_reducible refine gate_callee (f:=16) rfl ?_);refine goesL_ (some 30) rfl rfl Try.func16 (by kernel_rfl) rfl #[.agg #[.slice A0_0 l0_0.length c0_0,.slice A0_1 l0_1.length c0_1]] rfl (by (try simp only [mT,mC,mN]);first|done|rfl|(simp only [lD,lT];rfl)) ?_;(with_reducible refine (laws_toQuery.calls (hr0_0:=cB HR0_0.out HB2.out) (hc0_0:=HC0_0.out) (hr0_1:=cB HR0_1.out HB2.out) (hc0_1:=HC0_1.out) (h:=N3.out)).mono ?_);rintro e w3 ⟨v0_,v1_,rfl,ho0,ho1,hb⟩;have HST:=qK (hb);have HB3:=qK (qT HB2.out HST.out);have HS3:=qK (show w2.heap.size≤w3.heap.size from HST.out.size);obtain ⟨Af2,cf2,ef2⟩:=Kd.R_slice ho0;subst ef2;obtain ⟨Af3,cf3,ef3⟩:=Kd.S_slice ho1;subst ef3;have F2:=qK (show Kd.R (Kd.int .i64) 3 w3 w.heap.size (fun k_=>w2.heap.size≤k_∧k_ < w3.heap.size∧some k_=(.slice Af2 l0_0.length cf2:Value).ownBlock) (.slice Af2 l0_0.length cf2) l0_0 from Kd.R_lower (Kd.R_mono (Kd.R_bound (Kd.R_tight rfl ho0)) (fun k_ hk_=>⟨hk_.2.1,hk_.2.2.1,hk_.1⟩)) (qZ HB2.out));have F3:=qK (show Kd.S k97 97 w3 w.heap.size (fun k_=>w2.heap.size≤k_∧k_ < w3.heap.size∧some k_ ≠ (.slice Af2 l0_0.length cf2:Value).ownBlock) (.slice Af3 (cvAtomS l0_1).length cf3) (cvAtomS l0_1) from Kd.S_lower (Kd.S_mono (Kd.S_bound ho1) (fun k_ hk_=>⟨hk_.2.1,hk_.2.2.1,(by have h_:=hk_.1;first|exact h_|exact h_.1|exact h_.2|exact h_.2.1|exact h_.2.2|simp_all)⟩)) (qZ HB2.out));have BK1_:=qK (qB BK1.out HST.out);clear BK1;have BK1:=BK1_;clear BK1_;have hc1_0_3:w3.cell? ⟨gb1,0,none⟩=some (.slice A0_0 l0_0.length c0_0):=(qC BK1.out 0).trans rfl;have hc1_1_3:w3.cell? ⟨gb1,1,none⟩=some (.slice A0_1 l0_1.length c0_1):=(qC BK1.out 1).trans rfl;clear hb HST ho0 ho1;clear HB2;refine ⟨_,rfl,?_⟩)|((with_reducible refine gate_callee (f:=17) rfl ?_);refine goesL_ (some 32) rfl rfl Try.func17 (by kernel_rfl) rfl #[.slice A1 l1.length c1] rfl (by (try simp only [mT,mC,mN]);first|done|rfl|(simp only [lD,lT];rfl)) ?_;(with_reducible refine (laws_toIntS.calls (hr0:=cB HR1.out HB3.out) (hc0:=HC1.out) (h:=N4.out)).mono ?_);rintro e w4 ⟨v0_,rfl,ho0,hb⟩;have HST:=qK (hb);have HB4:=qK (qT HB3.out HST.out);have HS4:=qK (show w3.heap.size≤w4.heap.size from HST.out.size);obtain ⟨Af4,cf4,ef4⟩:=Kd.R_slice ho0;subst ef4;have F4:=qK (show Kd.R (Kd.int .i64) 3 w4 w.heap.size (fun k_=>w3.heap.size≤k_∧k_ < w4.heap.size) (.slice Af4 l1.length cf4) l1 from Kd.R_lower (Kd.R_mono (Kd.R_bound ho0) (fun k_ hk_=>⟨hk_.2.1,hk_.2.2.1⟩)) (qZ HB3.out));have F2_:=qK (rB F2.out HST.out);clear F2;have F2:=F2_;clear F2_;have F3_:=qK (Kd.S_below F3.out HST.out);clear F3;have F3:=F3_;clear F3_;have BK1_:=qK (qB BK1.out HST.out);clear BK1;have BK1:=BK1_;clear BK1_;have hc1_0_4:w4.cell? ⟨gb1,0,none⟩=some (.slice A0_0 l0_0.length c0_0):=(qC BK1.out 0).trans rfl;have hc1_1_4:w4.cell? ⟨gb1,1,none⟩=some (.slice A0_1 l0_1.length c0_1):=(qC BK1.out 1).trans rfl;clear hb HST ho0;clear HB3;refine ⟨_,rfl,?_⟩)|((with_reducible refine gate_callee (f:=60) rfl ?_);refine goesL_ (some 33) rfl rfl Try.func60 (by kernel_rfl) rfl #[.agg #[.slice Af2 l0_0.length cf2,.slice Af3 (cvAtomS l0_1).length cf3],.slice Af4 l1.length cf4] rfl (by (try simp only [mT,mC,mN]);first|done|rfl|(simp only [lD,lT];rfl)) ?_;(with_reducible refine (spec_EarsOf.calls (hr0_0:=(Kd.R_reads' F2.out).2.2) (hc0_0:=(Kd.R_reads' F2.out).2.1) (hr0_1:=(Kd.S_reads' F3.out).2.2) (hc0_1:=(Kd.S_reads' F3.out).2.1) (hr1:=(Kd.R_reads' F4.out).2.2) (hc1:=(Kd.R_reads' F4.out).2.1) (h:=N5.out)).mono ?_);rintro e w5 ⟨v0_,rfl,ho0,hb⟩;have HST:=qK (hb);have HB5:=qK (qT HB4.out HST.out);have HS5:=qK (show w4.heap.size≤w5.heap.size from HST.out.size);obtain ⟨Af5,cf5,ef5⟩:=Kd.R_slice ho0;subst ef5;have F5:=qK (show Kd.R k106 106 w5 w.heap.size (fun k_=>w4.heap.size≤k_∧k_ < w5.heap.size) (.slice Af5 o0_.length cf5) o0_ from Kd.R_lower (Kd.R_mono (Kd.R_bound ho0) (fun k_ hk_=>⟨hk_.2.1,hk_.2.2.1⟩)) (qZ HB4.out));clear F2;clear F3;clear F4;have BK1_:=qK (qB BK1.out HST.out);clear BK1;have BK1:=BK1_;clear BK1_;have hc1_0_5:w5.cell? ⟨gb1,0,none⟩=some (.slice A0_0 l0_0.length c0_0):=(qC BK1.out 0).trans rfl;have hc1_1_5:w5.cell? ⟨gb1,1,none⟩=some (.slice A0_1 l0_1.length c0_1):=(qC BK1.out 1).trans rfl;clear hb HST ho0;clear HB4;refine ⟨_,rfl,?_⟩))
 go_upto_region 9 with (first|((with_reducible refine gate_callee (f:=16) rfl ?_);refine goesL_ (some 38) rfl rfl Try.func16 (by kernel_rfl) rfl #[.agg #[.slice A0_0 l0_0.length c0_0,.slice A0_1 l0_1.length c0_1]] rfl (by (try simp only [mT,mC,mN]);first|done|rfl|(simp only [lD,lT];rfl)) ?_;(with_reducible refine (laws_toQuery.calls (hr0_0:=cB HR0_0.out HB5.out) (hc0_0:=HC0_0.out) (hr0_1:=cB HR0_1.out HB5.out) (hc0_1:=HC0_1.out) (h:=N6.out)).mono ?_);rintro e w6 ⟨v0_,v1_,rfl,ho0,ho1,hb⟩;have HST:=qK (hb);have HB6:=qK (qT HB5.out HST.out);have HS6:=qK (show w5.heap.size≤w6.heap.size from HST.out.size);obtain ⟨Af6,cf6,ef6⟩:=Kd.R_slice ho0;subst ef6;obtain ⟨Af7,cf7,ef7⟩:=Kd.S_slice ho1;subst ef7;have F6:=qK (show Kd.R (Kd.int .i64) 3 w6 w.heap.size (fun k_=>w5.heap.size≤k_∧k_ < w6.heap.size∧some k_=(.slice Af6 l0_0.length cf6:Value).ownBlock) (.slice Af6 l0_0.length cf6) l0_0 from Kd.R_lower (Kd.R_mono (Kd.R_bound (Kd.R_tight rfl ho0)) (fun k_ hk_=>⟨hk_.2.1,hk_.2.2.1,hk_.1⟩)) (qZ HB5.out));have F7:=qK (show Kd.S k97 97 w6 w.heap.size (fun k_=>w5.heap.size≤k_∧k_ < w6.heap.size∧some k_ ≠ (.slice Af6 l0_0.length cf6:Value).ownBlock) (.slice Af7 (cvAtomS l0_1).length cf7) (cvAtomS l0_1) from Kd.S_lower (Kd.S_mono (Kd.S_bound ho1) (fun k_ hk_=>⟨hk_.2.1,hk_.2.2.1,(by have h_:=hk_.1;first|exact h_|exact h_.1|exact h_.2|exact h_.2.1|exact h_.2.2|simp_all)⟩)) (qZ HB5.out));have F5_:=qK (rB F5.out HST.out);clear F5;have F5:=F5_;clear F5_;have BK1_:=qK (qB BK1.out HST.out);clear BK1;have BK1:=BK1_;clear BK1_;have hc1_0_6:w6.cell? ⟨gb1,0,none⟩=some (.slice A0_0 l0_0.length c0_0):=(qC BK1.out 0).trans rfl;have hc1_1_6:w6.cell? ⟨gb1,1,none⟩=some (.slice A0_1 l0_1.length c0_1):=(qC BK1.out 1).trans rfl;clear hb HST ho0 ho1;clear HB5;refine ⟨_,rfl,?_⟩)|((with_reducible refine gate_dst (N:=9) rfl ?_);refine box_event ?hg (N:=9) ?hd (cs:=#[.slice none 0 0,.slice none 0 0]) (t:=32) ?hr ?_;(case hd=>rfl);(case hg=>rfl);(case hr=>(go_simp;try rfl));intro gb8 hg w7 hbox hb;have HG8:=qK hg;have HST:=qK hb;have HB7:=qK (qT HB6.out HST.out);have HS7:=qK (show w6.heap.size≤w7.heap.size from HST.out.size);have HS7b:=qK (show gb8 < w7.heap.size from blk_lt hbox);have F5_:=qK (rB F5.out HST.out);clear F5;have F5:=F5_;clear F5_;have F6_:=qK (rB F6.out HST.out);clear F6;have F6:=F6_;clear F6_;have F7_:=qK (Kd.S_below F7.out HST.out);clear F7;have F7:=F7_;clear F7_;have BK1_:=qK (qB BK1.out HST.out);clear BK1;have BK1:=BK1_;clear BK1_;have hc1_0_7:w7.cell? ⟨gb1,0,none⟩=some (.slice A0_0 l0_0.length c0_0):=(qC BK1.out 0).trans rfl;have hc1_1_7:w7.cell? ⟨gb1,1,none⟩=some (.slice A0_1 l0_1.length c0_1):=(qC BK1.out 1).trans rfl;have BK8:=qK hbox;have hc8_0_7:w7.cell? ⟨gb8,0,none⟩=some (.slice none 0 0):=(qC BK8.out 0).trans rfl;have hc8_1_7:w7.cell? ⟨gb8,1,none⟩=some (.slice none 0 0):=(qC BK8.out 1).trans rfl;have hf8_0_7:=qF BK8.out 0;have hf8_1_7:=qF BK8.out 1;clear hg hbox hb HST HB6))
 obtain ⟨w8,hwS⟩:∃ z_,z_=((w7.setCell ⟨gb8,0,none⟩ (.slice Af6 l0_0.length cf6)).setCell ⟨gb8,1,none⟩ (.slice Af7 (cvAtomS l0_1).length cf7)):=⟨_,rfl⟩;rw [← hwS];have HGE8:=qK (show w.heap.size≤gb8 from by rw [HG8.out];have z1_:=HS1.out;have z2_:=HS2.out;have z3_:=HS3.out;have z4_:=HS4.out;have z5_:=HS5.out;have z6_:=HS6.out;omega);have HKK:=qK (show Kept w7 w8 (fun k_=>k_=gb8) from by rw [hwS];exact ((((Kept.refl w7 (fun k_=>k_=gb8)).setCell (p:=⟨gb8,0,none⟩) (.inl rfl) _)).setCell (p:=⟨gb8,1,none⟩) (.inl rfl) _));have HB8:=qK (show Below w.heap.size w w8 from by rw [hwS];exact (qS (qS HB7.out HGE8.out) HGE8.out));have HS8:=qK (show w7.heap.size≤w8.heap.size from HKK.out.1);have BK8_:=qK (show w8.heap[gb8]?=some (.cells #[.slice Af6 l0_0.length cf6,.slice Af7 (cvAtomS l0_1).length cf7] 32 (0,0)) from by rw [hwS];exact (qP (cs:=#[.slice Af6 l0_0.length cf6,.slice none 0 0]) (qP (cs:=#[.slice none 0 0,.slice none 0 0]) BK8.out 0 _ rfl) 1 _ rfl));clear BK8;have BK8:=BK8_;clear BK8_;have F5_:=qK (Kd.R_kept F5.out HKK.out (fun k_ h1_ h2_=>by have h5_:=h1_.1;have h6_:=h1_.2;have z0_:=HG8.out;have zb_:=HS7b.out;subst h2_;have z1_:=HS1.out;have z2_:=HS2.out;have z3_:=HS3.out;have z4_:=HS4.out;have z5_:=HS5.out;have z6_:=HS6.out;have z7_:=HS7.out;omega));clear F5;have F5:=F5_;clear F5_;have F6_:=qK (Kd.R_kept F6.out HKK.out (fun k_ h1_ h2_=>by have h5_:=h1_.1;have h6_:=h1_.2.1;have z0_:=HG8.out;have zb_:=HS7b.out;subst h2_;have z1_:=HS1.out;have z2_:=HS2.out;have z3_:=HS3.out;have z4_:=HS4.out;have z5_:=HS5.out;have z6_:=HS6.out;have z7_:=HS7.out;omega));clear F6;have F6:=F6_;clear F6_;have F7_:=qK (Kd.S_kept F7.out HKK.out (fun k_ h1_ h2_=>by have h5_:=h1_.1;have h6_:=h1_.2.1;have z0_:=HG8.out;have zb_:=HS7b.out;subst h2_;have z1_:=HS1.out;have z2_:=HS2.out;have z3_:=HS3.out;have z4_:=HS4.out;have z5_:=HS5.out;have z6_:=HS6.out;have z7_:=HS7.out;omega));clear F7;have F7:=F7_;clear F7_;have BK1_:=qK (blk_kept BK1.out HKK.out (fun e_=>by have z0_:=HG8.out;have z1_:=HG1.out;have y1_:=HS1.out;have y2_:=HS2.out;have y3_:=HS3.out;have y4_:=HS4.out;have y5_:=HS5.out;have y6_:=HS6.out;have y7_:=HS7.out;have x1_:=HS1b.out;have x7_:=HS7b.out;omega));clear BK1;have BK1:=BK1_;clear BK1_;have hc1_0_8:w8.cell? ⟨gb1,0,none⟩=some (.slice A0_0 l0_0.length c0_0):=(qC BK1.out 0).trans rfl;have hc1_1_8:w8.cell? ⟨gb1,1,none⟩=some (.slice A0_1 l0_1.length c0_1):=(qC BK1.out 1).trans rfl;have hc8_0_8:w8.cell? ⟨gb8,0,none⟩=some (.slice Af6 l0_0.length cf6):=(qC BK8.out 0).trans rfl;have hc8_1_8:w8.cell? ⟨gb8,1,none⟩=some (.slice Af7 (cvAtomS l0_1).length cf7):=(qC BK8.out 1).trans rfl;clear hwS HKK HB7;go_upto_region 10 with (first|((with_reducible refine gate_callee (f:=17) rfl ?_);refine goesL_ (some 40) rfl rfl Try.func17 (by kernel_rfl) rfl #[.slice A1 l1.length c1] rfl (by (try simp only [mT,mC,mN]);first|done|rfl|(simp only [lD,lT];rfl)) ?_;(with_reducible refine (laws_toIntS.calls (hr0:=cB HR1.out HB8.out) (hc0:=HC1.out) (h:=N9.out)).mono ?_);rintro e w9 ⟨v0_,rfl,ho0,hb⟩;have HST:=qK (hb);have HB9:=qK (qT HB8.out HST.out);have HS9:=qK (show w8.heap.size≤w9.heap.size from HST.out.size);obtain ⟨Af9,cf9,ef9⟩:=Kd.R_slice ho0;subst ef9;have F9:=qK (show Kd.R (Kd.int .i64) 3 w9 w.heap.size (fun k_=>w8.heap.size≤k_∧k_ < w9.heap.size) (.slice Af9 l1.length cf9) l1 from Kd.R_lower (Kd.R_mono (Kd.R_bound ho0) (fun k_ hk_=>⟨hk_.2.1,hk_.2.2.1⟩)) (qZ HB8.out));have F5_:=qK (rB F5.out HST.out);clear F5;have F5:=F5_;clear F5_;have F6_:=qK (rB F6.out HST.out);clear F6;have F6:=F6_;clear F6_;have F7_:=qK (Kd.S_below F7.out HST.out);clear F7;have F7:=F7_;clear F7_;have BK1_:=qK (qB BK1.out HST.out);clear BK1;have BK1:=BK1_;clear BK1_;have hc1_0_9:w9.cell? ⟨gb1,0,none⟩=some (.slice A0_0 l0_0.length c0_0):=(qC BK1.out 0).trans rfl;have hc1_1_9:w9.cell? ⟨gb1,1,none⟩=some (.slice A0_1 l0_1.length c0_1):=(qC BK1.out 1).trans rfl;have BK8_:=qK (qB BK8.out HST.out);clear BK8;have BK8:=BK8_;clear BK8_;have hc8_0_9:w9.cell? ⟨gb8,0,none⟩=some (.slice Af6 l0_0.length cf6):=(qC BK8.out 0).trans rfl;have hc8_1_9:w9.cell? ⟨gb8,1,none⟩=some (.slice Af7 (cvAtomS l0_1).length cf7):=(qC BK8.out 1).trans rfl;clear hb HST ho0;clear HB8;refine ⟨_,rfl,?_⟩))
 go_upto_region 11 with (first|((with_reducible refine gate_callee (f:=61) rfl ?_);refine goesL_ (some 44) rfl rfl Try.func61 (by kernel_rfl) rfl #[.agg #[.slice Af6 l0_0.length cf6,.slice Af7 (cvAtomS l0_1).length cf7],.slice Af9 l1.length cf9] rfl (by (try simp only [mT,mC,mN]);first|done|rfl|(simp only [lD,lT];rfl)) ?_;(with_reducible refine (impl_EarsOf.calls (hr0_0:=(Kd.R_reads' F6.out).2.2) (hc0_0:=(Kd.R_reads' F6.out).2.1) (hr0_1:=(Kd.S_reads' F7.out).2.2) (hc0_1:=(Kd.S_reads' F7.out).2.1) (hr1:=(Kd.R_reads' F9.out).2.2) (hc1:=(Kd.R_reads' F9.out).2.1) (h:=N10.out)).mono ?_);rintro e w10 ⟨v0_,rfl,ho0,hb⟩;have HST:=qK (hb);have HB10:=qK (qT HB9.out HST.out);have HS10:=qK (show w9.heap.size≤w10.heap.size from HST.out.size);obtain ⟨Af10,cf10,ef10⟩:=Kd.R_slice ho0;subst ef10;have F10:=qK (show Kd.R k106 106 w10 w.heap.size (fun k_=>w9.heap.size≤k_∧k_ < w10.heap.size) (.slice Af10 o0_.length cf10) o0_ from Kd.R_lower (Kd.R_mono (Kd.R_bound ho0) (fun k_ hk_=>⟨hk_.2.1,hk_.2.2.1⟩)) (qZ HB9.out));have F5_:=qK (rB F5.out HST.out);clear F5;have F5:=F5_;clear F5_;have F6_:=qK (rB F6.out HST.out);clear F6;have F6:=F6_;clear F6_;have F7_:=qK (Kd.S_below F7.out HST.out);clear F7;have F7:=F7_;clear F7_;have F9_:=qK (rB F9.out HST.out);clear F9;have F9:=F9_;clear F9_;have BK1_:=qK (qB BK1.out HST.out);clear BK1;have BK1:=BK1_;clear BK1_;have hc1_0_10:w10.cell? ⟨gb1,0,none⟩=some (.slice A0_0 l0_0.length c0_0):=(qC BK1.out 0).trans rfl;have hc1_1_10:w10.cell? ⟨gb1,1,none⟩=some (.slice A0_1 l0_1.length c0_1):=(qC BK1.out 1).trans rfl;have BK8_:=qK (qB BK8.out HST.out);clear BK8;have BK8:=BK8_;clear BK8_;have hc8_0_10:w10.cell? ⟨gb8,0,none⟩=some (.slice Af6 l0_0.length cf6):=(qC BK8.out 0).trans rfl;have hc8_1_10:w10.cell? ⟨gb8,1,none⟩=some (.slice Af7 (cvAtomS l0_1).length cf7):=(qC BK8.out 1).trans rfl;clear hb HST ho0;clear HB9;refine ⟨_,rfl,?_⟩))
 go_upto_region 13 with (first|((with_reducible refine gate_callee (f:=30) rfl ?_);refine goesL_ (some 50) rfl rfl Try.func30 (by kernel_rfl) rfl #[.slice Af10 o0_.length cf10,.slice Af5 o0_.length cf5] rfl (by (try simp only [mT,mC,mN]);first|done|rfl|(simp only [lD,lT];rfl)) ?_;(with_reducible refine (laws_eqEarS.calls (hr0:=(Kd.R_reads' F10.out).2.2) (hc0:=(Kd.R_reads' F10.out).2.1) (hr1:=(Kd.R_reads' F5.out).2.2) (hc1:=(Kd.R_reads' F5.out).2.1) (h:=N11.out)).mono ?_);rintro e w11 ⟨rfl,hb⟩;have HST:=qK (hb);have HB11:=qK (qT HB10.out HST.out);have HS11:=qK (show w10.heap.size≤w11.heap.size from HST.out.size);have F5_:=qK (rB F5.out HST.out);clear F5;have F5:=F5_;clear F5_;have F6_:=qK (rB F6.out HST.out);clear F6;have F6:=F6_;clear F6_;have F7_:=qK (Kd.S_below F7.out HST.out);clear F7;have F7:=F7_;clear F7_;have F9_:=qK (rB F9.out HST.out);clear F9;have F9:=F9_;clear F9_;have F10_:=qK (rB F10.out HST.out);clear F10;have F10:=F10_;clear F10_;have BK1_:=qK (qB BK1.out HST.out);clear BK1;have BK1:=BK1_;clear BK1_;have hc1_0_11:w11.cell? ⟨gb1,0,none⟩=some (.slice A0_0 l0_0.length c0_0):=(qC BK1.out 0).trans rfl;have hc1_1_11:w11.cell? ⟨gb1,1,none⟩=some (.slice A0_1 l0_1.length c0_1):=(qC BK1.out 1).trans rfl;have BK8_:=qK (qB BK8.out HST.out);clear BK8;have BK8:=BK8_;clear BK8_;have hc8_0_11:w11.cell? ⟨gb8,0,none⟩=some (.slice Af6 l0_0.length cf6):=(qC BK8.out 0).trans rfl;have hc8_1_11:w11.cell? ⟨gb8,1,none⟩=some (.slice Af7 (cvAtomS l0_1).length cf7):=(qC BK8.out 1).trans rfl;clear hb HST;clear HB10;refine ⟨_,rfl,?_⟩))
 go_upto_region 13 with (fail)
 go_wp2_with (fail)
 have F5_:=qK (rW F5.out);clear F5;have F5:=F5_;clear F5_;have F6_:=qK (rW F6.out);clear F6;have F6:=F6_;clear F6_;have F7_:=qK (Kd.S_drew F7.out);clear F7;have F7:=F7_;clear F7_;have F9_:=qK (rW F9.out);clear F9;have F9:=F9_;clear F9_;have F10_:=qK (rW F10.out);clear F10;have F10:=F10_;clear F10_;have BK1_:=qK (qW BK1.out);clear BK1;have BK1:=BK1_;clear BK1_;have BK8_:=qK (qW BK8.out);clear BK8;have BK8:=BK8_;clear BK8_;have HB11_:=qK (qO HB11.out);clear HB11;have HB11:=HB11_;clear HB11_;have HSD13:=qK (show w11.heap.size=w11.drew.heap.size from rfl);refine start_ (n:=5) (S:=fun w'=>w'.cell? ⟨gb8,0,none⟩=some (.slice Af6 l0_0.length cf6)∧w'.cell? ⟨gb8,1,none⟩=some (.slice Af7 (cvAtomS l0_1).length cf7)∧w'.cell? ⟨gb1,0,none⟩=some (.slice A0_0 l0_0.length c0_0)∧w'.cell? ⟨gb1,1,none⟩=some (.slice A0_1 l0_1.length c0_1)) (ds:=[]) #[Z,Z,Z,Z,Z] (by kernel_rfl) rfl rfl ⟨(qC BK8.out 0).trans rfl,(qC BK8.out 1).trans rfl,(qC BK1.out 0).trans rfl,(qC BK1.out 1).trans rfl⟩ (fun hHeld=>?_);generalize w11.drew=wd13 at F5 F6 F7 F9 F10 BK1 BK8  HB11 HSD13 hHeld ⊢
 have HSE13:=qK (show w11.heap.size≤wd13.heap.size from Nat.le_of_eq HSD13.out);refine take_ (i:=0) (N:=some 62) (v:=?_) (a':=?_) #[Y,Z,Z,Z,Z] rfl rfl (by kernel_rfl) (fun _ _ _ h=>h) (Or.inl ⟨by rfl,?_⟩) hHeld ?_ ?_;rotate_left
 ·rintro w' ⟨s0,s1,s2,s3⟩;go_simp;with_reducible rfl
 rotate_left
 ·simp only [Act.put,sIb,sZ,sS,i64_w,i32_w];rfl
 refine take_ (i:=1) (N:=some 63) (v:=?_) (a':=?_) #[Y,Y,Z,Z,Z] rfl rfl (by kernel_rfl) (fun _ _ _ h=>h) (Or.inl ⟨by rfl,?_⟩) hHeld ?_ ?_;rotate_left
 ·rintro w' ⟨s0,s1,s2,s3⟩;go_simp;with_reducible rfl
 rotate_left
 ·simp only [Act.put,sIb,sZ,sS,i64_w,i32_w];rfl
 refine one_ (i:=2) (N:=some 64) #[Y,Y,Y,Z,Z] rfl rfl (by kernel_rfl) (by decide) (fun K hK=>?_);refine goes_ Try.func16 (by kernel_rfl) rfl #[.agg #[.slice A0_0 l0_0.length c0_0,.slice A0_1 l0_1.length c0_1]] (by rfl) rfl rfl (by (try simp only [mT,mC,mN]);first|done|rfl|(simp only [lD,lT];rfl)) ?_;(with_reducible refine (laws_toQuery.calls (hr0_0:=cB HR0_0.out HB11.out) (hc0_0:=HC0_0.out) (hr0_1:=cB HR0_1.out HB11.out) (hc0_1:=HC0_1.out) (h:=N12.out)).mono ?_);rintro e w12 ⟨v0_,v1_,rfl,ho0,ho1,hb⟩;refine ⟨_,rfl,?_⟩;have HST:=qK (hb);have HB12:=qK (qT HB11.out HST.out);have HS12:=qK (show wd13.heap.size≤w12.heap.size from HST.out.size);obtain ⟨Af11,cf11,ef11⟩:=Kd.R_slice ho0;subst ef11;obtain ⟨Af12,cf12,ef12⟩:=Kd.S_slice ho1;subst ef12;have F11:=qK (show Kd.R (Kd.int .i64) 3 w12 w.heap.size (fun k_=>wd13.heap.size≤k_∧k_ < w12.heap.size∧some k_=(.slice Af11 l0_0.length cf11:Value).ownBlock) (.slice Af11 l0_0.length cf11) l0_0 from Kd.R_lower (Kd.R_mono (Kd.R_bound (Kd.R_tight rfl ho0)) (fun k_ hk_=>⟨hk_.2.1,hk_.2.2.1,hk_.1⟩)) (qZ HB11.out));have F12:=qK (show Kd.S k97 97 w12 w.heap.size (fun k_=>wd13.heap.size≤k_∧k_ < w12.heap.size∧some k_ ≠ (.slice Af11 l0_0.length cf11:Value).ownBlock) (.slice Af12 (cvAtomS l0_1).length cf12) (cvAtomS l0_1) from Kd.S_lower (Kd.S_mono (Kd.S_bound ho1) (fun k_ hk_=>⟨hk_.2.1,hk_.2.2.1,(by have h_:=hk_.1;first|exact h_|exact h_.1|exact h_.2|exact h_.2.1|exact h_.2.2|simp_all)⟩)) (qZ HB11.out));have F5_:=qK (rB F5.out HST.out);clear F5;have F5:=F5_;clear F5_;have F6_:=qK (rB F6.out HST.out);clear F6;have F6:=F6_;clear F6_;have F7_:=qK (Kd.S_below F7.out HST.out);clear F7;have F7:=F7_;clear F7_;have F9_:=qK (rB F9.out HST.out);clear F9;have F9:=F9_;clear F9_;have F10_:=qK (rB F10.out HST.out);clear F10;have F10:=F10_;clear F10_;have BK1_:=qK (qB BK1.out HST.out);clear BK1;have BK1:=BK1_;clear BK1_;have hc1_0_12:w12.cell? ⟨gb1,0,none⟩=some (.slice A0_0 l0_0.length c0_0):=(qC BK1.out 0).trans rfl;have hc1_1_12:w12.cell? ⟨gb1,1,none⟩=some (.slice A0_1 l0_1.length c0_1):=(qC BK1.out 1).trans rfl;have BK8_:=qK (qB BK8.out HST.out);clear BK8;have BK8:=BK8_;clear BK8_;have hc8_0_12:w12.cell? ⟨gb8,0,none⟩=some (.slice Af6 l0_0.length cf6):=(qC BK8.out 0).trans rfl;have hc8_1_12:w12.cell? ⟨gb8,1,none⟩=some (.slice Af7 (cvAtomS l0_1).length cf7):=(qC BK8.out 1).trans rfl;clear hb HST ho0 ho1;clear HB11;refine hK.out _ _ ⟨(qC BK8.out 0).trans rfl,(qC BK8.out 1).trans rfl,(qC BK1.out 0).trans rfl,(qC BK1.out 1).trans rfl⟩ (fun hHeld=>?_);clear hK K;refine norm_ (a':=?_) ?_ ?_;rotate_left
 ·show Act.put _ (some 64) _=_
  simp only [Act.put,sIb,sZ,sS,i64_w,i32_w];rfl
 refine one_ (i:=3) (N:=some 65) #[Y,Y,Y,Y,Z] rfl rfl (by kernel_rfl) (by decide) (fun K hK=>?_);refine goes_ Try.func20 (by kernel_rfl) rfl #[.agg #[.slice Af6 l0_0.length cf6,.slice Af7 (cvAtomS l0_1).length cf7],.agg #[.slice Af11 l0_0.length cf11,.slice Af12 (cvAtomS l0_1).length cf12]] (by rfl) rfl rfl (by (try simp only [mT,mC,mN]);first|done|rfl|(simp only [lD,lT];rfl)) ?_;(with_reducible refine (laws_eqQuery.calls (hr0_0:=(Kd.R_reads' F6.out).2.2) (hc0_0:=(Kd.R_reads' F6.out).2.1) (hr0_1:=(Kd.S_reads' F7.out).2.2) (hc0_1:=(Kd.S_reads' F7.out).2.1) (hr1_0:=(Kd.R_reads' F11.out).2.2) (hc1_0:=(Kd.R_reads' F11.out).2.1) (hr1_1:=(Kd.S_reads' F12.out).2.2) (hc1_1:=(Kd.S_reads' F12.out).2.1) (h:=N13.out)).mono ?_);rintro e w13 ⟨rfl,hb⟩;refine ⟨_,rfl,?_⟩;have HST:=qK (hb);have HB13:=qK (qT HB12.out HST.out);have HS13:=qK (show w12.heap.size≤w13.heap.size from HST.out.size);have F5_:=qK (rB F5.out HST.out);clear F5;have F5:=F5_;clear F5_;have F6_:=qK (rB F6.out HST.out);clear F6;have F6:=F6_;clear F6_;have F7_:=qK (Kd.S_below F7.out HST.out);clear F7;have F7:=F7_;clear F7_;have F9_:=qK (rB F9.out HST.out);clear F9;have F9:=F9_;clear F9_;have F10_:=qK (rB F10.out HST.out);clear F10;have F10:=F10_;clear F10_;clear F11;clear F12;have BK1_:=qK (qB BK1.out HST.out);clear BK1;have BK1:=BK1_;clear BK1_;have hc1_0_13:w13.cell? ⟨gb1,0,none⟩=some (.slice A0_0 l0_0.length c0_0):=(qC BK1.out 0).trans rfl;have hc1_1_13:w13.cell? ⟨gb1,1,none⟩=some (.slice A0_1 l0_1.length c0_1):=(qC BK1.out 1).trans rfl;have BK8_:=qK (qB BK8.out HST.out);clear BK8;have BK8:=BK8_;clear BK8_;have hc8_0_13:w13.cell? ⟨gb8,0,none⟩=some (.slice Af6 l0_0.length cf6):=(qC BK8.out 0).trans rfl;have hc8_1_13:w13.cell? ⟨gb8,1,none⟩=some (.slice Af7 (cvAtomS l0_1).length cf7):=(qC BK8.out 1).trans rfl;clear hb HST;clear HB12;refine hK.out _ _ ⟨(qC BK8.out 0).trans rfl,(qC BK8.out 1).trans rfl,(qC BK1.out 0).trans rfl,(qC BK1.out 1).trans rfl⟩ (fun hHeld=>?_);clear hK K;refine norm_ (a':=?_) ?_ ?_;rotate_left
 ·show Act.put _ (some 65) _=_
  simp only [Act.put,sIb,sZ,sS,i64_w,i32_w];rfl
 refine pure_ (i:=4) (N:=some 66) (v:=?_) (a':=?_) #[Y,Y,Y,Y,Y] rfl rfl (by kernel_rfl) (fun _ _ _ h=>h) (Or.inl ⟨by rfl,?_⟩) ?_ ?_;rotate_left
 ·intro w';go_simp;with_reducible rfl
 rotate_left
 ·simp only [Act.put,sIb,sZ,sS,i64_w,i32_w];rfl
 refine done_ (by kernel_rfl) ?_;go_upto_region 17 with (first|((with_reducible refine gate_callee (f:=17) rfl ?_);refine goesL_ (some 69) rfl rfl Try.func17 (by kernel_rfl) rfl #[.slice A1 l1.length c1] rfl (by (try simp only [mT,mC,mN]);first|done|rfl|(simp only [lD,lT];rfl)) ?_;(with_reducible refine (laws_toIntS.calls (hr0:=cB HR1.out HB13.out) (hc0:=HC1.out) (h:=N14.out)).mono ?_);rintro e w14 ⟨v0_,rfl,ho0,hb⟩;have HST:=qK (hb);have HB14:=qK (qT HB13.out HST.out);have HS14:=qK (show w13.heap.size≤w14.heap.size from HST.out.size);obtain ⟨Af13,cf13,ef13⟩:=Kd.R_slice ho0;subst ef13;have F13:=qK (show Kd.R (Kd.int .i64) 3 w14 w.heap.size (fun k_=>w13.heap.size≤k_∧k_ < w14.heap.size) (.slice Af13 l1.length cf13) l1 from Kd.R_lower (Kd.R_mono (Kd.R_bound ho0) (fun k_ hk_=>⟨hk_.2.1,hk_.2.2.1⟩)) (qZ HB13.out));have F5_:=qK (rB F5.out HST.out);clear F5;have F5:=F5_;clear F5_;have F6_:=qK (rB F6.out HST.out);clear F6;have F6:=F6_;clear F6_;have F7_:=qK (Kd.S_below F7.out HST.out);clear F7;have F7:=F7_;clear F7_;have F9_:=qK (rB F9.out HST.out);clear F9;have F9:=F9_;clear F9_;have F10_:=qK (rB F10.out HST.out);clear F10;have F10:=F10_;clear F10_;have BK1_:=qK (qB BK1.out HST.out);clear BK1;have BK1:=BK1_;clear BK1_;have hc1_0_14:w14.cell? ⟨gb1,0,none⟩=some (.slice A0_0 l0_0.length c0_0):=(qC BK1.out 0).trans rfl;have hc1_1_14:w14.cell? ⟨gb1,1,none⟩=some (.slice A0_1 l0_1.length c0_1):=(qC BK1.out 1).trans rfl;have BK8_:=qK (qB BK8.out HST.out);clear BK8;have BK8:=BK8_;clear BK8_;have hc8_0_14:w14.cell? ⟨gb8,0,none⟩=some (.slice Af6 l0_0.length cf6):=(qC BK8.out 0).trans rfl;have hc8_1_14:w14.cell? ⟨gb8,1,none⟩=some (.slice Af7 (cvAtomS l0_1).length cf7):=(qC BK8.out 1).trans rfl;clear hb HST ho0;clear HB13;refine ⟨_,rfl,?_⟩)|((with_reducible refine gate_callee (f:=21) rfl ?_);refine goesL_ (some 70) rfl rfl Try.func21 (by kernel_rfl) rfl #[.slice Af9 l1.length cf9,.slice Af13 l1.length cf13] rfl (by (try simp only [mT,mC,mN]);first|done|rfl|(simp only [lD,lT];rfl)) ?_;(with_reducible refine (laws_eqIntS.calls (hr0:=(Kd.R_reads' F9.out).2.2) (hc0:=(Kd.R_reads' F9.out).2.1) (hr1:=(Kd.R_reads' F13.out).2.2) (hc1:=(Kd.R_reads' F13.out).2.1) (h:=N15.out)).mono ?_);rintro e w15 ⟨rfl,hdr⟩;have HST:=qK (hdr.below);have HB15:=qK (qT HB14.out HST.out);have HS15:=qK (show w14.heap.size≤w15.heap.size from HST.out.size);have F5_:=qK (rB F5.out HST.out);clear F5;have F5:=F5_;clear F5_;have F6_:=qK (rB F6.out HST.out);clear F6;have F6:=F6_;clear F6_;have F7_:=qK (Kd.S_below F7.out HST.out);clear F7;have F7:=F7_;clear F7_;have F9_:=qK (rB F9.out HST.out);clear F9;have F9:=F9_;clear F9_;have F10_:=qK (rB F10.out HST.out);clear F10;have F10:=F10_;clear F10_;clear F13;have BK1_:=qK (qB BK1.out HST.out);clear BK1;have BK1:=BK1_;clear BK1_;have hc1_0_15:w15.cell? ⟨gb1,0,none⟩=some (.slice A0_0 l0_0.length c0_0):=(qC BK1.out 0).trans rfl;have hc1_1_15:w15.cell? ⟨gb1,1,none⟩=some (.slice A0_1 l0_1.length c0_1):=(qC BK1.out 1).trans rfl;have BK8_:=qK (qB BK8.out HST.out);clear BK8;have BK8:=BK8_;clear BK8_;have hc8_0_15:w15.cell? ⟨gb8,0,none⟩=some (.slice Af6 l0_0.length cf6):=(qC BK8.out 0).trans rfl;have hc8_1_15:w15.cell? ⟨gb8,1,none⟩=some (.slice Af7 (cvAtomS l0_1).length cf7):=(qC BK8.out 1).trans rfl;clear hdr HST;clear HB14;refine ⟨_,rfl,?_⟩))
 go_upto_region 19 with (first|((with_reducible refine gate_callee (f:=22) rfl ?_);refine goesL_ (some 74) rfl rfl Try.func22 (by kernel_rfl) rfl #[.agg #[.slice Af6 l0_0.length cf6,.slice Af7 (cvAtomS l0_1).length cf7],.int .i64 1] rfl (by (try simp only [mT,mC,mN]);first|done|rfl|(simp only [lD,lT];rfl)) ?_;have C_:=(laws_markQuery.calls (w0:=w) (hB:=HB15.out) (ho0_0:=F6.out) (ho0_1:=F7.out) (hd:=(fun k_ h1_ h2_=>(h2_.2.2) h1_.2.2)) (h:=N16.out));refine C_.mono ?_;clear C_;rintro e w16 ⟨rfl,hy0,hy1,hb,hk⟩;have HB16:=qK hb;have HKK:=qK hk;have HS16:=qK (show w15.heap.size≤w16.heap.size from hk.1);have HEy16_0:=qK (show l0_0.length=y16_0.length from (Kd.R_reads' hy0).1);have F6_:=qK (show Kd.R (Kd.int .i64) 3 w16 w.heap.size (fun k_=>w5.heap.size≤k_∧k_ < w6.heap.size∧some k_=(.slice Af6 l0_0.length cf6:Value).ownBlock) (.slice Af6 y16_0.length cf6) y16_0 from by have hz_:=R_again rfl F6.out hy0;have he_:l0_0.length=y16_0.length:=(by have:=(Kd.R_reads' hz_).1;omega);rw [← he_];exact hz_);have HEy16_1:=qK (show (cvAtomS l0_1).length=y16_1.length from (Kd.S_reads' hy1).1);have F7_:=qK (show Kd.S k97 97 w16 w.heap.size (fun k_=>w5.heap.size≤k_∧k_ < w6.heap.size∧some k_ ≠ (.slice Af6 l0_0.length cf6:Value).ownBlock) (.slice Af7 y16_1.length cf7) y16_1 from by have hz_:=hy1;have he_:(cvAtomS l0_1).length=y16_1.length:=(by have:=(Kd.S_reads' hz_).1;omega);rw [← he_];exact hz_);have F5_:=qK (Kd.R_kept F5.out HKK.out (fun k_ h1_=>by intro h2_;exact (Or.elim h2_ (fun e_=>(fun k_ h1_ h2_=>by have h3_:=h1_.1;have h4_:=h1_.2;have h5_:=h2_.1;have h6_:=h2_.2.1;have zd13_:=HSE13.out;omega) k_ h1_ e_) (fun r_=>(fun k_ h1_ h2_=>by have h3_:=h1_.1;have h4_:=h1_.2;have h5_:=h2_.1;have h6_:=h2_.2.1;have zd13_:=HSE13.out;omega) k_ h1_ r_))));clear F5;have F5:=F5_;clear F5_;clear F6 F6_;clear F7 F7_;have F9_:=qK (Kd.R_kept F9.out HKK.out (fun k_ h1_=>by intro h2_;exact (Or.elim h2_ (fun e_=>(fun k_ h1_ h2_=>by have h3_:=h1_.1;have h4_:=h1_.2;have h5_:=h2_.1;have h6_:=h2_.2.1;have z7_:=HS7.out;have z8_:=HS8.out;have zd13_:=HSE13.out;omega) k_ h1_ e_) (fun r_=>(fun k_ h1_ h2_=>by have h3_:=h1_.1;have h4_:=h1_.2;have h5_:=h2_.1;have h6_:=h2_.2.1;have z7_:=HS7.out;have z8_:=HS8.out;have zd13_:=HSE13.out;omega) k_ h1_ r_))));clear F9;have F9:=F9_;clear F9_;have F10_:=qK (Kd.R_kept F10.out HKK.out (fun k_ h1_=>by intro h2_;exact (Or.elim h2_ (fun e_=>(fun k_ h1_ h2_=>by have h3_:=h1_.1;have h4_:=h1_.2;have h5_:=h2_.1;have h6_:=h2_.2.1;have z7_:=HS7.out;have z8_:=HS8.out;have z9_:=HS9.out;have zd13_:=HSE13.out;omega) k_ h1_ e_) (fun r_=>(fun k_ h1_ h2_=>by have h3_:=h1_.1;have h4_:=h1_.2;have h5_:=h2_.1;have h6_:=h2_.2.1;have z7_:=HS7.out;have z8_:=HS8.out;have z9_:=HS9.out;have zd13_:=HSE13.out;omega) k_ h1_ r_))));clear F10;have F10:=F10_;clear F10_;have BK1_:=qK (blk_kept BK1.out HKK.out (fun hs_=>(Or.elim hs_ (fun e_=>(fun h2_=>by have h5_:=h2_.1;have h6_:=h2_.2.1;have z0_:=HG1.out;have zb_:=HS1b.out;have z1_:=HS1.out;have z2_:=HS2.out;have z3_:=HS3.out;have z4_:=HS4.out;have z5_:=HS5.out;have z6_:=HS6.out;have z7_:=HS7.out;have z8_:=HS8.out;have z9_:=HS9.out;have z10_:=HS10.out;have z11_:=HS11.out;have z12_:=HS12.out;have z13_:=HS13.out;have z14_:=HS14.out;have z15_:=HS15.out;have zd13_:=HSE13.out;omega) e_) (fun r_=>(fun h2_=>by have h5_:=h2_.1;have h6_:=h2_.2.1;have z0_:=HG1.out;have zb_:=HS1b.out;have z1_:=HS1.out;have z2_:=HS2.out;have z3_:=HS3.out;have z4_:=HS4.out;have z5_:=HS5.out;have z6_:=HS6.out;have z7_:=HS7.out;have z8_:=HS8.out;have z9_:=HS9.out;have z10_:=HS10.out;have z11_:=HS11.out;have z12_:=HS12.out;have z13_:=HS13.out;have z14_:=HS14.out;have z15_:=HS15.out;have zd13_:=HSE13.out;omega) r_))));clear BK1;have BK1:=BK1_;clear BK1_;have hc1_0_16:w16.cell? ⟨gb1,0,none⟩=some (.slice A0_0 l0_0.length c0_0):=(qC BK1.out 0).trans rfl;have hc1_1_16:w16.cell? ⟨gb1,1,none⟩=some (.slice A0_1 l0_1.length c0_1):=(qC BK1.out 1).trans rfl;clear BK8;clear hb hk HKK hy0 hy1;clear HB15;refine ⟨_,rfl,?_⟩))
 go_upto_region 20 with (first|((with_reducible refine gate_callee (f:=23) rfl ?_);refine goesL_ (some 77) rfl rfl Try.func23 (by kernel_rfl) rfl #[.slice Af9 l1.length cf9,.int .i64 m16_] rfl (by (try simp only [mT,mC,mN]);first|done|rfl|(simp only [lD,lT];rfl)) ?_;have C_:=(laws_markIntS.calls (w0:=w) (hB:=HB16.out) (ho0:=F9.out) (h:=N17.out));refine C_.mono ?_;clear C_;rintro e w17 ⟨rfl,hy0,hb,hk⟩;have HB17:=qK hb;have HKK:=qK hk;have HS17:=qK (show w16.heap.size≤w17.heap.size from hk.1);have HEy17_0:=qK (show l1.length=y17_0.length from (Kd.R_reads' hy0).1);have F9_:=qK (show Kd.R (Kd.int .i64) 3 w17 w.heap.size (fun k_=>w8.heap.size≤k_∧k_ < w9.heap.size) (.slice Af9 y17_0.length cf9) y17_0 from by have hz_:=R_again rfl F9.out hy0;have he_:l1.length=y17_0.length:=(by have:=(Kd.R_reads' hz_).1;omega);rw [← he_];exact hz_);have F5_:=qK (Kd.R_kept F5.out HKK.out (fun k_ h1_=>by intro h2_;exact (fun k_ h1_ h2_=>by have h3_:=h1_.1;have h4_:=h1_.2;have h5_:=h2_.1;have h6_:=h2_.2;have z6_:=HS6.out;have z7_:=HS7.out;have z8_:=HS8.out;have zd13_:=HSE13.out;omega) k_ h1_ h2_));clear F5;have F5:=F5_;clear F5_;clear F9 F9_;have F10_:=qK (Kd.R_kept F10.out HKK.out (fun k_ h1_=>by intro h2_;exact (fun k_ h1_ h2_=>by have h3_:=h1_.1;have h4_:=h1_.2;have h5_:=h2_.1;have h6_:=h2_.2;have zd13_:=HSE13.out;omega) k_ h1_ h2_));clear F10;have F10:=F10_;clear F10_;have BK1_:=qK (blk_kept BK1.out HKK.out (fun hs_=>(fun h2_=>by have h5_:=h2_.1;have h6_:=h2_.2;have z0_:=HG1.out;have zb_:=HS1b.out;have z1_:=HS1.out;have z2_:=HS2.out;have z3_:=HS3.out;have z4_:=HS4.out;have z5_:=HS5.out;have z6_:=HS6.out;have z7_:=HS7.out;have z8_:=HS8.out;have z9_:=HS9.out;have z10_:=HS10.out;have z11_:=HS11.out;have z12_:=HS12.out;have z13_:=HS13.out;have z14_:=HS14.out;have z15_:=HS15.out;have z16_:=HS16.out;have zd13_:=HSE13.out;omega) hs_));clear BK1;have BK1:=BK1_;clear BK1_;have hc1_0_17:w17.cell? ⟨gb1,0,none⟩=some (.slice A0_0 l0_0.length c0_0):=(qC BK1.out 0).trans rfl;have hc1_1_17:w17.cell? ⟨gb1,1,none⟩=some (.slice A0_1 l0_1.length c0_1):=(qC BK1.out 1).trans rfl;clear hb hk HKK hy0;clear HB16;refine ⟨_,rfl,?_⟩))
 go_upto_region 22 with (first|(go_at_call 30;(with_reducible refine (laws_eqEarS.calls (hr0:=(Kd.R_reads' F10.out).2.2) (hc0:=(Kd.R_reads' F10.out).2.1) (hr1:=(Kd.R_reads' F5.out).2.2) (hc1:=(Kd.R_reads' F5.out).2.1) (h:=N18.out)).mono ?_);rintro e w18 ⟨rfl,hb⟩;have HST:=qK (hb);have HB18:=qK (qT HB17.out HST.out);have HS18:=qK (show w17.heap.size≤w18.heap.size from HST.out.size);have F5_:=qK (rB F5.out HST.out);clear F5;have F5:=F5_;clear F5_;have F10_:=qK (rB F10.out HST.out);clear F10;have F10:=F10_;clear F10_;have BK1_:=qK (qB BK1.out HST.out);clear BK1;have BK1:=BK1_;clear BK1_;have hc1_0_18:w18.cell? ⟨gb1,0,none⟩=some (.slice A0_0 l0_0.length c0_0):=(qC BK1.out 0).trans rfl;have hc1_1_18:w18.cell? ⟨gb1,1,none⟩=some (.slice A0_1 l0_1.length c0_1):=(qC BK1.out 1).trans rfl;clear hb HST;clear HB17))
 go_upto_region 24 with (first|((with_reducible refine gate_callee (f:=62) rfl ?_);refine goesL_ (some 98) rfl rfl Try.func62 (by kernel_rfl) rfl #[.slice Af10 o0_.length cf10,.int .i64 1] rfl (by (try simp only [mT,mC,mN]);first|done|rfl|(simp only [lD,lT];rfl)) ?_;have C_:=(laws_markEarS.calls (w0:=w) (hB:=HB18.out) (ho0:=F10.out) (h:=N19.out));refine C_.mono ?_;clear C_;rintro e w19 ⟨rfl,hy0,hb,hk⟩;have HB19:=qK hb;have HKK:=qK hk;have HS19:=qK (show w18.heap.size≤w19.heap.size from hk.1);have HEy19_0:=qK (show o0_.length=y19_0.length from (Kd.R_reads' hy0).1);have F10_:=qK (show Kd.R k106 106 w19 w.heap.size (fun k_=>w9.heap.size≤k_∧k_ < w10.heap.size) (.slice Af10 y19_0.length cf10) y19_0 from by have hz_:=R_again rfl F10.out hy0;have he_:o0_.length=y19_0.length:=(by have:=(Kd.R_reads' hz_).1;omega);rw [← he_];exact hz_);have F5_:=qK (Kd.R_kept F5.out HKK.out (fun k_ h1_=>by intro h2_;exact (fun k_ h1_ h2_=>by have h3_:=h1_.1;have h4_:=h1_.2;have h5_:=h2_.1;have h6_:=h2_.2;have z6_:=HS6.out;have z7_:=HS7.out;have z8_:=HS8.out;have z9_:=HS9.out;have zd13_:=HSE13.out;omega) k_ h1_ h2_));clear F5;have F5:=F5_;clear F5_;clear F10;have F10:=F10_;clear F10_;have BK1_:=qK (blk_kept BK1.out HKK.out (fun hs_=>(fun h2_=>by have h5_:=h2_.1;have h6_:=h2_.2;have z0_:=HG1.out;have zb_:=HS1b.out;have z1_:=HS1.out;have z2_:=HS2.out;have z3_:=HS3.out;have z4_:=HS4.out;have z5_:=HS5.out;have z6_:=HS6.out;have z7_:=HS7.out;have z8_:=HS8.out;have z9_:=HS9.out;have z10_:=HS10.out;have z11_:=HS11.out;have z12_:=HS12.out;have z13_:=HS13.out;have z14_:=HS14.out;have z15_:=HS15.out;have z16_:=HS16.out;have z17_:=HS17.out;have z18_:=HS18.out;have zd13_:=HSE13.out;omega) hs_));clear BK1;have BK1:=BK1_;clear BK1_;have hc1_0_19:w19.cell? ⟨gb1,0,none⟩=some (.slice A0_0 l0_0.length c0_0):=(qC BK1.out 0).trans rfl;have hc1_1_19:w19.cell? ⟨gb1,1,none⟩=some (.slice A0_1 l0_1.length c0_1):=(qC BK1.out 1).trans rfl;clear hb hk HKK hy0;clear HB18;refine ⟨_,rfl,?_⟩))
 go_upto_region 26 with (first|((with_reducible refine gate_callee (f:=63) rfl ?_);refine goesL_ (some 101) rfl rfl Try.func63 (by kernel_rfl) rfl #[.slice Af10 o0_.length cf10,.int .i64 1] rfl (by (try simp only [mT,mC,mN]);first|done|rfl|(simp only [lD,lT];rfl)) ?_;refine calls_of_args (args':=#[.slice Af10 y19_0.length cf10,.int .i64 1]) (by rw [HEy19_0.out]) ?_;(with_reducible refine (laws_heldEarS.calls (hr0:=(Kd.R_reads' F10.out).2.2) (hc0:=(Kd.R_reads' F10.out).2.1) (h:=N20.out)).mono ?_);rintro e w20 ⟨rfl,hdr⟩;have HST:=qK (hdr.below);have HB20:=qK (qT HB19.out HST.out);have HS20:=qK (show w19.heap.size≤w20.heap.size from HST.out.size);have F5_:=qK (rB F5.out HST.out);clear F5;have F5:=F5_;clear F5_;have F10_:=qK (rB F10.out HST.out);clear F10;have F10:=F10_;clear F10_;have BK1_:=qK (qB BK1.out HST.out);clear BK1;have BK1:=BK1_;clear BK1_;have hc1_0_20:w20.cell? ⟨gb1,0,none⟩=some (.slice A0_0 l0_0.length c0_0):=(qC BK1.out 0).trans rfl;have hc1_1_20:w20.cell? ⟨gb1,1,none⟩=some (.slice A0_1 l0_1.length c0_1):=(qC BK1.out 1).trans rfl;clear hdr HST;clear HB19;refine ⟨_,rfl,?_⟩))
 go_upto_region 31 with (first|((with_reducible refine gate_callee (f:=16) rfl ?_);refine goesL_ (some 109) rfl rfl Try.func16 (by kernel_rfl) rfl #[.agg #[.slice A0_0 l0_0.length c0_0,.slice A0_1 l0_1.length c0_1]] rfl (by (try simp only [mT,mC,mN]);first|done|rfl|(simp only [lD,lT];rfl)) ?_;(with_reducible refine (laws_toQuery.calls (hr0_0:=cB HR0_0.out HB20.out) (hc0_0:=HC0_0.out) (hr0_1:=cB HR0_1.out HB20.out) (hc0_1:=HC0_1.out) (h:=N21.out)).mono ?_);rintro e w21 ⟨v0_,v1_,rfl,ho0,ho1,hb⟩;have HST:=qK (hb);have HB21:=qK (qT HB20.out HST.out);have HS21:=qK (show w20.heap.size≤w21.heap.size from HST.out.size);obtain ⟨Af14,cf14,ef14⟩:=Kd.R_slice ho0;subst ef14;obtain ⟨Af15,cf15,ef15⟩:=Kd.S_slice ho1;subst ef15;have F14:=qK (show Kd.R (Kd.int .i64) 3 w21 w.heap.size (fun k_=>w20.heap.size≤k_∧k_ < w21.heap.size∧some k_=(.slice Af14 l0_0.length cf14:Value).ownBlock) (.slice Af14 l0_0.length cf14) l0_0 from Kd.R_lower (Kd.R_mono (Kd.R_bound (Kd.R_tight rfl ho0)) (fun k_ hk_=>⟨hk_.2.1,hk_.2.2.1,hk_.1⟩)) (qZ HB20.out));have F15:=qK (show Kd.S k97 97 w21 w.heap.size (fun k_=>w20.heap.size≤k_∧k_ < w21.heap.size∧some k_ ≠ (.slice Af14 l0_0.length cf14:Value).ownBlock) (.slice Af15 (cvAtomS l0_1).length cf15) (cvAtomS l0_1) from Kd.S_lower (Kd.S_mono (Kd.S_bound ho1) (fun k_ hk_=>⟨hk_.2.1,hk_.2.2.1,(by have h_:=hk_.1;first|exact h_|exact h_.1|exact h_.2|exact h_.2.1|exact h_.2.2|simp_all)⟩)) (qZ HB20.out));have F5_:=qK (rB F5.out HST.out);clear F5;have F5:=F5_;clear F5_;have F10_:=qK (rB F10.out HST.out);clear F10;have F10:=F10_;clear F10_;clear BK1;clear hb HST ho0 ho1;clear HB20;refine ⟨_,rfl,?_⟩)|((with_reducible refine gate_callee (f:=17) rfl ?_);refine goesL_ (some 111) rfl rfl Try.func17 (by kernel_rfl) rfl #[.slice A1 l1.length c1] rfl (by (try simp only [mT,mC,mN]);first|done|rfl|(simp only [lD,lT];rfl)) ?_;(with_reducible refine (laws_toIntS.calls (hr0:=cB HR1.out HB21.out) (hc0:=HC1.out) (h:=N22.out)).mono ?_);rintro e w22 ⟨v0_,rfl,ho0,hb⟩;have HST:=qK (hb);have HB22:=qK (qT HB21.out HST.out);have HS22:=qK (show w21.heap.size≤w22.heap.size from HST.out.size);obtain ⟨Af16,cf16,ef16⟩:=Kd.R_slice ho0;subst ef16;have F16:=qK (show Kd.R (Kd.int .i64) 3 w22 w.heap.size (fun k_=>w21.heap.size≤k_∧k_ < w22.heap.size) (.slice Af16 l1.length cf16) l1 from Kd.R_lower (Kd.R_mono (Kd.R_bound ho0) (fun k_ hk_=>⟨hk_.2.1,hk_.2.2.1⟩)) (qZ HB21.out));have F5_:=qK (rB F5.out HST.out);clear F5;have F5:=F5_;clear F5_;have F10_:=qK (rB F10.out HST.out);clear F10;have F10:=F10_;clear F10_;have F14_:=qK (rB F14.out HST.out);clear F14;have F14:=F14_;clear F14_;have F15_:=qK (Kd.S_below F15.out HST.out);clear F15;have F15:=F15_;clear F15_;clear hb HST ho0;clear HB21;refine ⟨_,rfl,?_⟩)|((with_reducible refine gate_callee (f:=61) rfl ?_);refine goesL_ (some 112) rfl rfl Try.func61 (by kernel_rfl) rfl #[.agg #[.slice Af14 l0_0.length cf14,.slice Af15 (cvAtomS l0_1).length cf15],.slice Af16 l1.length cf16] rfl (by (try simp only [mT,mC,mN]);first|done|rfl|(simp only [lD,lT];rfl)) ?_;(with_reducible refine (impl_EarsOf.calls (hr0_0:=(Kd.R_reads' F14.out).2.2) (hc0_0:=(Kd.R_reads' F14.out).2.1) (hr0_1:=(Kd.S_reads' F15.out).2.2) (hc0_1:=(Kd.S_reads' F15.out).2.1) (hr1:=(Kd.R_reads' F16.out).2.2) (hc1:=(Kd.R_reads' F16.out).2.1) (h:=N23.out)).mono ?_);rintro e w23 ⟨v0_,rfl,ho0,hb⟩;have HST:=qK (hb);have HB23:=qK (qT HB22.out HST.out);have HS23:=qK (show w22.heap.size≤w23.heap.size from HST.out.size);obtain ⟨Af17,cf17,ef17⟩:=Kd.R_slice ho0;subst ef17;have F17:=qK (show Kd.R k106 106 w23 w.heap.size (fun k_=>w22.heap.size≤k_∧k_ < w23.heap.size) (.slice Af17 o0_.length cf17) o0_ from Kd.R_lower (Kd.R_mono (Kd.R_bound ho0) (fun k_ hk_=>⟨hk_.2.1,hk_.2.2.1⟩)) (qZ HB22.out));have F5_:=qK (rB F5.out HST.out);clear F5;have F5:=F5_;clear F5_;have F10_:=qK (rB F10.out HST.out);clear F10;have F10:=F10_;clear F10_;clear F14;clear F15;clear F16;clear hb HST ho0;clear HB22;refine ⟨_,rfl,?_⟩))
 go_upto_region 33 with (first|((with_reducible refine gate_callee (f:=30) rfl ?_);refine goesL_ (some 118) rfl rfl Try.func30 (by kernel_rfl) rfl #[.slice Af17 o0_.length cf17,.slice Af5 o0_.length cf5] rfl (by (try simp only [mT,mC,mN]);first|done|rfl|(simp only [lD,lT];rfl)) ?_;(with_reducible refine (laws_eqEarS.calls (hr0:=(Kd.R_reads' F17.out).2.2) (hc0:=(Kd.R_reads' F17.out).2.1) (hr1:=(Kd.R_reads' F5.out).2.2) (hc1:=(Kd.R_reads' F5.out).2.1) (h:=N24.out)).mono ?_);rintro e w24 ⟨rfl,hb⟩;have HST:=qK (hb);have HB24:=qK (qT HB23.out HST.out);have HS24:=qK (show w23.heap.size≤w24.heap.size from HST.out.size);clear F5;have F10_:=qK (rB F10.out HST.out);clear F10;have F10:=F10_;clear F10_;clear F17;clear hb HST;clear HB23;refine ⟨_,rfl,?_⟩))
 go_upto_region 35 with (first|((with_reducible refine gate_callee (f:=63) rfl ?_);refine goesL_ (some 132) rfl rfl Try.func63 (by kernel_rfl) rfl #[.slice Af10 o0_.length cf10,.int .i64 1] rfl (by (try simp only [mT,mC,mN]);first|done|rfl|(simp only [lD,lT];rfl)) ?_;refine calls_of_args (args':=#[.slice Af10 y19_0.length cf10,.int .i64 1]) (by rw [HEy19_0.out]) ?_;(with_reducible refine (laws_heldEarS.calls (hr0:=(Kd.R_reads' F10.out).2.2) (hc0:=(Kd.R_reads' F10.out).2.1) (h:=N25.out)).mono ?_);rintro e w25 ⟨rfl,hdr⟩;have HST:=qK (hdr.below);have HB25:=qK (qT HB24.out HST.out);have HS25:=qK (show w24.heap.size≤w25.heap.size from HST.out.size);clear F10;clear hdr HST;clear HB24;refine ⟨_,rfl,?_⟩))
 go_wp2
 go_ret
 exact ⟨rfl,HB25.out⟩

end Go.Proofs.Ytboligpcbndkjaa.PFnExactEarsOf
