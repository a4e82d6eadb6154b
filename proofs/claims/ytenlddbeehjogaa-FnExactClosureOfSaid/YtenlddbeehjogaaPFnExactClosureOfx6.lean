/-
  A text of this claim's own, printed by a program of the session (wip/tools/xprint.py): functions of the program as Lean functions, each with what its call comes to.
-/
import Derived.Test.YtenlddbeehjogaaPFnExactClosureOfx0
import Derived.Test.YtenlddbeehjogaaPFnExactClosureOfx1
import Derived.Test.YtenlddbeehjogaaPFnExactClosureOfx2
import Derived.Test.YtenlddbeehjogaaPFnExactClosureOfx3
import Derived.Test.YtenlddbeehjogaaPFnExactClosureOfx4
import Derived.Test.YtenlddbeehjogaaPFnExactClosureOfx5
namespace Go.Proofs.Ytenlddbeehjogaa.PFnExactClosureOf
open Go.RowKit Go.Proofs.YtenlddbeehjogaaW.PrintWords Go.Proofs.YtenlddbeehjogaaW.PrintLast Go.Proofs.YtenlddbeehjogaaW.PrintMore
attribute [local go_sem] max2_int min2_int max_two min_two max_three min_three max_four min_four   -- for this text's walks alone
set_option linter.unusedVariables false
set_option linter.unusedSimpArgs false

/-! ### laws_FnExactClosureOf: function 3 -/
theorem laws_szIntS_some (l : List Int) (a : Int) (h0 : 0 ≤ a) (h1 : a ≤ 1048576) (hl : l.length ≤ maxLen) : laws_szIntS.f l a = some (if a < (l.length : Int) then -1 else a - (l.length : Int)) := by
  unfold maxLen at hl
  unfold laws_szIntS.f
  rw [wrap_id (by omega) (by omega)]
  by_cases h : a < (l.length : Int)
  · rw [if_pos (by omega), if_pos h]
  · rw [if_neg (by omega), if_neg h]
theorem toIntS_ev (l : List Int) (hl : l.length ≤ 1048576) : Ev (fun k => laws_toIntS.f k l) l := by
  have loop := loop_up (n := l.length) (P := fun i => ∀ x : List Int, x.length = l.length → x.take i = l.take i → Ev (fun k => laws_toIntS.l0 k l x (i : Int)) l) ?_ ?_
  · unfold laws_toIntS.f
    refine Ev.pos (by omega) (Ev.pos (by omega) ?_)
    exact loop 0 (Nat.zero_le _) (List.replicate _ 0) (by simp) (by simp)
  · intro x hx ht
    refine Ev.succ ?_
    simp only [laws_toIntS.l0]
    refine Ev.neg (by omega) (Ev.const ?_)
    rw [List.take_of_length_le (by omega), List.take_of_length_le (by omega)] at ht
    rw [ht]
  · intro i hi ih x hx ht
    refine Ev.succ ?_
    simp only [laws_toIntS.l0]
    refine Ev.pos (by omega) (Ev.pos (by omega) (Ev.pos (by omega) ?_))
    rw [wrap_add (by omega) (by omega), rd_nat hi]
    refine ih _ (by simp [hx]) ?_
    rw [List.take_succ_eq_append_getElem (by simp [hx]; omega), List.take_succ_eq_append_getElem hi]
    simp only [Int.toNat_natCast, List.getElem_set_self]
    rw [List.take_set_of_le (by omega), ht]
theorem laws_toIntS_x (l : List Int) (hl : l.length ≤ 1048576) : ∃ k, laws_toIntS.f k l = some l := (toIntS_ev l hl).rounds
theorem eqIntS_ev (l : List Int) (hl : l.length ≤ 1048576) : Ev (fun k => laws_eqIntS.f k l l) true := by
  have loop := loop_up (n := l.length) (P := fun i => Ev (fun k => laws_eqIntS.l0 k l l (i : Int)) true) ?_ ?_
  · unfold laws_eqIntS.f
    exact Ev.pos rfl (loop 0 (Nat.zero_le _))
  · refine Ev.succ ?_
    simp only [laws_eqIntS.l0]
    exact Ev.neg (by omega) (Ev.const rfl)
  · intro i hi ih
    refine Ev.succ ?_
    simp only [laws_eqIntS.l0]
    refine Ev.pos (by omega) (Ev.pos (by omega) (Ev.pos (by omega) (Ev.pos trivial ?_)))
    rw [wrap_add (by omega) (by omega)]
    exact ih
theorem laws_eqIntS_x (l : List Int) (hl : l.length ≤ 1048576) : ∃ k, laws_eqIntS.f k l l = some true := (eqIntS_ev l hl).rounds
def markedIntS (n : Nat) (a : Int) : List Int := (List.range n).map (fun (j : Nat) => a + (j : Int))
def cntIntS (l : List Int) : Int := (l.length : Int)
theorem markIntS_ev (l : List Int) (a : Int) (hl : l.length ≤ 1048576) (h0 : 0 ≤ a) (h1 : a ≤ 1099511627776) : Ev (fun k => laws_markIntS.f k l a) (a + (l.length : Int), markedIntS l.length a) := by
  unfold markedIntS
  have loop := loop_up (n := l.length) (P := fun i => ∀ x : List Int, x.length = l.length → x.take i = (List.range i).map (fun (j : Nat) => a + (j : Int)) → Ev (fun k => laws_markIntS.l0 k x (a + (i : Int)) (i : Int)) (a + (l.length : Int), (List.range l.length).map (fun (j : Nat) => a + (j : Int)))) ?_ ?_
  · unfold laws_markIntS.f
    have := loop 0 (Nat.zero_le _) l rfl (by simp)
    rwa [show a + ((0 : Nat) : Int) = a by omega] at this
  · intro x hx ht
    refine Ev.succ ?_
    simp only [laws_markIntS.l0]
    refine Ev.neg (by omega) (Ev.const ?_)
    rw [List.take_of_length_le (by omega)] at ht
    rw [ht]
  · intro i hi ih x hx ht
    have h2 : wrap64 ((i : Int) + 1) = ((i + 1 : Nat) : Int) := by unfold wrap64; omega
    have h3 : wrap64 (a + (i : Int) + 1) = a + ((i + 1 : Nat) : Int) := by unfold wrap64; omega
    refine Ev.succ ?_
    simp only [laws_markIntS.l0]
    refine Ev.pos (by omega) (Ev.pos (by omega) ?_)
    rw [h3, h2]
    refine ih _ (by simp [hx]) ?_
    rw [List.take_succ_eq_append_getElem (by simp [hx]; omega), List.range_succ, List.map_append]
    simp only [Int.toNat_natCast, List.getElem_set_self]
    rw [List.take_set_of_le (by omega), ht]
    rfl
theorem laws_markIntS_x (l : List Int) (a : Int) (hl : l.length ≤ 1048576) (h0 : 0 ≤ a) (h1 : a ≤ 1099511627776) : ∃ k, laws_markIntS.f k l a = some (a + cntIntS l, markedIntS l.length a) := (markIntS_ev l a hl h0 h1).rounds
theorem cntIntS_ok (l : List Int) (hl : l.length ≤ 1048576) : 0 ≤ cntIntS l ∧ cntIntS l ≤ 16777216 := by unfold cntIntS; omega
theorem cntIntS_le (l : List Int) (hl : l.length ≤ 1048576) : 0 ≤ cntIntS l ∧ cntIntS l ≤ 16777216 := by unfold cntIntS; omega
theorem heldIntS_ev (n : Nat) (a : Int) (hn : n ≤ 1048576) (h0 : 0 ≤ a) (h1 : a ≤ 1099511627776) : Ev (fun k => laws_heldIntS.f k (markedIntS n a) a) (a + (n : Int)) := by
  unfold markedIntS
  have loop := loop_up (n := n) (P := fun i => Ev (fun k => laws_heldIntS.l0 k ((List.range n).map (fun (j : Nat) => a + (j : Int))) (a + (i : Int)) (i : Int)) (a + (n : Int))) ?_ ?_
  · unfold laws_heldIntS.f
    have := loop 0 (Nat.zero_le _)
    rwa [show a + ((0 : Nat) : Int) = a by omega] at this
  · refine Ev.succ ?_
    simp only [laws_heldIntS.l0]
    exact Ev.neg (by simp) (Ev.const rfl)
  · intro i hi ih
    have h2 : wrap64 ((i : Int) + 1) = ((i + 1 : Nat) : Int) := by unfold wrap64; omega
    have h3 : wrap64 (a + (i : Int) + 1) = a + ((i + 1 : Nat) : Int) := by unfold wrap64; omega
    refine Ev.succ ?_
    simp only [laws_heldIntS.l0]
    refine Ev.pos (by simp; omega) (Ev.pos (by omega) (Ev.pos (by rw [rd_nat (by simpa using hi)]; simp) ?_))
    rw [h3, h2]
    exact ih
theorem laws_heldIntS_x (l : List Int) (a : Int) (hl : l.length ≤ 1048576) (h0 : 0 ≤ a) (h1 : a ≤ 1099511627776) : ∃ k, laws_heldIntS.f k (markedIntS l.length a) a = some (a + cntIntS l) := (heldIntS_ev l.length a hl h0 h1).rounds
def wtD (x : S80) : Nat := x.f0.length + x.f1.length
theorem sum_ge : ∀ {l : List Nat} {x : Nat}, x ∈ l → x ≤ l.sum
  | a :: l, x, h => by
    rw [List.sum_cons]
    rcases List.mem_cons.1 h with rfl | h
    · omega
    · have := sum_ge h; omega
def szOk_laws_szDependS (l : List S80) : Prop := l.length + (l.map wtD).sum ≤ 1048576
theorem laws_szDependS_x (l : List S80) (a : Int) (h0 : 0 ≤ a) (h1 : a ≤ 1048576) (hl : l.length ≤ maxLen ∧ ∀ x, x ∈ l → (x.f0.length ≤ maxLen ∧ ∀ y, y ∈ x.f0 → (Lit.int .i64 y).wf = true) ∧ (x.f1.length ≤ maxLen ∧ ∀ y, y ∈ x.f1 → (Lit.int .i64 y).wf = true)) :
    ∃ s, (∃ k, laws_szDependS.f k l a = some s) ∧ (s < 0 ∨ szOk_laws_szDependS l ∧ 0 ≤ s ∧ s ≤ 1048576) := by
  have hm : l.length ≤ 9223372036854775807 := by have := hl.1; unfold maxLen at this; omega
  have loop := loop_up (n := l.length) (P := fun i => ∀ b : Int, 0 ≤ b → b ≤ 1048576 → ∃ s, Ev (fun k => laws_szDependS.l0 k l b (i : Int)) s ∧ (s < 0 ∨ (((l.drop i).map wtD).sum : Nat) ≤ b ∧ 0 ≤ s ∧ s ≤ b)) ?_ ?_
  · unfold laws_szDependS.f
    rw [wrap_id (by omega) (by omega)]
    by_cases h : a - (l.length : Int) < 0
    · exact ⟨-1, (Ev.pos h (Ev.const rfl)).rounds, .inl (by omega)⟩
    · obtain ⟨s, hs, hq⟩ := loop 0 (Nat.zero_le _) (a - (l.length : Int)) (by omega) (by omega)
      refine ⟨s, (Ev.neg h hs).rounds, ?_⟩
      rcases hq with hq | ⟨q1, q2, q3⟩
      · exact .inl hq
      · refine .inr ⟨?_, q2, by omega⟩
        unfold szOk_laws_szDependS
        simp only [List.drop_zero] at q1
        omega
  · intro b b0 b1
    refine ⟨b, Ev.succ ?_, .inr ⟨by simp; omega, b0, by omega⟩⟩
    simp only [laws_szDependS.l0]
    exact Ev.neg (by omega) (Ev.const rfl)
  · intro i hi ih b b0 b1
    have hx := hl.2 l[i] (List.getElem_mem hi)
    have hr : rd_T80 l (i : Int) = l[i] := by simp [rd_T80, hi]
    have hd : ((l.drop i).map wtD).sum = wtD l[i] + ((l.drop (i + 1)).map wtD).sum := by rw [List.drop_eq_getElem_cons hi, List.map_cons, List.sum_cons]
    have e1 := laws_szIntS_some l[i].f0 b b0 b1 hx.1.1
    by_cases c1 : b < (l[i].f0.length : Int)
    · rw [if_pos c1] at e1
      refine ⟨-1, Ev.succ ?_, .inl (by omega)⟩
      simp only [laws_szDependS.l0]
      rw [hr]
      refine Ev.pos (by omega) (Ev.pos (by omega) (Ev.bind (Ev.const (by unfold laws_szDepend.f; rw [e1]; simp; rfl)) (Ev.pos (by omega) (Ev.const rfl))))
    rw [if_neg c1] at e1
    have e2 := laws_szIntS_some l[i].f1 (b - (l[i].f0.length : Int)) (by omega) (by omega) hx.2.1
    by_cases c2 : b - (l[i].f0.length : Int) < (l[i].f1.length : Int)
    · rw [if_pos c2] at e2
      refine ⟨-1, Ev.succ ?_, .inl (by omega)⟩
      simp only [laws_szDependS.l0]
      rw [hr]
      refine Ev.pos (by omega) (Ev.pos (by omega) (Ev.bind (Ev.const (by unfold laws_szDepend.f; rw [e1]; simp only [Option.bind_some]; rw [if_neg (by omega), e2]; simp; rfl)) (Ev.pos (by omega) (Ev.const rfl))))
    rw [if_neg c2] at e2
    obtain ⟨s, hs, hq⟩ := ih (b - (l[i].f0.length : Int) - (l[i].f1.length : Int)) (by omega) (by omega)
    refine ⟨s, Ev.succ ?_, ?_⟩
    · simp only [laws_szDependS.l0]
      rw [hr, wrap_add (by omega) (by omega)]
      exact Ev.pos (by omega) (Ev.pos (by omega) (Ev.bind (Ev.const (by unfold laws_szDepend.f; rw [e1]; simp only [Option.bind_some]; rw [if_neg (by omega), e2]; simp only [Option.bind_some]; rw [if_neg (by omega)])) (Ev.neg (by omega) hs)))
    · rcases hq with hq | ⟨q1, q2, q3⟩
      · exact .inl hq
      · rw [hd]; unfold wtD at *; exact .inr ⟨by omega, q2, by omega⟩
def cvD (x : S80) : S44 := ⟨x.f0, x.f1⟩
def cvDependS (l : List S80) : List S44 := l.map cvD
theorem wtD_le {l : List S80} (h : szOk_laws_szDependS l) : l.length ≤ 1048576 ∧ ∀ x ∈ l, x.f0.length ≤ 1048576 ∧ x.f1.length ≤ 1048576 := by
  unfold szOk_laws_szDependS at h
  refine ⟨by omega, fun x hx => ?_⟩
  have := sum_ge (List.mem_map_of_mem (f := wtD) hx)
  unfold wtD at *
  omega
theorem laws_toDependS_x (l : List S80) (h : szOk_laws_szDependS l) : ∃ k, laws_toDependS.f k l = some (cvDependS l) := by
  obtain ⟨hl, hx⟩ := wtD_le h
  unfold cvDependS
  have loop := loop_up (n := l.length) (P := fun i => ∀ x : List S44, x.length = l.length → x.take i = (l.map cvD).take i → Ev (fun k => laws_toDependS.l0 k l x (i : Int)) (l.map cvD)) ?_ ?_
  · refine Ev.rounds ?_
    unfold laws_toDependS.f
    refine Ev.pos (by omega) (Ev.pos (by omega) ?_)
    exact loop 0 (Nat.zero_le _) (List.replicate _ z44) (by simp) (by simp)
  · intro x hx2 ht
    refine Ev.succ ?_
    simp only [laws_toDependS.l0]
    refine Ev.neg (by omega) (Ev.const ?_)
    rw [List.take_of_length_le (by omega), List.take_of_length_le (by simp)] at ht
    rw [ht]
  · intro i hi ih x hx2 ht
    have hr : rd_T80 l (i : Int) = l[i] := by simp [rd_T80, hi]
    obtain ⟨b0, b1⟩ := hx l[i] (List.getElem_mem hi)
    refine Ev.succ ?_
    simp only [laws_toDependS.l0]
    rw [hr]
    refine Ev.pos (by omega) (Ev.pos (by omega) (Ev.bind (a := (l[i].f0, l[i].f1)) ?_ (Ev.pos (by omega) ?_)))
    · unfold laws_toDepend.f
      exact Ev.bind (toIntS_ev _ b0) (Ev.bind (toIntS_ev _ b1) (Ev.const rfl))
    rw [wrap_add (by omega) (by omega)]
    refine ih _ (by simp [hx2]) ?_
    rw [List.take_succ_eq_append_getElem (by simp [hx2]; omega), List.take_succ_eq_append_getElem (by simpa using hi)]
    simp only [Int.toNat_natCast, List.getElem_set_self, List.getElem_map]
    rw [List.take_set_of_le (by omega), ht]
    rfl
def okDependS (l : List S44) : Prop := l.length ≤ 1048576 ∧ ∀ x ∈ l, x.f0.length ≤ 1048576 ∧ x.f1.length ≤ 1048576
theorem okDependS_cv {l : List S80} (h : szOk_laws_szDependS l) : okDependS (cvDependS l) := by
  obtain ⟨hl, hx⟩ := wtD_le h
  refine ⟨by unfold cvDependS; simpa using hl, fun x hx2 => ?_⟩
  obtain ⟨y, hy, rfl⟩ := List.mem_map.1 hx2
  exact hx y hy
theorem laws_eqDependS_x (l : List S44) (h : okDependS l) : ∃ k, laws_eqDependS.f k l l = some true := by
  obtain ⟨hl, hx⟩ := h
  have loop := loop_up (n := l.length) (P := fun i => Ev (fun k => laws_eqDependS.l0 k l l (i : Int)) true) ?_ ?_
  · refine Ev.rounds ?_
    unfold laws_eqDependS.f
    exact Ev.pos rfl (loop 0 (Nat.zero_le _))
  · refine Ev.succ ?_
    simp only [laws_eqDependS.l0]
    exact Ev.neg (by omega) (Ev.const rfl)
  · intro i hi ih
    have hr : rd_T44 l (i : Int) = l[i] := by simp [rd_T44, hi]
    obtain ⟨b0, b1⟩ := hx l[i] (List.getElem_mem hi)
    refine Ev.succ ?_
    simp only [laws_eqDependS.l0]
    rw [hr, wrap_add (by omega) (by omega)]
    refine Ev.pos (by omega) (Ev.pos (by omega) (Ev.pos (by omega) (Ev.bind (a := true) ?_ (Ev.pos rfl ih))))
    unfold laws_eqDepend.f
    exact Ev.bind (eqIntS_ev _ b0) (Ev.pos rfl (Ev.bind (eqIntS_ev _ b1) (Ev.pos rfl (Ev.const rfl))))
def cntDependS (l : List S44) : Int := (((l.map fun x => x.f0.length + x.f1.length).sum : Nat) : Int)
def markedDependS : List S44 → Int → List S44
  | [], _ => []
  | x :: l, a => ⟨markedIntS x.f0.length a, markedIntS x.f1.length (a + (x.f0.length : Int))⟩ :: markedDependS l (a + (x.f0.length : Int) + (x.f1.length : Int))
theorem markDependS_ev (l : List S44) (a : Int) (hl : l.length ≤ 1048576) (hx : ∀ x ∈ l, x.f0.length ≤ 1048576 ∧ x.f1.length ≤ 1048576) (h0 : 0 ≤ a) (h1 : a + cntDependS l ≤ 1099511627776) :
    Ev (fun k => laws_markDependS.f k l a) (a + cntDependS l, markedDependS l a) := by
  have key : ∀ (d : Nat) (x : List S44) (i : Nat) (p q : List S44) (b : Int), x = p ++ q → p.length = i → q.length = d → x.length ≤ 1048576 → (∀ z ∈ q, z.f0.length ≤ 1048576 ∧ z.f1.length ≤ 1048576) → 0 ≤ b → b + cntDependS q ≤ 1099511627776 →
      Ev (fun k => laws_markDependS.l0 k x b (i : Int)) (b + cntDependS q, p ++ markedDependS q b) := by
    intro d
    induction d with
    | zero =>
      intro x i p q b hxe hp hq hxl _ _ _
      obtain rfl := List.length_eq_zero_iff.1 hq
      refine Ev.succ ?_
      simp only [laws_markDependS.l0]
      refine Ev.neg (by rw [hxe]; simp [hp]) (Ev.const ?_)
      simp [cntDependS, markedDependS, hxe]
    | succ d ih =>
      intro x i p q b hxe hp hq hxl hb b0 b1
      obtain ⟨z, q, rfl⟩ : ∃ z t, q = z :: t := by cases q with
        | nil => simp at hq
        | cons z t => exact ⟨z, t, rfl⟩
      have hlen : x.length = i + (d + 1) := by rw [hxe, List.length_append, hp, hq]
      have hr : rd_T44 x (i : Int) = z := by rw [hxe]; simp [rd_T44, ← hp]
      obtain ⟨c0, c1⟩ := hb z List.mem_cons_self
      have hc : cntDependS (z :: q) = (z.f0.length : Int) + (z.f1.length : Int) + cntDependS q := by unfold cntDependS; rw [List.map_cons, List.sum_cons]; omega
      have hn : 0 ≤ cntDependS q := by unfold cntDependS; omega
      rw [hc] at b1
      refine Ev.succ ?_
      simp only [laws_markDependS.l0]
      rw [hr, wrap_add (by omega) (by omega)]
      refine Ev.pos (by omega) (Ev.pos (by omega) (Ev.bind (markIntS_ev _ b c0 b0 (by omega)) (Ev.bind (markIntS_ev _ (b + (z.f0.length : Int)) c1 (by omega) (by omega)) ?_)))
      have hset : x.set (i : Int).toNat ⟨markedIntS z.f0.length b, markedIntS z.f1.length (b + (z.f0.length : Int))⟩ = (p ++ [⟨markedIntS z.f0.length b, markedIntS z.f1.length (b + (z.f0.length : Int))⟩]) ++ q := by
        rw [hxe, Int.toNat_natCast, ← hp]; simp
      rw [hset]
      have := ih _ (i + 1) (p ++ [⟨markedIntS z.f0.length b, markedIntS z.f1.length (b + (z.f0.length : Int))⟩]) q (b + (z.f0.length : Int) + (z.f1.length : Int)) rfl (by simp [hp]) (by simpa using hq) (by simp at hlen hq ⊢; omega) (fun y hy => hb y (List.mem_cons_of_mem _ hy)) (by omega) (by omega)
      have e1 : b + (z.f0.length : Int) + (z.f1.length : Int) + cntDependS q = b + cntDependS (z :: q) := by rw [hc]; omega
      rw [e1] at this
      simpa [markedDependS, List.append_assoc] using this
  exact key l.length l 0 [] l a rfl rfl rfl hl hx h0 h1
theorem cntDependS_sz {l : List S80} (h : szOk_laws_szDependS l) : 0 ≤ cntDependS (cvDependS l) ∧ cntDependS (cvDependS l) ≤ 16777216 := by
  unfold szOk_laws_szDependS at h
  have : cntDependS (cvDependS l) = (((l.map wtD).sum : Nat) : Int) := by
    unfold cntDependS cvDependS
    rw [List.map_map]; rfl
  rw [this]; omega
theorem laws_markDependS_x (l : List S44) (a : Int) (h : okDependS l) (h0 : 0 ≤ a) (h1 : a + cntDependS l ≤ 1099511627776) : ∃ k, laws_markDependS.f k l a = some (a + cntDependS l, markedDependS l a) := (markDependS_ev l a h.1 h.2 h0 h1).rounds
/-- THE ONE PURE STATEMENT of laws_FnExactClosureOf: what the reference tells, the program tells. -/
def laws_FnExactClosureOf.Pure : Prop := ∀ (l0 : List (S80)) (a1 : Int) (l2 : List Int), (l0.length ≤ maxLen ∧ ∀ x_, x_ ∈ l0 → (x_.f0.length ≤ maxLen ∧ ∀ x__, x__ ∈ x_.f0 → (Lit.int .i64 x__).wf = true) ∧ (x_.f1.length ≤ maxLen ∧ ∀ x__, x__ ∈ x_.f1 → (Lit.int .i64 x__).wf = true)) → ((Lit.int .i64 a1).wf = true) → (l2.length ≤ maxLen ∧ ∀ x_, x_ ∈ l2 → (Lit.int .i64 x_).wf = true) → l2.length ≤ 1048576 → szOk_laws_szDependS l0 → ∃ (k : Nat) (r : (List Int) × Bool), spec_ClosureOf.f k (cvDependS l0) a1 l2 = some r ∧ impl_ClosureOf.f k (cvDependS l0) a1 l2 = some r ∧ r.1.length ≤ 1048576
set_option maxHeartbeats 16000000 in
set_option maxRecDepth 100000 in
theorem laws_FnExactClosureOf.walk (P : laws_FnExactClosureOf.Pure) (A0 : Option Addr) (c0 : Nat) (l0 : List (S80)) (a1 : Int) (A2 : Option Addr) (c2 : Nat) (l2 : List Int) (w : World) (hr0 : Kd.C k80 w A0 l0.length l0) (hc0 : l0.length ≤ c0) (hr2 : Kd.C (Kd.int .i64) w A2 l2.length l2) (hc2 : l2.length ≤ c2) (wq0 : l0.length ≤ maxLen ∧ ∀ x_, x_ ∈ l0 → (x_.f0.length ≤ maxLen ∧ ∀ x__, x__ ∈ x_.f0 → (Lit.int .i64 x__).wf = true) ∧ (x_.f1.length ≤ maxLen ∧ ∀ x__, x__ ∈ x_.f1 → (Lit.int .i64 x__).wf = true)) (wq1 : (Lit.int .i64 a1).wf = true) (wq2 : l2.length ≤ maxLen ∧ ∀ x_, x_ ∈ l2 → (Lit.int .i64 x_).wf = true) :
    Calls Try.prog 3 #[.slice A0 l0.length c0, .int .i64 a1, .slice A2 l2.length c2] w fun e w' => e = .returned (.bool true) ∧ Below w.heap.size w w' := by
  have HR0 := Aside0.mk hr0
  have HC0 := Aside0.mk hc0
  clear hr0 hc0
  have HR2 := Aside0.mk hr2
  have HC2 := Aside0.mk hc2
  clear hr2 hc2
  have HB := Aside0.mk (Below.refl w.heap.size w)
  by_cases g0_ : (l2.length : Int) > 1048576
  · have g0_b : decide ((l2.length : Int) > 1048576) = true := decide_eq_true g0_
    clear g0_
    go_enter Try.func3, Try.ntmps3
    go_wp2
    go_ret
    exact ⟨rfl, HB.out⟩
  have g0_b : decide ((l2.length : Int) > 1048576) = false := decide_eq_false g0_
  obtain ⟨s1_, Nr1_, q1_⟩ := laws_szDependS_x l0 1048576 (by omega) (by omega) wq0
  obtain ⟨kz1_, Nr1_⟩ := Nr1_
  have N1 := Aside0.mk Nr1_
  clear Nr1_
  by_cases g1_ : s1_ < 0
  · have g1_b : decide (s1_ < 0) = true := decide_eq_true g1_
    clear g1_ q1_
    go_enter Try.func3, Try.ntmps3
    go_wp2_with (first | ((with_reducible refine gate_callee (f := 13) rfl ?_); refine goesL_ (some 24) rfl rfl Try.func13 (by kernel_rfl) rfl #[.slice A0 l0.length c0, .int .i64 1048576] rfl (by (try simp only [List.map_toArray, List.map_cons, List.map_nil]); first | done | rfl | (simp only [List.length_drop, List.length_take]; rfl)) ?_; (with_reducible refine (laws_szDependS.calls (hr0 := Kd.C_below HR0.out HB.out) (hc0 := HC0.out) (h := N1.out)).mono ?_); rintro e w1 ⟨rfl, hb⟩; have HST := Aside0.mk (hb); have HB1 := Aside0.mk (below_step HB.out HST.out); have HS1 := Aside0.mk (show w.heap.size ≤ w1.heap.size from HST.out.size); clear hb HST; refine ⟨_, rfl, ?_⟩))
    go_ret
    exact ⟨rfl, HB1.out⟩
  have g1_b : decide (s1_ < 0) = false := decide_eq_false g1_
  have hz1_ : szOk_laws_szDependS l0 := by rcases q1_ with h_ | h_; exact absurd h_ g1_; exact h_.1
  have hs1_ : 0 ≤ s1_ ∧ s1_ ≤ 1048576 := by rcases q1_ with h_ | h_; exact absurd h_ g1_; exact h_.2
  clear q1_
  obtain ⟨k_, ⟨o0_, o1_⟩, P1, P2, P3⟩ := P l0 a1 l2 wq0 wq1 wq2 (by omega) hz1_
  replace P3 : o0_.length ≤ 1048576 := P3
  obtain ⟨k2_, Nr2_⟩ := laws_toDependS_x l0 hz1_
  obtain ⟨k3_, Nr3_⟩ := laws_toIntS_x l2 (show l2.length ≤ 1048576 by omega)
  have Nr4_ := P1
  obtain ⟨k5_, Nr5_⟩ := laws_toDependS_x l0 hz1_
  obtain ⟨k6_, Nr6_⟩ := laws_toIntS_x l2 (show l2.length ≤ 1048576 by omega)
  have Nr7_ := P2
  obtain ⟨k8_, Nr8_⟩ := laws_eqIntS_x o0_ P3
  obtain ⟨k9_, Nr9_⟩ := laws_toDependS_x l0 hz1_
  obtain ⟨k10_, Nr10_⟩ := laws_eqDependS_x (cvDependS l0) (okDependS_cv hz1_)
  obtain ⟨k11_, Nr11_⟩ := laws_toIntS_x l2 (show l2.length ≤ 1048576 by omega)
  obtain ⟨k12_, Nr12_⟩ := laws_eqIntS_x l2 (show l2.length ≤ 1048576 by omega)
  have hb13_ := cntDependS_sz hz1_
  obtain ⟨k13_, Nr13_⟩ := laws_markDependS_x (cvDependS l0) 1 (okDependS_cv hz1_) (by omega) (by omega)
  obtain ⟨m13_, hm13_⟩ : ∃ z_, z_ = 1 + cntDependS (cvDependS l0) := ⟨_, rfl⟩
  rw [← hm13_] at Nr13_
  obtain ⟨y13_0, hy13_0⟩ : ∃ z_, z_ = markedDependS (cvDependS l0) 1 := ⟨_, rfl⟩
  rw [← hy13_0] at Nr13_
  clear hy13_0
  have hb14_ := cntIntS_le _ (show l2.length ≤ 1048576 by omega)
  obtain ⟨k14_, Nr14_⟩ := laws_markIntS_x l2 m13_ (show l2.length ≤ 1048576 by omega) (by omega) (by omega)
  obtain ⟨m14_, hm14_⟩ : ∃ z_, z_ = m13_ + cntIntS l2 := ⟨_, rfl⟩
  rw [← hm14_] at Nr14_
  obtain ⟨y14_0, hy14_0⟩ : ∃ z_, z_ = markedIntS l2.length m13_ := ⟨_, rfl⟩
  rw [← hy14_0] at Nr14_
  clear hy14_0
  obtain ⟨k15_, Nr15_⟩ := laws_eqIntS_x o0_ P3
  have hb16_ := cntIntS_ok _ P3
  obtain ⟨k16_, Nr16_⟩ := laws_markIntS_x o0_ 1 P3 (by omega) (by omega)
  obtain ⟨k17_, Nr17_⟩ := laws_heldIntS_x o0_ 1 P3 (by omega) (by omega)
  obtain ⟨m16_, hm16_⟩ : ∃ z_, z_ = 1 + cntIntS o0_ := ⟨_, rfl⟩
  rw [← hm16_] at Nr16_ Nr17_
  obtain ⟨y16_0, hy16_0⟩ : ∃ z_, z_ = markedIntS o0_.length 1 := ⟨_, rfl⟩
  rw [← hy16_0] at Nr16_ Nr17_
  clear hy16_0
  have Nr22_ := Nr17_
  obtain ⟨k18_, Nr18_⟩ := laws_toDependS_x l0 hz1_
  obtain ⟨k19_, Nr19_⟩ := laws_toIntS_x l2 (show l2.length ≤ 1048576 by omega)
  have Nr20_ := P2
  obtain ⟨k21_, Nr21_⟩ := laws_eqIntS_x o0_ P3
  have N2 := Aside0.mk Nr2_
  have N3 := Aside0.mk Nr3_
  have N4 := Aside0.mk Nr4_
  have N5 := Aside0.mk Nr5_
  have N6 := Aside0.mk Nr6_
  have N7 := Aside0.mk Nr7_
  have N8 := Aside0.mk Nr8_
  have N9 := Aside0.mk Nr9_
  have N10 := Aside0.mk Nr10_
  have N11 := Aside0.mk Nr11_
  have N12 := Aside0.mk Nr12_
  have N13 := Aside0.mk Nr13_
  have N14 := Aside0.mk Nr14_
  have N15 := Aside0.mk Nr15_
  have N16 := Aside0.mk Nr16_
  have N17 := Aside0.mk Nr17_
  have N18 := Aside0.mk Nr18_
  have N19 := Aside0.mk Nr19_
  have N20 := Aside0.mk Nr20_
  have N21 := Aside0.mk Nr21_
  have N22 := Aside0.mk Nr22_
  have cdm14_ : decide (m14_ < 0) = false := decide_eq_false (by omega)
  have cdm16_ : decide (m16_ < 0) = false := decide_eq_false (by omega)
  have cnm16_ : (m16_ != m16_) = false := bne_self_eq_false _
  have cno1_ : (o1_ != o1_) = false := bne_self_eq_false _
  clear P1 P2 P3 Nr2_ Nr3_ Nr4_ Nr5_ Nr6_ Nr7_ Nr8_ Nr9_ Nr10_ Nr11_ Nr12_ Nr13_ Nr14_ Nr15_ Nr16_ Nr17_ Nr18_ Nr19_ Nr20_ Nr21_ Nr22_ hm13_ hb13_ hm14_ hb14_ hm16_ hb16_
  clear P g0_ g1_ hz1_ hs1_ wq0 wq1 wq2
  go_enter Try.func3, Try.ntmps3
  go_upto_region 5 with (first | ((with_reducible refine gate_callee (f := 13) rfl ?_); refine goesL_ (some 24) rfl rfl Try.func13 (by kernel_rfl) rfl #[.slice A0 l0.length c0, .int .i64 1048576] rfl (by (try simp only [List.map_toArray, List.map_cons, List.map_nil]); first | done | rfl | (simp only [List.length_drop, List.length_take]; rfl)) ?_; (with_reducible refine (laws_szDependS.calls (hr0 := Kd.C_below HR0.out HB.out) (hc0 := HC0.out) (h := N1.out)).mono ?_); rintro e w1 ⟨rfl, hb⟩; have HST := Aside0.mk (hb); have HB1 := Aside0.mk (below_step HB.out HST.out); have HS1 := Aside0.mk (show w.heap.size ≤ w1.heap.size from HST.out.size); clear hb HST; refine ⟨_, rfl, ?_⟩))
  go_upto_region 8 with (first | ((with_reducible refine gate_callee (f := 15) rfl ?_); refine goesL_ (some 29) rfl rfl Try.func15 (by kernel_rfl) rfl #[.slice A0 l0.length c0] rfl (by (try simp only [List.map_toArray, List.map_cons, List.map_nil]); first | done | rfl | (simp only [List.length_drop, List.length_take]; rfl)) ?_; (with_reducible refine (laws_toDependS.calls (hr0 := Kd.C_below HR0.out HB1.out) (hc0 := HC0.out) (h := N2.out)).mono ?_); rintro e w2 ⟨v0_, rfl, ho0, hb⟩; have HST := Aside0.mk (hb); have HB2 := Aside0.mk (below_step HB1.out HST.out); have HS2 := Aside0.mk (show w1.heap.size ≤ w2.heap.size from HST.out.size); obtain ⟨Af1, cf1, ef1⟩ := Kd.S_slice ho0; subst ef1; have F1 := Aside0.mk (show Kd.S k44 44 w2 w.heap.size (fun k_ => w1.heap.size ≤ k_ ∧ k_ < w2.heap.size) (.slice Af1 (cvDependS l0).length cf1) (cvDependS l0) from Kd.S_lower (Kd.S_mono (Kd.S_bound ho0) (fun k_ hk_ => ⟨hk_.2.1, hk_.2.2.1⟩)) (below_size HB1.out)); clear hb HST ho0; clear HB1; refine ⟨_, rfl, ?_⟩) | ((with_reducible refine gate_callee (f := 16) rfl ?_); refine goesL_ (some 32) rfl rfl Try.func16 (by kernel_rfl) rfl #[.slice A2 l2.length c2] rfl (by (try simp only [List.map_toArray, List.map_cons, List.map_nil]); first | done | rfl | (simp only [List.length_drop, List.length_take]; rfl)) ?_; (with_reducible refine (laws_toIntS.calls (hr0 := Kd.C_below HR2.out HB2.out) (hc0 := HC2.out) (h := N3.out)).mono ?_); rintro e w3 ⟨v0_, rfl, ho0, hb⟩; have HST := Aside0.mk (hb); have HB3 := Aside0.mk (below_step HB2.out HST.out); have HS3 := Aside0.mk (show w2.heap.size ≤ w3.heap.size from HST.out.size); obtain ⟨Af2, cf2, ef2⟩ := Kd.R_slice ho0; subst ef2; have F2 := Aside0.mk (show Kd.R (Kd.int .i64) 3 w3 w.heap.size (fun k_ => w2.heap.size ≤ k_ ∧ k_ < w3.heap.size) (.slice Af2 l2.length cf2) l2 from Kd.R_lower (Kd.R_mono (Kd.R_bound ho0) (fun k_ hk_ => ⟨hk_.2.1, hk_.2.2.1⟩)) (below_size HB2.out)); have F1_ := Aside0.mk (Kd.S_below F1.out HST.out); clear F1; have F1 := F1_; clear F1_; clear hb HST ho0; clear HB2; refine ⟨_, rfl, ?_⟩) | ((with_reducible refine gate_callee (f := 14) rfl ?_); refine goesL_ (some 33) rfl rfl Try.func14 (by kernel_rfl) rfl #[.slice Af1 (cvDependS l0).length cf1, .int .i64 a1, .slice Af2 l2.length cf2] rfl (by (try simp only [List.map_toArray, List.map_cons, List.map_nil]); first | done | rfl | (simp only [List.length_drop, List.length_take]; rfl)) ?_; (with_reducible refine (spec_ClosureOf.calls (hr0 := (Kd.S_reads' F1.out).2.2) (hc0 := (Kd.S_reads' F1.out).2.1) (hr2 := (Kd.R_reads' F2.out).2.2) (hc2 := (Kd.R_reads' F2.out).2.1) (h := N4.out)).mono ?_); rintro e w4 ⟨v0_, rfl, ho0, hb⟩; have HST := Aside0.mk (hb); have HB4 := Aside0.mk (below_step HB3.out HST.out); have HS4 := Aside0.mk (show w3.heap.size ≤ w4.heap.size from HST.out.size); obtain ⟨Af3, cf3, ef3⟩ := Kd.V_slice ho0; subst ef3; have F3 := Aside0.mk (show Kd.V (Kd.int .i64) 3 w4 w.heap.size (fun k_ => w3.heap.size ≤ k_ ∧ k_ < w4.heap.size) (.slice Af3 o0_.length cf3) o0_ from Kd.V_lower (Kd.V_mono (Kd.V_bound ho0) (fun k_ hk_ => ⟨hk_.1, hk_.2⟩)) (below_size HB3.out)); clear F1; clear F2; clear hb HST ho0; clear HB3; refine ⟨_, rfl, ?_⟩))
  go_upto_region 9 with (first | ((with_reducible refine gate_callee (f := 15) rfl ?_); refine goesL_ (some 37) rfl rfl Try.func15 (by kernel_rfl) rfl #[.slice A0 l0.length c0] rfl (by (try simp only [List.map_toArray, List.map_cons, List.map_nil]); first | done | rfl | (simp only [List.length_drop, List.length_take]; rfl)) ?_; (with_reducible refine (laws_toDependS.calls (hr0 := Kd.C_below HR0.out HB4.out) (hc0 := HC0.out) (h := N5.out)).mono ?_); rintro e w5 ⟨v0_, rfl, ho0, hb⟩; have HST := Aside0.mk (hb); have HB5 := Aside0.mk (below_step HB4.out HST.out); have HS5 := Aside0.mk (show w4.heap.size ≤ w5.heap.size from HST.out.size); obtain ⟨Af4, cf4, ef4⟩ := Kd.S_slice ho0; subst ef4; have F4 := Aside0.mk (show Kd.S k44 44 w5 w.heap.size (fun k_ => w4.heap.size ≤ k_ ∧ k_ < w5.heap.size) (.slice Af4 (cvDependS l0).length cf4) (cvDependS l0) from Kd.S_lower (Kd.S_mono (Kd.S_bound ho0) (fun k_ hk_ => ⟨hk_.2.1, hk_.2.2.1⟩)) (below_size HB4.out)); have F3_ := Aside0.mk (Kd.V_below F3.out HST.out); clear F3; have F3 := F3_; clear F3_; clear hb HST ho0; clear HB4; refine ⟨_, rfl, ?_⟩))
  go_upto_region 10 with (first | ((with_reducible refine gate_callee (f := 16) rfl ?_); refine goesL_ (some 39) rfl rfl Try.func16 (by kernel_rfl) rfl #[.slice A2 l2.length c2] rfl (by (try simp only [List.map_toArray, List.map_cons, List.map_nil]); first | done | rfl | (simp only [List.length_drop, List.length_take]; rfl)) ?_; (with_reducible refine (laws_toIntS.calls (hr0 := Kd.C_below HR2.out HB5.out) (hc0 := HC2.out) (h := N6.out)).mono ?_); rintro e w6 ⟨v0_, rfl, ho0, hb⟩; have HST := Aside0.mk (hb); have HB6 := Aside0.mk (below_step HB5.out HST.out); have HS6 := Aside0.mk (show w5.heap.size ≤ w6.heap.size from HST.out.size); obtain ⟨Af5, cf5, ef5⟩ := Kd.R_slice ho0; subst ef5; have F5 := Aside0.mk (show Kd.R (Kd.int .i64) 3 w6 w.heap.size (fun k_ => w5.heap.size ≤ k_ ∧ k_ < w6.heap.size) (.slice Af5 l2.length cf5) l2 from Kd.R_lower (Kd.R_mono (Kd.R_bound ho0) (fun k_ hk_ => ⟨hk_.2.1, hk_.2.2.1⟩)) (below_size HB5.out)); have F3_ := Aside0.mk (Kd.V_below F3.out HST.out); clear F3; have F3 := F3_; clear F3_; have F4_ := Aside0.mk (Kd.S_below F4.out HST.out); clear F4; have F4 := F4_; clear F4_; clear hb HST ho0; clear HB5; refine ⟨_, rfl, ?_⟩))
  go_upto_region 11 with (first | ((with_reducible refine gate_callee (f := 17) rfl ?_); refine goesL_ (some 44) rfl rfl Try.func17 (by kernel_rfl) rfl #[.slice Af4 (cvDependS l0).length cf4, .int .i64 a1, .slice Af5 l2.length cf5] rfl (by (try simp only [List.map_toArray, List.map_cons, List.map_nil]); first | done | rfl | (simp only [List.length_drop, List.length_take]; rfl)) ?_; (with_reducible refine (impl_ClosureOf.calls (hr0 := (Kd.S_reads' F4.out).2.2) (hc0 := (Kd.S_reads' F4.out).2.1) (hr2 := (Kd.R_reads' F5.out).2.2) (hc2 := (Kd.R_reads' F5.out).2.1) (h := N7.out)).mono ?_); rintro e w7 ⟨v0_, rfl, ho0, hb⟩; have HST := Aside0.mk (hb); have HB7 := Aside0.mk (below_step HB6.out HST.out); have HS7 := Aside0.mk (show w6.heap.size ≤ w7.heap.size from HST.out.size); obtain ⟨Af6, cf6, ef6⟩ := Kd.R_slice ho0; subst ef6; have F6 := Aside0.mk (show Kd.R (Kd.int .i64) 3 w7 w.heap.size (fun k_ => w6.heap.size ≤ k_ ∧ k_ < w7.heap.size) (.slice Af6 o0_.length cf6) o0_ from Kd.R_lower (Kd.R_mono (Kd.R_bound ho0) (fun k_ hk_ => ⟨hk_.2.1, hk_.2.2.1⟩)) (below_size HB6.out)); have F3_ := Aside0.mk (Kd.V_below F3.out HST.out); clear F3; have F3 := F3_; clear F3_; have F4_ := Aside0.mk (Kd.S_below F4.out HST.out); clear F4; have F4 := F4_; clear F4_; have F5_ := Aside0.mk (Kd.R_below F5.out HST.out); clear F5; have F5 := F5_; clear F5_; clear hb HST ho0; clear HB6; refine ⟨_, rfl, ?_⟩))
  go_upto_region 13 with (first | ((with_reducible refine gate_callee (f := 18) rfl ?_); refine goesL_ (some 49) rfl rfl Try.func18 (by kernel_rfl) rfl #[.slice Af6 o0_.length cf6, .slice Af3 o0_.length cf3] rfl (by (try simp only [List.map_toArray, List.map_cons, List.map_nil]); first | done | rfl | (simp only [List.length_drop, List.length_take]; rfl)) ?_; (with_reducible refine (laws_eqIntS.calls (hr0 := (Kd.R_reads' F6.out).2.2) (hc0 := (Kd.R_reads' F6.out).2.1) (hr1 := (Kd.V_reads' F3.out).2.2) (hc1 := (Kd.V_reads' F3.out).2.1) (h := N8.out)).mono ?_); rintro e w8 ⟨rfl, hdr⟩; have HST := Aside0.mk (hdr.below); have HB8 := Aside0.mk (below_step HB7.out HST.out); have HS8 := Aside0.mk (show w7.heap.size ≤ w8.heap.size from HST.out.size); have F3_ := Aside0.mk (Kd.V_below F3.out HST.out); clear F3; have F3 := F3_; clear F3_; have F4_ := Aside0.mk (Kd.S_below F4.out HST.out); clear F4; have F4 := F4_; clear F4_; have F5_ := Aside0.mk (Kd.R_below F5.out HST.out); clear F5; have F5 := F5_; clear F5_; have F6_ := Aside0.mk (Kd.R_below F6.out HST.out); clear F6; have F6 := F6_; clear F6_; clear hdr HST; clear HB7; refine ⟨_, rfl, ?_⟩))
  go_upto_region 15 with (first | ((with_reducible refine gate_callee (f := 15) rfl ?_); refine goesL_ (some 58) rfl rfl Try.func15 (by kernel_rfl) rfl #[.slice A0 l0.length c0] rfl (by (try simp only [List.map_toArray, List.map_cons, List.map_nil]); first | done | rfl | (simp only [List.length_drop, List.length_take]; rfl)) ?_; (with_reducible refine (laws_toDependS.calls (hr0 := Kd.C_below HR0.out HB8.out) (hc0 := HC0.out) (h := N9.out)).mono ?_); rintro e w9 ⟨v0_, rfl, ho0, hb⟩; have HST := Aside0.mk (hb); have HB9 := Aside0.mk (below_step HB8.out HST.out); have HS9 := Aside0.mk (show w8.heap.size ≤ w9.heap.size from HST.out.size); obtain ⟨Af7, cf7, ef7⟩ := Kd.S_slice ho0; subst ef7; have F7 := Aside0.mk (show Kd.S k44 44 w9 w.heap.size (fun k_ => w8.heap.size ≤ k_ ∧ k_ < w9.heap.size) (.slice Af7 (cvDependS l0).length cf7) (cvDependS l0) from Kd.S_lower (Kd.S_mono (Kd.S_bound ho0) (fun k_ hk_ => ⟨hk_.2.1, hk_.2.2.1⟩)) (below_size HB8.out)); have F3_ := Aside0.mk (Kd.V_below F3.out HST.out); clear F3; have F3 := F3_; clear F3_; have F4_ := Aside0.mk (Kd.S_below F4.out HST.out); clear F4; have F4 := F4_; clear F4_; have F5_ := Aside0.mk (Kd.R_below F5.out HST.out); clear F5; have F5 := F5_; clear F5_; have F6_ := Aside0.mk (Kd.R_below F6.out HST.out); clear F6; have F6 := F6_; clear F6_; clear hb HST ho0; clear HB8; refine ⟨_, rfl, ?_⟩) | ((with_reducible refine gate_callee (f := 19) rfl ?_); refine goesL_ (some 59) rfl rfl Try.func19 (by kernel_rfl) rfl #[.slice Af4 (cvDependS l0).length cf4, .slice Af7 (cvDependS l0).length cf7] rfl (by (try simp only [List.map_toArray, List.map_cons, List.map_nil]); first | done | rfl | (simp only [List.length_drop, List.length_take]; rfl)) ?_; (with_reducible refine (laws_eqDependS.calls (hr0 := (Kd.S_reads' F4.out).2.2) (hc0 := (Kd.S_reads' F4.out).2.1) (hr1 := (Kd.S_reads' F7.out).2.2) (hc1 := (Kd.S_reads' F7.out).2.1) (h := N10.out)).mono ?_); rintro e w10 ⟨rfl, hb⟩; have HST := Aside0.mk (hb); have HB10 := Aside0.mk (below_step HB9.out HST.out); have HS10 := Aside0.mk (show w9.heap.size ≤ w10.heap.size from HST.out.size); have F3_ := Aside0.mk (Kd.V_below F3.out HST.out); clear F3; have F3 := F3_; clear F3_; have F4_ := Aside0.mk (Kd.S_below F4.out HST.out); clear F4; have F4 := F4_; clear F4_; have F5_ := Aside0.mk (Kd.R_below F5.out HST.out); clear F5; have F5 := F5_; clear F5_; have F6_ := Aside0.mk (Kd.R_below F6.out HST.out); clear F6; have F6 := F6_; clear F6_; clear F7; clear hb HST; clear HB9; refine ⟨_, rfl, ?_⟩))
  go_upto_region 17 with (first | ((with_reducible refine gate_callee (f := 16) rfl ?_); refine goesL_ (some 63) rfl rfl Try.func16 (by kernel_rfl) rfl #[.slice A2 l2.length c2] rfl (by (try simp only [List.map_toArray, List.map_cons, List.map_nil]); first | done | rfl | (simp only [List.length_drop, List.length_take]; rfl)) ?_; (with_reducible refine (laws_toIntS.calls (hr0 := Kd.C_below HR2.out HB10.out) (hc0 := HC2.out) (h := N11.out)).mono ?_); rintro e w11 ⟨v0_, rfl, ho0, hb⟩; have HST := Aside0.mk (hb); have HB11 := Aside0.mk (below_step HB10.out HST.out); have HS11 := Aside0.mk (show w10.heap.size ≤ w11.heap.size from HST.out.size); obtain ⟨Af8, cf8, ef8⟩ := Kd.R_slice ho0; subst ef8; have F8 := Aside0.mk (show Kd.R (Kd.int .i64) 3 w11 w.heap.size (fun k_ => w10.heap.size ≤ k_ ∧ k_ < w11.heap.size) (.slice Af8 l2.length cf8) l2 from Kd.R_lower (Kd.R_mono (Kd.R_bound ho0) (fun k_ hk_ => ⟨hk_.2.1, hk_.2.2.1⟩)) (below_size HB10.out)); have F3_ := Aside0.mk (Kd.V_below F3.out HST.out); clear F3; have F3 := F3_; clear F3_; have F4_ := Aside0.mk (Kd.S_below F4.out HST.out); clear F4; have F4 := F4_; clear F4_; have F5_ := Aside0.mk (Kd.R_below F5.out HST.out); clear F5; have F5 := F5_; clear F5_; have F6_ := Aside0.mk (Kd.R_below F6.out HST.out); clear F6; have F6 := F6_; clear F6_; clear hb HST ho0; clear HB10; refine ⟨_, rfl, ?_⟩) | ((with_reducible refine gate_callee (f := 18) rfl ?_); refine goesL_ (some 64) rfl rfl Try.func18 (by kernel_rfl) rfl #[.slice Af5 l2.length cf5, .slice Af8 l2.length cf8] rfl (by (try simp only [List.map_toArray, List.map_cons, List.map_nil]); first | done | rfl | (simp only [List.length_drop, List.length_take]; rfl)) ?_; (with_reducible refine (laws_eqIntS.calls (hr0 := (Kd.R_reads' F5.out).2.2) (hc0 := (Kd.R_reads' F5.out).2.1) (hr1 := (Kd.R_reads' F8.out).2.2) (hc1 := (Kd.R_reads' F8.out).2.1) (h := N12.out)).mono ?_); rintro e w12 ⟨rfl, hdr⟩; have HST := Aside0.mk (hdr.below); have HB12 := Aside0.mk (below_step HB11.out HST.out); have HS12 := Aside0.mk (show w11.heap.size ≤ w12.heap.size from HST.out.size); have F3_ := Aside0.mk (Kd.V_below F3.out HST.out); clear F3; have F3 := F3_; clear F3_; have F4_ := Aside0.mk (Kd.S_below F4.out HST.out); clear F4; have F4 := F4_; clear F4_; have F5_ := Aside0.mk (Kd.R_below F5.out HST.out); clear F5; have F5 := F5_; clear F5_; have F6_ := Aside0.mk (Kd.R_below F6.out HST.out); clear F6; have F6 := F6_; clear F6_; clear F8; clear hdr HST; clear HB11; refine ⟨_, rfl, ?_⟩))
  go_upto_region 19 with (first | ((with_reducible refine gate_callee (f := 20) rfl ?_); refine goesL_ (some 68) rfl rfl Try.func20 (by kernel_rfl) rfl #[.slice Af4 (cvDependS l0).length cf4, .int .i64 1] rfl (by (try simp only [List.map_toArray, List.map_cons, List.map_nil]); first | done | rfl | (simp only [List.length_drop, List.length_take]; rfl)) ?_; (with_reducible refine (laws_markDependS.calls (w0 := w) (hB := HB12.out) (ho0 := F4.out) (h := N13.out)).mono ?_); rintro e w13 ⟨rfl, hy0, hb, hk⟩; have HB13 := Aside0.mk hb; have HKK := Aside0.mk hk; have HS13 := Aside0.mk (show w12.heap.size ≤ w13.heap.size from hk.1); have HEy13_0 := Aside0.mk (show (cvDependS l0).length = y13_0.length from (Kd.S_reads' hy0).1); have F4_ := Aside0.mk (show Kd.S k44 44 w13 w.heap.size (fun k_ => w4.heap.size ≤ k_ ∧ k_ < w5.heap.size) (.slice Af4 y13_0.length cf4) y13_0 from by have hz_ := hy0; have he_ : (cvDependS l0).length = y13_0.length := (by have := (Kd.S_reads' hz_).1; omega); rw [← he_]; exact hz_); have F3_ := Aside0.mk (Kd.V_kept F3.out HKK.out (fun k_ h1_ => by intro h2_; exact (fun k_ h1_ h2_ => by have h3_ := h1_.1; have h4_ := h1_.2; have h5_ := h2_.1; have h6_ := h2_.2; skip; omega) k_ h1_ h2_)); clear F3; have F3 := F3_; clear F3_; clear F4 F4_; have F5_ := Aside0.mk (Kd.R_kept F5.out HKK.out (fun k_ h1_ => by intro h2_; exact (fun k_ h1_ h2_ => by have h3_ := h1_.1; have h4_ := h1_.2; have h5_ := h2_.1; have h6_ := h2_.2; skip; omega) k_ h1_ h2_)); clear F5; have F5 := F5_; clear F5_; have F6_ := Aside0.mk (Kd.R_kept F6.out HKK.out (fun k_ h1_ => by intro h2_; exact (fun k_ h1_ h2_ => by have h3_ := h1_.1; have h4_ := h1_.2; have h5_ := h2_.1; have h6_ := h2_.2; have z6_ := HS6.out; omega) k_ h1_ h2_)); clear F6; have F6 := F6_; clear F6_; clear hb hk HKK hy0; clear HB12; refine ⟨_, rfl, ?_⟩))
  go_upto_region 20 with (first | ((with_reducible refine gate_callee (f := 21) rfl ?_); refine goesL_ (some 71) rfl rfl Try.func21 (by kernel_rfl) rfl #[.slice Af5 l2.length cf5, .int .i64 m13_] rfl (by (try simp only [List.map_toArray, List.map_cons, List.map_nil]); first | done | rfl | (simp only [List.length_drop, List.length_take]; rfl)) ?_; (with_reducible refine (laws_markIntS.calls (w0 := w) (hB := HB13.out) (ho0 := F5.out) (h := N14.out)).mono ?_); rintro e w14 ⟨rfl, hy0, hb, hk⟩; have HB14 := Aside0.mk hb; have HKK := Aside0.mk hk; have HS14 := Aside0.mk (show w13.heap.size ≤ w14.heap.size from hk.1); have HEy14_0 := Aside0.mk (show l2.length = y14_0.length from (Kd.R_reads' hy0).1); have F5_ := Aside0.mk (show Kd.R (Kd.int .i64) 3 w14 w.heap.size (fun k_ => w5.heap.size ≤ k_ ∧ k_ < w6.heap.size) (.slice Af5 y14_0.length cf5) y14_0 from by have hz_ := R_again rfl F5.out hy0; have he_ : l2.length = y14_0.length := (by have := (Kd.R_reads' hz_).1; omega); rw [← he_]; exact hz_); have F3_ := Aside0.mk (Kd.V_kept F3.out HKK.out (fun k_ h1_ => by intro h2_; exact (fun k_ h1_ h2_ => by have h3_ := h1_.1; have h4_ := h1_.2; have h5_ := h2_.1; have h6_ := h2_.2; have z5_ := HS5.out; omega) k_ h1_ h2_)); clear F3; have F3 := F3_; clear F3_; clear F5 F5_; have F6_ := Aside0.mk (Kd.R_kept F6.out HKK.out (fun k_ h1_ => by intro h2_; exact (fun k_ h1_ h2_ => by have h3_ := h1_.1; have h4_ := h1_.2; have h5_ := h2_.1; have h6_ := h2_.2; skip; omega) k_ h1_ h2_)); clear F6; have F6 := F6_; clear F6_; clear hb hk HKK hy0; clear HB13; refine ⟨_, rfl, ?_⟩))
  go_upto_region 22 with (first | (go_at_call 18; (with_reducible refine (laws_eqIntS.calls (hr0 := (Kd.R_reads' F6.out).2.2) (hc0 := (Kd.R_reads' F6.out).2.1) (hr1 := (Kd.V_reads' F3.out).2.2) (hc1 := (Kd.V_reads' F3.out).2.1) (h := N15.out)).mono ?_); rintro e w15 ⟨rfl, hdr⟩; have HST := Aside0.mk (hdr.below); have HB15 := Aside0.mk (below_step HB14.out HST.out); have HS15 := Aside0.mk (show w14.heap.size ≤ w15.heap.size from HST.out.size); have F3_ := Aside0.mk (Kd.V_below F3.out HST.out); clear F3; have F3 := F3_; clear F3_; have F6_ := Aside0.mk (Kd.R_below F6.out HST.out); clear F6; have F6 := F6_; clear F6_; clear hdr HST; clear HB14))
  go_upto_region 24 with (first | ((with_reducible refine gate_callee (f := 21) rfl ?_); refine goesL_ (some 87) rfl rfl Try.func21 (by kernel_rfl) rfl #[.slice Af6 o0_.length cf6, .int .i64 1] rfl (by (try simp only [List.map_toArray, List.map_cons, List.map_nil]); first | done | rfl | (simp only [List.length_drop, List.length_take]; rfl)) ?_; (with_reducible refine (laws_markIntS.calls (w0 := w) (hB := HB15.out) (ho0 := F6.out) (h := N16.out)).mono ?_); rintro e w16 ⟨rfl, hy0, hb, hk⟩; have HB16 := Aside0.mk hb; have HKK := Aside0.mk hk; have HS16 := Aside0.mk (show w15.heap.size ≤ w16.heap.size from hk.1); have HEy16_0 := Aside0.mk (show o0_.length = y16_0.length from (Kd.R_reads' hy0).1); have F6_ := Aside0.mk (show Kd.R (Kd.int .i64) 3 w16 w.heap.size (fun k_ => w6.heap.size ≤ k_ ∧ k_ < w7.heap.size) (.slice Af6 y16_0.length cf6) y16_0 from by have hz_ := R_again rfl F6.out hy0; have he_ : o0_.length = y16_0.length := (by have := (Kd.R_reads' hz_).1; omega); rw [← he_]; exact hz_); have F3_ := Aside0.mk (Kd.V_kept F3.out HKK.out (fun k_ h1_ => by intro h2_; exact (fun k_ h1_ h2_ => by have h3_ := h1_.1; have h4_ := h1_.2; have h5_ := h2_.1; have h6_ := h2_.2; have z5_ := HS5.out; have z6_ := HS6.out; omega) k_ h1_ h2_)); clear F3; have F3 := F3_; clear F3_; clear F6; have F6 := F6_; clear F6_; clear hb hk HKK hy0; clear HB15; refine ⟨_, rfl, ?_⟩))
  go_upto_region 26 with (first | ((with_reducible refine gate_callee (f := 22) rfl ?_); refine goesL_ (some 90) rfl rfl Try.func22 (by kernel_rfl) rfl #[.slice Af6 o0_.length cf6, .int .i64 1] rfl (by (try simp only [List.map_toArray, List.map_cons, List.map_nil]); first | done | rfl | (simp only [List.length_drop, List.length_take]; rfl)) ?_; refine calls_of_args (args' := #[.slice Af6 y16_0.length cf6, .int .i64 1]) (by rw [HEy16_0.out]) ?_; (with_reducible refine (laws_heldIntS.calls (hr0 := (Kd.R_reads' F6.out).2.2) (hc0 := (Kd.R_reads' F6.out).2.1) (h := N17.out)).mono ?_); rintro e w17 ⟨rfl, hdr⟩; have HST := Aside0.mk (hdr.below); have HB17 := Aside0.mk (below_step HB16.out HST.out); have HS17 := Aside0.mk (show w16.heap.size ≤ w17.heap.size from HST.out.size); have F3_ := Aside0.mk (Kd.V_below F3.out HST.out); clear F3; have F3 := F3_; clear F3_; have F6_ := Aside0.mk (Kd.R_below F6.out HST.out); clear F6; have F6 := F6_; clear F6_; clear hdr HST; clear HB16; refine ⟨_, rfl, ?_⟩))
  go_upto_region 31 with (first | ((with_reducible refine gate_callee (f := 15) rfl ?_); refine goesL_ (some 98) rfl rfl Try.func15 (by kernel_rfl) rfl #[.slice A0 l0.length c0] rfl (by (try simp only [List.map_toArray, List.map_cons, List.map_nil]); first | done | rfl | (simp only [List.length_drop, List.length_take]; rfl)) ?_; (with_reducible refine (laws_toDependS.calls (hr0 := Kd.C_below HR0.out HB17.out) (hc0 := HC0.out) (h := N18.out)).mono ?_); rintro e w18 ⟨v0_, rfl, ho0, hb⟩; have HST := Aside0.mk (hb); have HB18 := Aside0.mk (below_step HB17.out HST.out); have HS18 := Aside0.mk (show w17.heap.size ≤ w18.heap.size from HST.out.size); obtain ⟨Af9, cf9, ef9⟩ := Kd.S_slice ho0; subst ef9; have F9 := Aside0.mk (show Kd.S k44 44 w18 w.heap.size (fun k_ => w17.heap.size ≤ k_ ∧ k_ < w18.heap.size) (.slice Af9 (cvDependS l0).length cf9) (cvDependS l0) from Kd.S_lower (Kd.S_mono (Kd.S_bound ho0) (fun k_ hk_ => ⟨hk_.2.1, hk_.2.2.1⟩)) (below_size HB17.out)); have F3_ := Aside0.mk (Kd.V_below F3.out HST.out); clear F3; have F3 := F3_; clear F3_; have F6_ := Aside0.mk (Kd.R_below F6.out HST.out); clear F6; have F6 := F6_; clear F6_; clear hb HST ho0; clear HB17; refine ⟨_, rfl, ?_⟩) | ((with_reducible refine gate_callee (f := 16) rfl ?_); refine goesL_ (some 101) rfl rfl Try.func16 (by kernel_rfl) rfl #[.slice A2 l2.length c2] rfl (by (try simp only [List.map_toArray, List.map_cons, List.map_nil]); first | done | rfl | (simp only [List.length_drop, List.length_take]; rfl)) ?_; (with_reducible refine (laws_toIntS.calls (hr0 := Kd.C_below HR2.out HB18.out) (hc0 := HC2.out) (h := N19.out)).mono ?_); rintro e w19 ⟨v0_, rfl, ho0, hb⟩; have HST := Aside0.mk (hb); have HB19 := Aside0.mk (below_step HB18.out HST.out); have HS19 := Aside0.mk (show w18.heap.size ≤ w19.heap.size from HST.out.size); obtain ⟨Af10, cf10, ef10⟩ := Kd.R_slice ho0; subst ef10; have F10 := Aside0.mk (show Kd.R (Kd.int .i64) 3 w19 w.heap.size (fun k_ => w18.heap.size ≤ k_ ∧ k_ < w19.heap.size) (.slice Af10 l2.length cf10) l2 from Kd.R_lower (Kd.R_mono (Kd.R_bound ho0) (fun k_ hk_ => ⟨hk_.2.1, hk_.2.2.1⟩)) (below_size HB18.out)); have F3_ := Aside0.mk (Kd.V_below F3.out HST.out); clear F3; have F3 := F3_; clear F3_; have F6_ := Aside0.mk (Kd.R_below F6.out HST.out); clear F6; have F6 := F6_; clear F6_; have F9_ := Aside0.mk (Kd.S_below F9.out HST.out); clear F9; have F9 := F9_; clear F9_; clear hb HST ho0; clear HB18; refine ⟨_, rfl, ?_⟩) | ((with_reducible refine gate_callee (f := 17) rfl ?_); refine goesL_ (some 102) rfl rfl Try.func17 (by kernel_rfl) rfl #[.slice Af9 (cvDependS l0).length cf9, .int .i64 a1, .slice Af10 l2.length cf10] rfl (by (try simp only [List.map_toArray, List.map_cons, List.map_nil]); first | done | rfl | (simp only [List.length_drop, List.length_take]; rfl)) ?_; (with_reducible refine (impl_ClosureOf.calls (hr0 := (Kd.S_reads' F9.out).2.2) (hc0 := (Kd.S_reads' F9.out).2.1) (hr2 := (Kd.R_reads' F10.out).2.2) (hc2 := (Kd.R_reads' F10.out).2.1) (h := N20.out)).mono ?_); rintro e w20 ⟨v0_, rfl, ho0, hb⟩; have HST := Aside0.mk (hb); have HB20 := Aside0.mk (below_step HB19.out HST.out); have HS20 := Aside0.mk (show w19.heap.size ≤ w20.heap.size from HST.out.size); obtain ⟨Af11, cf11, ef11⟩ := Kd.R_slice ho0; subst ef11; have F11 := Aside0.mk (show Kd.R (Kd.int .i64) 3 w20 w.heap.size (fun k_ => w19.heap.size ≤ k_ ∧ k_ < w20.heap.size) (.slice Af11 o0_.length cf11) o0_ from Kd.R_lower (Kd.R_mono (Kd.R_bound ho0) (fun k_ hk_ => ⟨hk_.2.1, hk_.2.2.1⟩)) (below_size HB19.out)); have F3_ := Aside0.mk (Kd.V_below F3.out HST.out); clear F3; have F3 := F3_; clear F3_; have F6_ := Aside0.mk (Kd.R_below F6.out HST.out); clear F6; have F6 := F6_; clear F6_; clear F9; clear F10; clear hb HST ho0; clear HB19; refine ⟨_, rfl, ?_⟩))
  go_upto_region 33 with (first | ((with_reducible refine gate_callee (f := 18) rfl ?_); refine goesL_ (some 107) rfl rfl Try.func18 (by kernel_rfl) rfl #[.slice Af11 o0_.length cf11, .slice Af3 o0_.length cf3] rfl (by (try simp only [List.map_toArray, List.map_cons, List.map_nil]); first | done | rfl | (simp only [List.length_drop, List.length_take]; rfl)) ?_; (with_reducible refine (laws_eqIntS.calls (hr0 := (Kd.R_reads' F11.out).2.2) (hc0 := (Kd.R_reads' F11.out).2.1) (hr1 := (Kd.V_reads' F3.out).2.2) (hc1 := (Kd.V_reads' F3.out).2.1) (h := N21.out)).mono ?_); rintro e w21 ⟨rfl, hdr⟩; have HST := Aside0.mk (hdr.below); have HB21 := Aside0.mk (below_step HB20.out HST.out); have HS21 := Aside0.mk (show w20.heap.size ≤ w21.heap.size from HST.out.size); clear F3; have F6_ := Aside0.mk (Kd.R_below F6.out HST.out); clear F6; have F6 := F6_; clear F6_; clear F11; clear hdr HST; clear HB20; refine ⟨_, rfl, ?_⟩))
  go_upto_region 35 with (first | ((with_reducible refine gate_callee (f := 22) rfl ?_); refine goesL_ (some 116) rfl rfl Try.func22 (by kernel_rfl) rfl #[.slice Af6 o0_.length cf6, .int .i64 1] rfl (by (try simp only [List.map_toArray, List.map_cons, List.map_nil]); first | done | rfl | (simp only [List.length_drop, List.length_take]; rfl)) ?_; refine calls_of_args (args' := #[.slice Af6 y16_0.length cf6, .int .i64 1]) (by rw [HEy16_0.out]) ?_; (with_reducible refine (laws_heldIntS.calls (hr0 := (Kd.R_reads' F6.out).2.2) (hc0 := (Kd.R_reads' F6.out).2.1) (h := N22.out)).mono ?_); rintro e w22 ⟨rfl, hdr⟩; have HST := Aside0.mk (hdr.below); have HB22 := Aside0.mk (below_step HB21.out HST.out); have HS22 := Aside0.mk (show w21.heap.size ≤ w22.heap.size from HST.out.size); clear F6; clear hdr HST; clear HB21; refine ⟨_, rfl, ?_⟩))
  go_wp2
  go_ret
  exact ⟨rfl, HB22.out⟩

end Go.Proofs.Ytenlddbeehjogaa.PFnExactClosureOf
