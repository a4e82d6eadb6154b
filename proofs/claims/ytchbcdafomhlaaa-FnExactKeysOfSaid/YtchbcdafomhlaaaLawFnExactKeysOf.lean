/-
  A text of this claim's own, printed by a program of the session (wip/tools/xprint.py): functions of the program as Lean functions, each with what its call comes to.
-/
import Derived.Test.YtchbcdafomhlaaaRows
import Derived.Test.YtchbcdafomhlaaaPFnExactKeysOfx5
import Derived.Test.YtchbcdafomhlaaaPureFnExactKeysOf
import Derived.Test.YtchbcdafomhlaaaOp
import Derived.WalkKit
import Derived.ProofKit
import Derived.OpenShut
import Derived.ShutString
import Derived.ChangeOld
import Derived.Below
import Derived.SizedLaws
namespace Go.Proofs.Ytchbcdafomhlaaa.fnExactKeysOf
open Go.ChangeShapes Go.WideShapes Go.ChangeAt Go.RowKit Go.Proofs.YtchbcdafomhlaaaW.PrintWords Go.Proofs.YtchbcdafomhlaaaW.PrintMore Go.Proofs.Ytchbcdafomhlaaa.PFnExactKeysOf
open Go.ChangeMaps (open_string shut_string)
set_option linter.unusedVariables false
theorem own : ownKnob Try.prog.godebug = none := by kernel_rfl
theorem laidOut : laidOutB Try.prog = true := by kernel_rfl
theorem opens0 : Opens Try.prog 39 (Kd.slice 78 k78) (fun y_ => y_.length ≤ maxLen ∧ ∀ x_, x_ ∈ y_ → (x_.f0.length ≤ maxLen ∧ ∀ x__, x__ ∈ x_.f0 → (Lit.int .i64 x__).wf = true) ∧ (x_.f1.length ≤ maxLen ∧ ∀ x__, x__ ∈ x_.f1 → (Lit.int .i64 x__).wf = true)) :=
  ((Opens.slice Try.underlying39 (by kernel_rfl) (Opens.iso (fun x : S78 => (x.f0, x.f1)) (fun y => ⟨y.1, y.2⟩) (fun _ => rfl) (Opens.struct Try.underlying78 (by kernel_rfl) (OpensF.cons rfl (by kernel_rfl) (Opens.slice Try.underlying24 (by kernel_rfl) (Opens.int Try.underlying3)) (OpensF.one rfl (by kernel_rfl) (Opens.slice Try.underlying24 (by kernel_rfl) (Opens.int Try.underlying3)))))))).weak (fun _ h => h)
theorem opens1 : Opens Try.prog 3 (Kd.int .i64) (fun y_ => (Lit.int .i64 y_).wf = true) :=
  ((Opens.int Try.underlying3)).weak (fun _ h => h)
set_option maxRecDepth 100000 in
theorem lifted (os : Os) (started : os.Started) (H : Type) (enc : TypeId × Value → H) :
    ReturnsInHanded {} Try.checked os 4 .any (Rows.fnExactKeysOfSpec.pre6 enc Try.prog Try.f4 Rows.fnExactKeysOfRow.domain false) (Rows.fnExactKeysOfSpec.post enc Try.prog Try.f4 false true false false) := by
  refine returnsInHanded_of_change_sized (C := Try.checked) own started (by kernel_rfl) Try.func4
    (ChangeSpec.witness6 (enc := enc) (C := Try.checked) false ⟨#[], #[.slice none 0 0, .int .i64 0], []⟩ 8 (by kernel_rfl) (by kernel_rfl) (by kernel_rfl) (by kernel_rfl)) ?_
  intro W base args ds gs before hval0 hW hcnd hsz0 _
  have hval : ∀ (j : Nat) t v, Try.f4.params[j]? = some t → args[j]? = some v → Value.okWide Try.prog W .any base t v := hval0
  have hW' := hW
  obtain ⟨p, q, hA0, hV, rfl, hfz, hnd⟩ := hW
  have hA : DataW.TrodAll enc Try.prog W 0 (fun _ => true) true Try.f4.params.toList args.toList ds p := hA0
  rw [Try.params4] at hA hval
  obtain ⟨v0, vs0, d0, ds0, p0, q0, hargs, rfl, rfl, h0, r0⟩ := trodAll_cons hA
  obtain ⟨v1, vs1, d1, ds1, p1, q1, rfl, rfl, rfl, h1, r1⟩ := trodAll_cons r0
  obtain ⟨rfl, rfl, rfl⟩ := trodAll_nil r1
  obtain rfl : args = #[v0, v1] := by cases args; simp_all
  obtain ⟨rfl, rfl⟩ := trodVars_none hV
  have k0 := h0
  have lt0 : ∀ x ∈ p0, x.block < W.heap.size := by obtain ⟨m, hm⟩ := k0; exact DataW.trod_lt m _ _ _ hm
  obtain ⟨fuel0, hf0⟩ := h0
  obtain ⟨y0, hK0, hw0⟩ := opens0.out enc W 0 _ _ fuel0 _ _ hf0
  obtain ⟨a0, len0, cap0, rfl⟩ := okWide_slice Try.underlying39 (hval 0 39 v0 rfl rfl)
  obtain ⟨A0, c0, e0, hl0, hC0⟩ := hK0
  obtain ⟨rfl, rfl, rfl⟩ : a0 = A0 ∧ len0 = y0.length ∧ cap0 = c0 := by simpa [Value.cells] using e0
  have k1 := h1
  have lt1 : ∀ x ∈ p1, x.block < W.heap.size := by obtain ⟨m, hm⟩ := k1; exact DataW.trod_lt m _ _ _ hm
  obtain ⟨fuel1, hf1⟩ := h1
  obtain ⟨y1, hK1, hw1⟩ := opens1.out enc W 0 _ _ fuel1 _ _ hf1
  obtain ⟨z1, rfl⟩ := okWide_int Try.underlying3 (hval 1 3 v1 rfl rfl)
  obtain rfl : z1 = y1 := by have h_ : (.int .i64 z1 : Value).cells.toList = [.int .i64 y1] := hK1; simpa [Value.cells] using h_
  clear hA0 hval0 hsz0
  refine (PFnExactKeysOf.laws_FnExactKeysOf.walk Pure.FnExactKeysOf a0 cap0 y0 z1 W hC0 hl0 (⟨hw0.1, fun x_ hx_ => ⟨⟨(hw0.2 x_ hx_).1.1, fun x__ hx__ => ((hw0.2 x_ hx_).1.2 x__ hx__)⟩, ⟨(hw0.2 x_ hx_).2.1, fun x__ hx__ => ((hw0.2 x_ hx_).2.2 x__ hx__)⟩⟩⟩) (hw1)).mono fun e W' ⟨he, bel⟩ => ?_
  subst he
  exact ⟨_, rfl, _, _, _, [], _, [], hW', trodAll_mk1 (shut_bool Try.underlying4 _), (trodAll_cons_mk (Below.trod laidOut (by kernel_rfl) (of_decide_eq_true (by kernel_rfl)) k0 bel lt0) (trodAll_cons_mk (Below.trod laidOut (by kernel_rfl) (of_decide_eq_true (by kernel_rfl)) k1 bel lt1) trodAll_mk0)), rfl, bel.frame _, fun h => by cases h⟩
theorem over : Rows.fnExactKeysOfRow.holds Try.pinned (OpenSpec.ofChange Rows.fnExactKeysOfSpec) :=
  OpenClaim.holds_of_wide 4 Try.f4 rfl rfl rfl rfl rfl rfl rfl ⟨rfl, rfl, rfl, rfl, rfl⟩ rfl rfl rfl rfl rfl (by kernel_rfl) Try.func4 (by kernel_rfl)
    (of_decide_eq_true (by kernel_rfl)) (by unfold Func.isWrapper; first | (rw [if_pos (by decide +kernel)]; kernel_rfl) | (rw [if_neg (by decide +kernel)]; exact ⟨rfl, rfl⟩))
    (fun os started H enc _ => lifted os started H enc)
theorem proved : Rows.FnExactKeysOfSaid := over
#print axioms proved
end Go.Proofs.Ytchbcdafomhlaaa.fnExactKeysOf
namespace Go.Proofs.Ytchbcdafomhlaaa
/-- The row, under a short name, for the claim. -/
theorem fnExactKeysOf_holds : Rows.FnExactKeysOfSaid := fnExactKeysOf.proved
end Go.Proofs.Ytchbcdafomhlaaa
