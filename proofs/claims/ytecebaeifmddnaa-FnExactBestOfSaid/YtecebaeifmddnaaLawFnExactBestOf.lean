/-
  A text of this claim's own, printed by a program of the session (wip/tools/xprint.py): functions of the program as Lean functions, each with what its call comes to.
-/
import Derived.Test.YtecebaeifmddnaaRows
import Derived.Test.YtecebaeifmddnaaPFnExactBestOfx6
import Derived.Test.YtecebaeifmddnaaPureFnExactBestOf
import Derived.Test.YtecebaeifmddnaaOp
import Derived.WalkKit
import Derived.ProofKit
import Derived.OpenShut
import Derived.ShutString
import Derived.ChangeOld
import Derived.Below
import Derived.SizedLaws
namespace Go.Proofs.Ytecebaeifmddnaa.fnExactBestOf
open Go.ChangeShapes Go.WideShapes Go.ChangeAt Go.RowKit Go.Proofs.YtecebaeifmddnaaW.PrintWords Go.Proofs.YtecebaeifmddnaaW.PrintMore Go.Proofs.Ytecebaeifmddnaa.PFnExactBestOf
open Go.ChangeMaps (open_string shut_string)
set_option linter.unusedVariables false
theorem own : ownKnob Try.prog.godebug = none := by kernel_rfl
theorem laidOut : laidOutB Try.prog = true := by kernel_rfl
theorem opens0 : Opens Try.prog 25 k25 (fun y_ => (y_.f0.length ≤ maxLen ∧ ∀ x_, x_ ∈ y_.f0 → (Lit.int .i64 x_).wf = true) ∧ (y_.f1.length ≤ maxLen ∧ ∀ x_, x_ ∈ y_.f1 → x_.length ≤ maxLen ∧ ∀ x__, x__ ∈ x_ → (Lit.int .i64 x__).wf = true)) :=
  ((Opens.iso (fun x : S25 => (x.f0, x.f1)) (fun y => ⟨y.1, y.2⟩) (fun _ => rfl) (Opens.struct Try.underlying25 (by kernel_rfl) (OpensF.cons rfl (by kernel_rfl) (Opens.slice Try.underlying22 (by kernel_rfl) (Opens.int Try.underlying3)) (OpensF.one rfl (by kernel_rfl) (Opens.slice Try.underlying23 (by kernel_rfl) (Opens.slice Try.underlying22 (by kernel_rfl) (Opens.int Try.underlying3)))))))).weak (fun _ h => h)
theorem opens1 : Opens Try.prog 22 (Kd.slice 3 (Kd.int .i64)) (fun y_ => y_.length ≤ maxLen ∧ ∀ x_, x_ ∈ y_ → (Lit.int .i64 x_).wf = true) :=
  ((Opens.slice Try.underlying22 (by kernel_rfl) (Opens.int Try.underlying3))).weak (fun _ h => h)
set_option maxRecDepth 100000 in
theorem lifted (os : Os) (started : os.Started) (H : Type) (enc : TypeId × Value → H) :
    ReturnsInHanded {} Try.checked os 3 .any (Rows.fnExactBestOfSpec.pre6 enc Try.prog Try.f3 Rows.fnExactBestOfRow.domain false) (Rows.fnExactBestOfSpec.post enc Try.prog Try.f3 false true false false) := by
  refine returnsInHanded_of_change_sized (C := Try.checked) own started (by kernel_rfl) Try.func3
    (ChangeSpec.witness6 (enc := enc) (C := Try.checked) false ⟨#[], #[.agg #[.slice none 0 0, .slice none 0 0], .slice none 0 0], []⟩ 8 (by kernel_rfl) (by kernel_rfl) (by kernel_rfl) (by kernel_rfl)) ?_
  intro W base args ds gs before hval0 hW hcnd hsz0 _
  have hval : ∀ (j : Nat) t v, Try.f3.params[j]? = some t → args[j]? = some v → Value.okWide Try.prog W .any base t v := hval0
  have hW' := hW
  obtain ⟨p, q, hA0, hV, rfl, hfz, hnd⟩ := hW
  have hA : DataW.TrodAll enc Try.prog W 0 (fun _ => true) true Try.f3.params.toList args.toList ds p := hA0
  rw [Try.params3] at hA hval
  obtain ⟨v0, vs0, d0, ds0, p0, q0, hargs, rfl, rfl, h0, r0⟩ := trodAll_cons hA
  obtain ⟨v1, vs1, d1, ds1, p1, q1, rfl, rfl, rfl, h1, r1⟩ := trodAll_cons r0
  obtain ⟨rfl, rfl, rfl⟩ := trodAll_nil r1
  obtain rfl : args = #[v0, v1] := by cases args; simp_all
  obtain ⟨rfl, rfl⟩ := trodVars_none hV
  have k0 := h0
  have lt0 : ∀ x ∈ p0, x.block < W.heap.size := by obtain ⟨m, hm⟩ := k0; exact DataW.trod_lt m _ _ _ hm
  obtain ⟨fuel0, hf0⟩ := h0
  obtain ⟨y0, hK0, hw0⟩ := opens0.out enc W 0 _ _ fuel0 _ _ hf0
  obtain ⟨cs0, rfl, _⟩ := okWide_struct Try.underlying25 (hval 0 25 v0 rfl rfl)
  obtain ⟨A0_0, c0_0, A0_1, c0_1, e0, l0_0, g0_0, l0_1, g0_1⟩ := k25_open hK0
  obtain rfl : cs0 = #[.slice A0_0 y0.f0.length c0_0, .slice A0_1 y0.f1.length c0_1] := by rw [← Array.toList_inj]; exact e0
  have k1 := h1
  have lt1 : ∀ x ∈ p1, x.block < W.heap.size := by obtain ⟨m, hm⟩ := k1; exact DataW.trod_lt m _ _ _ hm
  obtain ⟨fuel1, hf1⟩ := h1
  obtain ⟨y1, hK1, hw1⟩ := opens1.out enc W 0 _ _ fuel1 _ _ hf1
  obtain ⟨a1, len1, cap1, rfl⟩ := okWide_slice Try.underlying22 (hval 1 22 v1 rfl rfl)
  obtain ⟨A1, c1, e1, hl1, hC1⟩ := hK1
  obtain ⟨rfl, rfl, rfl⟩ : a1 = A1 ∧ len1 = y1.length ∧ cap1 = c1 := by simpa [Value.cells] using e1
  clear hA0 hval0 hsz0
  refine (PFnExactBestOf.laws_FnExactBestOf.walk Pure.FnExactBestOf A0_0 c0_0 y0.f0 A0_1 c0_1 y0.f1 a1 cap1 y1 W g0_0 l0_0 g0_1 l0_1 hC1 hl1 (⟨hw0.1.1, fun x_ hx_ => (hw0.1.2 x_ hx_)⟩) (⟨hw0.2.1, fun x_ hx_ => ⟨(hw0.2.2 x_ hx_).1, fun x__ hx__ => ((hw0.2.2 x_ hx_).2 x__ hx__)⟩⟩) (⟨hw1.1, fun x_ hx_ => (hw1.2 x_ hx_)⟩)).mono fun e W' ⟨he, bel⟩ => ?_
  subst he
  exact ⟨_, rfl, _, _, _, [], _, [], hW', trodAll_mk1 (shut_bool Try.underlying4 _), (trodAll_cons_mk (Below.trod laidOut (by kernel_rfl) (of_decide_eq_true (by kernel_rfl)) k0 bel lt0) (trodAll_cons_mk (Below.trod laidOut (by kernel_rfl) (of_decide_eq_true (by kernel_rfl)) k1 bel lt1) trodAll_mk0)), rfl, bel.frame _, fun h => by cases h⟩
theorem over : Rows.fnExactBestOfRow.holds Try.pinned (OpenSpec.ofChange Rows.fnExactBestOfSpec) :=
  OpenClaim.holds_of_wide 3 Try.f3 rfl rfl rfl rfl rfl rfl rfl ⟨rfl, rfl, rfl, rfl, rfl⟩ rfl rfl rfl rfl rfl (by kernel_rfl) Try.func3 (by kernel_rfl)
    (of_decide_eq_true (by kernel_rfl)) (by unfold Func.isWrapper; first | (rw [if_pos (by decide +kernel)]; kernel_rfl) | (rw [if_neg (by decide +kernel)]; exact ⟨rfl, rfl⟩))
    (fun os started H enc _ => lifted os started H enc)
theorem proved : Rows.FnExactBestOfSaid := over
#print axioms proved
end Go.Proofs.Ytecebaeifmddnaa.fnExactBestOf
namespace Go.Proofs.Ytecebaeifmddnaa
/-- The row, under a short name, for the claim. -/
theorem fnExactBestOf_holds : Rows.FnExactBestOfSaid := fnExactBestOf.proved
end Go.Proofs.Ytecebaeifmddnaa
