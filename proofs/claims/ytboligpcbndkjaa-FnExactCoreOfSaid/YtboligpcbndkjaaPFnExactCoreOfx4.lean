/-
  A text of this claim's own, printed by a program of the session (wip/tools/xprint.py): functions of the program as Lean functions, each with what its call comes to.
-/
import Derived.Test.YtboligpcbndkjaaPFnExactCoreOfx0
import Derived.Test.YtboligpcbndkjaaPFnExactCoreOfx2
import Derived.Test.YtboligpcbndkjaaPFnExactCoreOfx3
namespace Go.Proofs.Ytboligpcbndkjaa.PFnExactCoreOf
open Go.Proofs.YtboligpcbndkjaaW.PrintWords renaming pw_below_drewN → qD, blk_cell → qC, below_drew1 → qO, below_alloc → qA, blk_frozen → qF, below_set → qS, blk_drewN → qN, blk_alloc → qL, blk_drew → qW, below_size → qZ, below_step → qT, blk_below → qB, blk_far → qR, blk_put → qP
open Go.Proofs.YtboligpcbndkjaaW.PrintWords.Aside0 renaming mk → qK
open Bool renaming true → Y, false → Z
open List renaming setIfInBounds_toArray → sIb, set_cons_zero → sZ, set_cons_succ → sS, map_toArray → mT, map_cons → mC, map_nil → mN, length_drop → lD, length_take → lT
open Go.Proofs.YtboligpcbndkjaaW.PrintWords.Kd renaming C_alloc → cL, C_drewN → cN, C_drew → cW, C_below → cB, R_alloc → rL, R_drewN → rN, R_drew → rW, R_below → rB
open Go.RowKit Go.Proofs.YtboligpcbndkjaaW.PrintWords Go.Proofs.YtboligpcbndkjaaW.PrintLast Go.Proofs.YtboligpcbndkjaaW.PrintMore
attribute [local go_sem] max2_int min2_int max_two min_two max_three min_three max_four min_four   -- for this text's walks alone
set_option linter.unusedVariables false
set_option linter.unusedSimpArgs false

/-! ### contained1: function 150 -/
def tryAll (rec : List Int → Option (Bool × List Int)) (v : Nat) : List Int → List Int → Option (Bool × List Int)
  | [], L => some (false, L.set v 0)
  | x :: xs, L => (rec (L.set v x)).bind fun r => if r.1 = true then some (true, r.2) else tryAll rec v xs r.2
theorem tryAll_mono {f g : List Int → Option (Bool × List Int)} (h : ∀ L, LeO (f L) (g L)) (v : Nat) : ∀ xs L, LeO (tryAll f v xs L) (tryAll g v xs L)
  | [], L => LeO.refl _
  | x :: xs, L => LeO.bind (h _) fun r => LeO.ite (LeO.refl _) (tryAll_mono h v xs r.2)
def contained1.f : Nat → List Int → List Int → List Int → List S97 → List Int → List S97 → List Int → Nat → Option (Bool × List Int)
  | 0, _, _, _, _, _, _, _, _ => none
  | k + 1, own, other, ph, pa, qh, qa, L, i =>
    if i = own.length then (impl_isMap.f k L ph pa qh qa).bind fun b => some (b, L)
    else if i < own.length ∧ 0 ≤ rd own i ∧ rd own i < 6 then tryAll (fun M => contained1.f k own other ph pa qh qa M (i + 1)) (rd own i).toNat other L
    else none
theorem contained1.mono : ∀ k own other ph pa qh qa L i, LeO (contained1.f k own other ph pa qh qa L i) (contained1.f (k + 1) own other ph pa qh qa L i)
  | 0, _, _, _, _, _, _, _, _ => LeO.none _
  | k + 1, own, other, ph, pa, qh, qa, L, i => LeO.ite (LeO.bind (impl_isMap.mono _ _ _ _ _ _) fun _ => LeO.refl _) (LeO.ite (tryAll_mono (fun M => contained1.mono k own other ph pa qh qa M (i + 1)) _ _ _) (LeO.refl _))
theorem run_store_func_ {P : Program} {w : World} {a : Addr} {m : Mode} (f : Fn) (c d : Array Value) : (store a (.func f c d) m).run P w = stored P w a (.func f c d) m := run_store P w a _ m rfl
attribute [local go_sem] run_store_func_
/-- What stands while the search runs: all that was there, the two variables, the row of leads. -/
structure InvC (w0 W : World) (B2 B6 g cg : Nat) (fv : Value) (L : List Int) : Prop where
  hb : Below w0.heap.size w0 W
  k2 : W.heap[B2]? = some (.cells #[.slice (some ⟨g, 0, none⟩) 6 cg] 22 (0, 0))
  k6 : W.heap[B6]? = some (.cells #[fv] 134 (0, 0))
  lr : Kd.R (Kd.int .i64) 3 W w0.heap.size (fun k => k = g) (.slice (some ⟨g, 0, none⟩) 6 cg) L
theorem InvC.step {w0 W W' : World} {B2 B6 g cg : Nat} {fv : Value} {L : List Int} (h : InvC w0 W B2 B6 g cg fv L) (hb : Below W.heap.size W W') : InvC w0 W' B2 B6 g cg fv L := ⟨below_step h.hb hb, blk_below h.k2 hb, blk_below h.k6 hb, Kd.R_below h.lr hb⟩
theorem InvC.len {w0 W : World} {B2 B6 g cg : Nat} {fv : Value} {L : List Int} (h : InvC w0 W B2 B6 g cg fv L) : L.length = 6 := (Kd.R_reads' h.lr).1.symm
theorem InvC.put {w0 W : World} {B2 B6 g cg : Nat} {fv : Value} {L : List Int} (h : InvC w0 W B2 B6 g cg fv L) (v x : Int) : InvC w0 (W.setCell ⟨g, v.toNat, none⟩ (.int .i64 x)) B2 B6 g cg fv (L.set v.toNat x) := by
  have hg : w0.heap.size ≤ g := Kd.R_base h.lr g rfl
  obtain ⟨cells, hc⟩ := Kd.R_typed h.lr g rfl
  exact ⟨below_set h.hb hg, blk_far h.k2 (blk_ne h.k2 hc (by decide)) _, blk_far h.k6 (blk_ne h.k6 hc (by decide)) _, (Kd.R_putg h.lr v x).1⟩
set_option maxHeartbeats 8000000 in
set_option maxRecDepth 100000 in
theorem contained1.calls (w0 : World) (B1 B2 B3 B4 B5 B6 g cg : Nat) (A1 : Option Addr) (c1 : Nat) (own : List Int) (A5 : Option Addr) (c5 : Nat) (other : List Int) (A3 : Option Addr) (c3 : Nat) (ph : List Int) (A3' : Option Addr) (c3' : Nat) (pa : List S97) (A4 : Option Addr) (c4 : Nat) (qh : List Int) (A4' : Option Addr) (c4' : Nat) (qa : List S97)
    (k1 : w0.heap[B1]? = some (.cells #[.slice A1 own.length c1] 22 (0, 0))) (r1 : Kd.C (Kd.int .i64) w0 A1 own.length own)
    (k5 : w0.heap[B5]? = some (.cells #[.slice A5 other.length c5] 22 (0, 0))) (r5 : Kd.C (Kd.int .i64) w0 A5 other.length other)
    (k3 : w0.heap[B3]? = some (.cells #[.slice A3 ph.length c3, .slice A3' pa.length c3'] 32 (0, 0))) (r3 : Kd.C (Kd.int .i64) w0 A3 ph.length ph) (q3 : ph.length ≤ c3) (r3' : Kd.C k97 w0 A3' pa.length pa) (q3' : pa.length ≤ c3')
    (k4 : w0.heap[B4]? = some (.cells #[.slice A4 qh.length c4, .slice A4' qa.length c4'] 32 (0, 0))) (r4 : Kd.C (Kd.int .i64) w0 A4 qh.length qh) (q4 : qh.length ≤ c4) (r4' : Kd.C k97 w0 A4' qa.length qa) (q4' : qa.length ≤ c4') :
    ∀ (k i : Nat) (b : Bool) (L L' : List Int) (W : World), InvC w0 W B2 B6 g cg (.func (.func 150) #[] #[.pointer (some ⟨B1, 0, none⟩), .pointer (some ⟨B2, 0, none⟩), .pointer (some ⟨B3, 0, none⟩), .pointer (some ⟨B4, 0, none⟩), .pointer (some ⟨B5, 0, none⟩), .pointer (some ⟨B6, 0, none⟩)]) L → contained1.f k own other ph pa qh qa L i = some (b, L') →
      Calls Try.prog 150 #[.int .i64 (i : Int), .pointer (some ⟨B1, 0, none⟩), .pointer (some ⟨B2, 0, none⟩), .pointer (some ⟨B3, 0, none⟩), .pointer (some ⟨B4, 0, none⟩), .pointer (some ⟨B5, 0, none⟩), .pointer (some ⟨B6, 0, none⟩)] W fun e w' => e = .returned (.bool b) ∧ InvC w0 w' B2 B6 g cg (.func (.func 150) #[] #[.pointer (some ⟨B1, 0, none⟩), .pointer (some ⟨B2, 0, none⟩), .pointer (some ⟨B3, 0, none⟩), .pointer (some ⟨B4, 0, none⟩), .pointer (some ⟨B5, 0, none⟩), .pointer (some ⟨B6, 0, none⟩)]) L' := by
  have hu := Try.underlying32
  have eg := enters_of Try.func150 (by kernel_rfl) rfl
  obtain ⟨fv, hfv⟩ : ∃ fv : Value, fv = (.func (.func 150) #[] #[.pointer (some ⟨B1, 0, none⟩), .pointer (some ⟨B2, 0, none⟩), .pointer (some ⟨B3, 0, none⟩), .pointer (some ⟨B4, 0, none⟩), .pointer (some ⟨B5, 0, none⟩), .pointer (some ⟨B6, 0, none⟩)]) := ⟨_, rfl⟩
  rw [← hfv]
  have HF := Aside0.mk hfv
  have K1 := Aside0.mk k1
  have K3 := Aside0.mk k3
  have K4 := Aside0.mk k4
  have K5 := Aside0.mk k5
  have R1 := Aside0.mk r1
  have R3 := Aside0.mk r3
  have R3' := Aside0.mk r3'
  have R4 := Aside0.mk r4
  have R4' := Aside0.mk r4'
  have R5 := Aside0.mk r5
  have Q3 := Aside0.mk q3
  have Q3' := Aside0.mk q3'
  have Q4 := Aside0.mk q4
  have Q4' := Aside0.mk q4'
  have hown : own.length ≤ 9223372036854775807 := r1.2.1
  have hoth : other.length ≤ 9223372036854775807 := r5.2.1
  have E := Aside0.mk eg
  clear hfv k1 k3 k4 k5 r1 r3 r3' r4 r4' r5 q3 q3' q4 q4' eg
  intro k
  induction k with
  | zero => intro i b L L' W _ h; exact absurd h (by simp [contained1.f])
  | succ k ih =>
    intro i b L L' W hI h
    have IH := Aside0.mk ih
    have HI := Aside0.mk hI
    have x1 : W.cell? ⟨B1, 0, none⟩ = some (.slice A1 own.length c1) := (blk_cell ((hI.hb.block _ (blk_lt K1.out)).trans K1.out) 0).trans rfl
    have x2 : W.cell? ⟨B2, 0, none⟩ = some (.slice (some ⟨g, 0, none⟩) 6 cg) := (blk_cell hI.k2 0).trans rfl
    have ac : W.cell? ⟨B3, 0, none⟩ = some (.slice A3 ph.length c3) := (blk_cell ((hI.hb.block _ (blk_lt K3.out)).trans K3.out) 0).trans rfl
    have ae : W.cell? ⟨B3, 1, none⟩ = some (.slice A3' pa.length c3') := (blk_cell ((hI.hb.block _ (blk_lt K3.out)).trans K3.out) 1).trans rfl
    have af : W.cell? ⟨B4, 0, none⟩ = some (.slice A4 qh.length c4) := (blk_cell ((hI.hb.block _ (blk_lt K4.out)).trans K4.out) 0).trans rfl
    have ag : W.cell? ⟨B4, 1, none⟩ = some (.slice A4' qa.length c4') := (blk_cell ((hI.hb.block _ (blk_lt K4.out)).trans K4.out) 1).trans rfl
    have x5 : W.cell? ⟨B5, 0, none⟩ = some (.slice A5 other.length c5) := (blk_cell ((hI.hb.block _ (blk_lt K5.out)).trans K5.out) 0).trans rfl
    clear hI ih
    simp only [contained1.f] at h
    by_cases h1 : i = own.length
    · rw [if_pos h1] at h
      obtain ⟨b', hm, h⟩ := Option.bind_eq_some_iff.1 h
      simp only [Option.some.injEq, Prod.mk.injEq] at h
      obtain ⟨rfl, rfl⟩ := h
      have hcall := impl_isMap.calls k (some ⟨g, 0, none⟩) cg L A3 c3 ph A3' c3' pa A4 c4 qh A4' c4' qa b' W (Kd.R_reads' HI.out.lr).2.2 (by have := (Kd.R_reads' HI.out.lr).2.1; have := HI.out.len; omega) (Kd.C_below R3.out HI.out.hb) Q3.out (Kd.C_below R3'.out HI.out.hb) Q3'.out (Kd.C_below R4.out HI.out.hb) Q4.out (Kd.C_below R4'.out HI.out.hb) Q4'.out hm
      rw [HI.out.len] at hcall
      have HC := Aside0.mk hcall
      clear hcall hm
      have ah : ((i : Int) == (own.length : Int)) = true := by simp [h1]
      clear h1
      go_enter Try.func150, Try.ntmps150
      go_wp2_with (go_at_call 151; refine HC.out.mono ?_; rintro e w' ⟨rfl, hb'⟩)
      go_ret
      exact ⟨rfl, HI.out.step hb'⟩
    · rw [if_neg h1] at h
      by_cases h2 : i < own.length ∧ 0 ≤ rd own i ∧ rd own i < 6
      case neg => rw [if_neg h2] at h; exact absurd h (by simp)
      rw [if_pos h2] at h
      obtain ⟨h3, h4, h5⟩ := h2
      have ah : ((i : Int) == (own.length : Int)) = false := by simp; omega
      clear h1
      have HT := Aside0.mk h
      clear h
      obtain ⟨ad, e1, ab⟩ := at_int R1.out (i : Int) (by omega) (by omega)
      subst e1
      have hx1' : w0.cell? (ad.add i) = some (.int .i64 (rd own i)) := by simpa using ab
      have HX := Aside0.mk hx1'
      clear ab hx1'
      obtain ⟨v, hv⟩ : ∃ v : Int, v = rd own i := ⟨_, rfl⟩
      rw [← hv] at h4 h5 HT HX
      have ak := Aside0.mk hv
      clear hv
      go_enter Try.func150, Try.ntmps150
      go_wp2
      clear x1 x2 ac ae af ag x5
      go_loopg [10, 21] other.length (fun gg _ ai wr => ∃ (kk : Nat) (M : List Int), kk ≤ other.length ∧ other.length - kk ≤ gg ∧ ai = .int .i64 kk ∧ Aside0 (InvC w0 wr B2 B6 g cg fv M) ∧ Aside0 (tryAll (fun M => contained1.f k own other ph pa qh qa M (i + 1)) v.toNat (other.drop kk) M = some (b, L')))
      case atStart => exact ⟨0, L, Nat.zero_le _, by omega, rfl, HI, HT⟩
      case round =>
        obtain ⟨kk, M, hkk, hg, rfl, BW, AA⟩ := hrel
        have x1 : wr.cell? ⟨B1, 0, none⟩ = some (.slice (some ad) own.length c1) := (blk_cell ((BW.out.hb.block _ (blk_lt K1.out)).trans K1.out) 0).trans rfl
        have x2 : wr.cell? ⟨B2, 0, none⟩ = some (.slice (some ⟨g, 0, none⟩) 6 cg) := (blk_cell BW.out.k2 0).trans rfl
        have xo : wr.cell? (ad.add i) = some (.int .i64 v) := (BW.out.hb.cell (World.block_lt_of_cell? w0 _ HX.out)).trans HX.out
        by_cases hlt : kk < other.length
        · have hltz : (kk : Int) < (other.length : Int) := by omega
          obtain ⟨aj, e5, aa⟩ := at_int R5.out (kk : Int) (by omega) (by omega)
          cases e5
          replace aa : w0.cell? (aj.add kk) = some (.int .i64 (rd other kk)) := by simpa using aa
          replace aa := (BW.out.hb.cell (World.block_lt_of_cell? w0 _ aa)).trans aa
          have hH := AA.out
          rw [List.drop_eq_getElem_cons hlt] at hH
          obtain ⟨⟨b2, M2⟩, hrec, hH⟩ := Option.bind_eq_some_iff.1 hH
          have hx : other[kk] = rd other kk := by simp [rd, hlt]
          rw [hx] at hrec
          have HR := Aside0.mk hrec
          have HH := Aside0.mk hH
          clear hrec hH hx AA
          obtain ⟨x, hxx⟩ : ∃ x : Int, x = rd other (kk : Int) := ⟨_, rfl⟩
          rw [← hxx] at HR aa
          clear hxx
          obtain ⟨xg, xf⟩ := Kd.R_celln 0 BW.out.lr v h4 (by omega)
          try go_wp2
          refine start_ (n := 8) (S := fun w' => w'.cell? ⟨B1, 0, none⟩ = some (.slice (some ad) own.length c1) ∧ w'.cell? ⟨B2, 0, none⟩ = some (.slice (some ⟨g, 0, none⟩) 6 cg) ∧ w'.cell? (ad.add i) = some (.int .i64 v)) (ds := [7]) #[false, false, false, false, false, false, false, false] (by kernel_rfl) rfl rfl ⟨x1, x2, xo⟩ (fun hHeld => ?_)
          refine pure_ (i := 2) (N := some 27) (v := ?_) (a' := ?_) #[false, false, true, false, false, false, false, false] rfl rfl (by kernel_rfl) (fun _ _ _ h => h) (Or.inl ⟨by rfl, ?_⟩) ?_ ?_
          rotate_left
          · intro w'
            go_simp
            with_reducible rfl
          rotate_left
          · simp only [Act.put, List.setIfInBounds_toArray, List.set_cons_zero, List.set_cons_succ, i64_w, i32_w]
            rfl
          refine pure_ (i := 5) (N := some 30) (v := ?_) (a' := ?_) #[false, false, true, false, false, true, false, false] rfl rfl (by kernel_rfl) (fun _ _ _ h => h) (Or.inl ⟨by rfl, ?_⟩) ?_ ?_
          rotate_left
          · intro w'
            go_simp
            with_reducible rfl
          rotate_left
          · simp only [Act.put, List.setIfInBounds_toArray, List.set_cons_zero, List.set_cons_succ, i64_w, i32_w]
            rfl
          refine take_ (i := 0) (N := some 25) (v := ?_) (a' := ?_) #[true, false, true, false, false, true, false, false] rfl rfl (by kernel_rfl) (fun _ _ _ h => h) (Or.inl ⟨by rfl, ?_⟩) hHeld ?_ ?_
          rotate_left
          · rintro w' ⟨s0, s1, s2⟩
            go_simp
            with_reducible rfl
          rotate_left
          · simp only [Act.put, List.setIfInBounds_toArray, List.set_cons_zero, List.set_cons_succ, i64_w, i32_w]
            rfl
          refine take_ (i := 1) (N := some 26) (v := ?_) (a' := ?_) #[true, true, true, false, false, true, false, false] rfl rfl (by kernel_rfl) (fun _ _ _ h => h) (Or.inl ⟨by rfl, ?_⟩) hHeld ?_ ?_
          rotate_left
          · rintro w' ⟨s0, s1, s2⟩
            go_simp
            with_reducible rfl
          rotate_left
          · simp only [Act.put, List.setIfInBounds_toArray, List.set_cons_zero, List.set_cons_succ, i64_w, i32_w]
            rfl
          refine pure_ (i := 3) (N := some 28) (v := ?_) (a' := ?_) #[true, true, true, true, false, true, false, false] rfl rfl (by kernel_rfl) (fun _ _ _ h => h) (Or.inl ⟨by rfl, ?_⟩) ?_ ?_
          rotate_left
          · intro w'
            go_simp
            with_reducible rfl
          rotate_left
          · simp only [Act.put, List.setIfInBounds_toArray, List.set_cons_zero, List.set_cons_succ, i64_w, i32_w]
            rfl
          refine take_ (i := 4) (N := some 29) (v := ?_) (a' := ?_) #[true, true, true, true, true, true, false, false] rfl rfl (by kernel_rfl) (fun _ _ _ h => h) (Or.inl ⟨by rfl, ?_⟩) hHeld ?_ ?_
          rotate_left
          · rintro w' ⟨s0, s1, s2⟩
            go_simp
            with_reducible rfl
          rotate_left
          · simp only [Act.put, List.setIfInBounds_toArray, List.set_cons_zero, List.set_cons_succ, i64_w, i32_w]
            rfl
          refine pure_ (i := 6) (N := some 31) (v := ?_) (a' := ?_) #[true, true, true, true, true, true, true, false] rfl rfl (by kernel_rfl) (fun _ _ _ h => h) (Or.inl ⟨by rfl, ?_⟩) ?_ ?_
          rotate_left
          · intro w'
            go_simp
            with_reducible rfl
          rotate_left
          · simp only [Act.put, List.setIfInBounds_toArray, List.set_cons_zero, List.set_cons_succ, i64_w, i32_w]
            rfl
          refine last_ (i := 7) (N := none) #[true, true, true, true, true, true, true, true] rfl rfl (by kernel_rfl) (by decide) (fun K hK => ?_)
          refine skip_ (w1 := ?_) (by rfl) rfl ?_ ?_
          rotate_left
          · go_simp
            rfl
          refine hK.out _ _ ?_
          clear hK K
          refine done_ (by kernel_rfl) ?_
          have HP := Aside0.mk ((BW.out.put v x).step (below_drew (Below.refl _ _)))
          clear x1 x2 xo xg xf aa
          generalize (wr.setCell ⟨g, v.toNat, none⟩ (.int .i64 x)).drew = w2 at HP ⊢
          have x6 : w2.cell? ⟨B6, 0, none⟩ = some fv := (blk_cell HP.out.k6 0).trans rfl
          have hcall := IH.out (i + 1) b2 (M.set v.toNat x) M2 w2 HP.out HR.out
          rw [show ((i + 1 : Nat) : Int) = (i : Int) + 1 by omega] at hcall
          rw [HF.out] at x6
          have HC := Aside0.mk hcall
          clear hcall
          have eg := E.out
          cases b2 with
          | true =>
            go_wp2_with (with_reducible refine HC.out.mono ?_; rintro e w3 ⟨rfl, hI⟩)
            go_ret
            obtain ⟨rfl, rfl⟩ : b = true ∧ L' = M2 := by simpa [eq_comm] using HH.out
            exact ⟨rfl, hI⟩
          | false =>
            go_wp2_with (with_reducible refine HC.out.mono ?_; rintro e w3 ⟨rfl, hI⟩)
            go_roundg (other.length - (kk + 1))
            case measure => omega
            case rel => exact ⟨kk + 1, M2, by omega, by omega, by go_num, ⟨hI⟩, ⟨HH.out⟩⟩
        · have hltz : ¬ (kk : Int) < (other.length : Int) := by omega
          have hH := AA.out
          rw [List.drop_eq_nil_of_le (by omega)] at hH
          obtain ⟨rfl, rfl⟩ : b = false ∧ L' = M.set v.toNat 0 := by simpa [tryAll, eq_comm] using hH
          clear hH AA
          obtain ⟨xg, xf⟩ := Kd.R_celln 0 BW.out.lr v h4 (by omega)
          have HP := Aside0.mk ((BW.out.put v 0).step (below_drew (Below.refl _ _)))
          try go_wp2
          refine start_ (n := 7) (S := fun w' => w'.cell? ⟨B1, 0, none⟩ = some (.slice (some ad) own.length c1) ∧ w'.cell? ⟨B2, 0, none⟩ = some (.slice (some ⟨g, 0, none⟩) 6 cg) ∧ w'.cell? (ad.add i) = some (.int .i64 v)) (ds := [6]) #[false, false, false, false, false, false, false] (by kernel_rfl) rfl rfl ⟨x1, x2, xo⟩ (fun hHeld => ?_)
          refine pure_ (i := 2) (N := some 39) (v := ?_) (a' := ?_) #[false, false, true, false, false, false, false] rfl rfl (by kernel_rfl) (fun _ _ _ h => h) (Or.inl ⟨by rfl, ?_⟩) ?_ ?_
          rotate_left
          · intro w'
            go_simp
            with_reducible rfl
          rotate_left
          · simp only [Act.put, List.setIfInBounds_toArray, List.set_cons_zero, List.set_cons_succ, i64_w, i32_w]
            rfl
          refine take_ (i := 0) (N := some 37) (v := ?_) (a' := ?_) #[true, false, true, false, false, false, false] rfl rfl (by kernel_rfl) (fun _ _ _ h => h) (Or.inl ⟨by rfl, ?_⟩) hHeld ?_ ?_
          rotate_left
          · rintro w' ⟨s0, s1, s2⟩
            go_simp
            with_reducible rfl
          rotate_left
          · simp only [Act.put, List.setIfInBounds_toArray, List.set_cons_zero, List.set_cons_succ, i64_w, i32_w]
            rfl
          refine take_ (i := 1) (N := some 38) (v := ?_) (a' := ?_) #[true, true, true, false, false, false, false] rfl rfl (by kernel_rfl) (fun _ _ _ h => h) (Or.inl ⟨by rfl, ?_⟩) hHeld ?_ ?_
          rotate_left
          · rintro w' ⟨s0, s1, s2⟩
            go_simp
            with_reducible rfl
          rotate_left
          · simp only [Act.put, List.setIfInBounds_toArray, List.set_cons_zero, List.set_cons_succ, i64_w, i32_w]
            rfl
          refine pure_ (i := 3) (N := some 40) (v := ?_) (a' := ?_) #[true, true, true, true, false, false, false] rfl rfl (by kernel_rfl) (fun _ _ _ h => h) (Or.inl ⟨by rfl, ?_⟩) ?_ ?_
          rotate_left
          · intro w'
            go_simp
            with_reducible rfl
          rotate_left
          · simp only [Act.put, List.setIfInBounds_toArray, List.set_cons_zero, List.set_cons_succ, i64_w, i32_w]
            rfl
          refine take_ (i := 4) (N := some 41) (v := ?_) (a' := ?_) #[true, true, true, true, true, false, false] rfl rfl (by kernel_rfl) (fun _ _ _ h => h) (Or.inl ⟨by rfl, ?_⟩) hHeld ?_ ?_
          rotate_left
          · rintro w' ⟨s0, s1, s2⟩
            go_simp
            with_reducible rfl
          rotate_left
          · simp only [Act.put, List.setIfInBounds_toArray, List.set_cons_zero, List.set_cons_succ, i64_w, i32_w]
            rfl
          refine pure_ (i := 5) (N := some 42) (v := ?_) (a' := ?_) #[true, true, true, true, true, true, false] rfl rfl (by kernel_rfl) (fun _ _ _ h => h) (Or.inl ⟨by rfl, ?_⟩) ?_ ?_
          rotate_left
          · intro w'
            go_simp
            with_reducible rfl
          rotate_left
          · simp only [Act.put, List.setIfInBounds_toArray, List.set_cons_zero, List.set_cons_succ, i64_w, i32_w]
            rfl
          refine last_ (i := 6) (N := none) #[true, true, true, true, true, true, true] rfl rfl (by kernel_rfl) (by decide) (fun K hK => ?_)
          refine skip_ (w1 := ?_) (by rfl) rfl ?_ ?_
          rotate_left
          · go_simp
            rfl
          refine hK.out _ _ ?_
          clear hK K
          refine done_ (by kernel_rfl) ?_
          clear x1 x2 xo xg xf
          generalize (wr.setCell ⟨g, v.toNat, none⟩ (.int .i64 0)).drew = w2 at HP ⊢
          go_wp2
          go_ret
          exact ⟨rfl, HP.out⟩

/-! ### impl_contained: function 100 -/
attribute [local go_sem] run_store_func_
def impl_contained.f (k : Nat) (l0_0 : List Int) (l0_1 : List (S97)) (l1_0 : List Int) (l1_1 : List (S97)) : Option (List Int × Bool) := (impl_vars.f k l1_1).bind fun own => (impl_vars.f k l0_1).bind fun other => (contained1.f k own other l0_0 l0_1 l1_0 l1_1 (List.replicate 6 0) 0).bind fun r => if r.1 = true then some (r.2, true) else some ([], false)
theorem impl_contained.mono : ∀ a0 a1 a2 a3 k, LeO (impl_contained.f k a0 a1 a2 a3) (impl_contained.f (k + 1) a0 a1 a2 a3) := fun _ _ _ _ _ => LeO.bind (impl_vars.mono _ _) fun _ => LeO.bind (impl_vars.mono _ _) fun _ => LeO.bind (contained1.mono _ _ _ _ _ _ _ _ _) fun _ => LeO.refl _
def impl_contained.T1 : Bool × List (List Nat × List Nat) := (true, [([], []), ([0], [0]), ([1], [1]), ([], []), ([3], [3]), ([4, 2], [4]), ([], []), ([], []), ([6, 2, 5, 0, 1, 2, 6, 7], [2, 6]), ([7, 5, 8, 0, 1, 2, 3, 4, 5, 6, 7, 8], [5, 7])])
def impl_contained.B1 : List Nat := [0, 1, 3, 0, 8, 31, 0, 0, 255, 511]
theorem impl_contained.tab1 : rtab .any (opsOf Try.f100 1) = impl_contained.T1 := by kernel_rfl
theorem impl_contained.bits1 : waitsOk impl_contained.T1.2 impl_contained.B1 = true := by kernel_rfl
set_option maxHeartbeats 8000000 in
set_option maxRecDepth 100000 in
theorem impl_contained.calls (k:Nat) (aK:Option Addr) (aM:Nat) (aE:List Int) (az:Option Addr) (aA:Nat) (ax:List (S97)) (aR:Option Addr) (aT:Nat) (aJ:List Int) (aG:Option Addr) (aH:Nat) (ay:List (S97)) (r1:List Int) (r2:Bool) (w:World) (hr0_0:Kd.C (Kd.int .i64) w aK aE.length aE) (hc0_0:aE.length≤aM) (hr0_1:Kd.C k97 w az ax.length ax) (hc0_1:ax.length≤aA) (hr1_0:Kd.C (Kd.int .i64) w aR aJ.length aJ) (hc1_0:aJ.length≤aT) (hr1_1:Kd.C k97 w aG ay.length ay) (hc1_1:ay.length≤aH) (h:impl_contained.f k aE ax aJ ay=some (r1,r2)) :
  Calls Try.prog 100 #[.agg #[.slice aK aE.length aM,.slice az ax.length aA],.agg #[.slice aR aJ.length aT,.slice aG ay.length aH]] w fun e w'=>∃ ci:Value,e=.returned (.tuple #[ci,.bool r2])∧Kd.R (Kd.int .i64) 3 w' w.heap.size (fun _=>True) ci r1∧Below w.heap.size w w':=by
 have cx:=Try.underlying32;have bI:=qK hr0_0;have bJ:=qK hc0_0;clear hr0_0 hc0_0;have bp:=qK hr0_1;have bq:=qK hc0_1;clear hr0_1 hc0_1;have bK:=qK hr1_0;have bL:=qK hc1_0;clear hr1_0 hc1_0;have br:=qK hr1_1;have bs:=qK hc1_1;clear hr1_1 hc1_1;have HB:=qK (Below.refl w.heap.size w);unfold impl_contained.f at h
 obtain ⟨bf,cj,h⟩:=Option.bind_eq_some_iff.1 h;obtain ⟨bg,ck,h⟩:=Option.bind_eq_some_iff.1 h;obtain ⟨⟨b_,L_⟩,cl,h⟩:=Option.bind_eq_some_iff.1 h;have A3:=qK cj;have A4:=qK ck;have A5:=qK cl;have A6:=qK h;clear cj ck cl h;go_enter Try.func100,Try.ntmps100
 try go_wp2_with (first|((with_reducible refine gate_dst (N:=2) rfl ?_);refine box_event ?hg (N:=2) ?hd (cs:=#[.slice aK aE.length aM,.slice az ax.length aA]) (t:=32) ?hr ?_;(case hd=>rfl);(case hg=>rfl);(case hr=>(go_simp;try rfl));intro af hg w6 hbox hb;have aY:=qK (qT HB.out hb);have aZ:=qK (hbox);have aX:=qK ((by rw [hg];exact (qZ HB.out):w.heap.size≤af));have be:=aX;clear HB;have HB:=aY;have ac:=aZ;have cm:=aX;have bt:=be;clear aY aZ aX be;clear hb hbox hg)|((with_reducible refine gate_dst (N:=3) rfl ?_);refine box_event ?hg (N:=3) ?hd (cs:=#[.slice aR aJ.length aT,.slice aG ay.length aH]) (t:=32) ?hr ?_;(case hd=>rfl);(case hg=>rfl);(case hr=>(go_simp;try rfl));intro ah hg w7 hbox hb;have aY:=qK (qB (g:=af) (o:=.cells #[.slice aK aE.length aM,.slice az ax.length aA] 32 (0,0)) ac.out hb);have aZ:=qK (qT HB.out hb);have aX:=qK (hbox);have be:=qK ((by rw [hg];exact (qZ HB.out):w.heap.size≤ah));have bh:=be;have bn:=qK ((by rw [hg];exact Nat.ne_of_lt (blk_lt (g:=af) (o:=.cells #[.slice aK aE.length aM,.slice az ax.length aA] 32 (0,0)) ac.out):af ≠ ah));have bm:=qK bn.out.symm;clear ac HB;have ac:=aY;have HB:=aZ;have ae:=aX;have cn:=be;have bu:=bh;have bF:=bn;have bG:=bm;clear aY aZ aX be bh bn bm;clear hb hbox hg))
 have aY:=qK (qW ac.out);have aZ:=qK (qW ae.out);have aX:=qK (qO HB.out);clear ac ae HB;have ac:=aY;have ae:=aZ;have HB:=aX;clear aY aZ aX;refine start_ (n:=10) (S:=fun w'=>True) (ds:=[]) #[Z,Z,Z,Z,Z,Z,Z,Z,Z,Z] (by kernel_rfl) rfl rfl trivial (fun hHeld=>?_);refine with_tabW impl_contained.tab1 impl_contained.bits1 (fun HT_ HW_=>?_);generalize w7.drew=w8 at ac ae HB hHeld ⊢
 refine pure_ (i:=0) (N:=some 10) (v:=?_) (a':=?_) #[Y,Z,Z,Z,Z,Z,Z,Z,Z,Z] rfl rfl (any_of HT_.out (by kernel_rfl)) (fun _ _ _ h=>h) (Or.inl ⟨by rfl,?_⟩) ?_ ?_;rotate_left
 ·intro w';go_simp;with_reducible rfl
 rotate_left
 ·simp only [Act.put,sIb,sZ,sS,i64_w,i32_w];rfl
 refine pure_ (i:=3) (N:=some 13) (v:=?_) (a':=?_) #[Y,Z,Z,Y,Z,Z,Z,Z,Z,Z] rfl rfl (any_of HT_.out (by kernel_rfl)) (fun _ _ _ h=>h) (Or.inl ⟨by rfl,?_⟩) ?_ ?_;rotate_left
 ·intro w';go_simp;with_reducible rfl
 rotate_left
 ·simp only [Act.put,sIb,sZ,sS,i64_w,i32_w];rfl
 refine inv_at [1,2,4,5,6,7,8,9] (fun cy b a w'=>∃ (av:Value) (aw:Value) (aa:Nat) (ab:Nat) (ba:Value) (bb:Value),a=putSel cy b [(1,11,.slice aG ay.length aH),(2,12,av),(4,14,.slice az ax.length aA),(5,15,aw),(6,6,ba),(7,7,bb)]∧(w'.heap[af]?=some (.cells #[.slice aK aE.length aM,.slice az ax.length aA] 32 (0,0)))∧(w'.heap[ah]?=some (.cells #[.slice aR aJ.length aT,.slice aG ay.length aH] 32 (0,0)))∧(Below w.heap.size w w')∧(b 6=true→b 7=true→ab ≠ aa)∧(b 6=true→b 7=true→aa ≠ ab)∧(b 2=true→Kd.R (Kd.int .i64) 3 w' w.heap.size (fun _=>True) av bf)∧(b 5=true→Kd.R (Kd.int .i64) 3 w' w.heap.size (fun _=>True) aw bg)∧(b 6=true→b 8=false→w'.heap[aa]?=some (.cells #[.slice none 0 0] 22 (0,0)))∧(b 6=true→w.heap.size≤aa)∧(b 6=true→w.heap.size≤aa)∧(b 6=true→af ≠ aa)∧(b 6=true→aa ≠ af)∧(b 6=true→ah ≠ aa)∧(b 6=true→aa ≠ ah)∧(b 7=true→b 9=false→w'.heap[ab]?=some (.cells #[.slice none 0 0] 22 (0,0)))∧(b 7=true→w.heap.size≤ab)∧(b 7=true→w.heap.size≤ab)∧(b 7=true→af ≠ ab)∧(b 7=true→ab ≠ af)∧(b 7=true→ah ≠ ab)∧(b 7=true→ab ≠ ah)∧(b 8=true→w'.heap[aa]?=some (.cells #[av] 22 (0,0)))∧(b 9=true→w'.heap[ab]?=some (.cells #[aw] 22 (0,0)))∧(b 6=true→(ba:Value)=.pointer (some ⟨aa,0,none⟩))∧(b 7=true→(bb:Value)=.pointer (some ⟨ab,0,none⟩))) HT_.out HW_.out (by kernel_rfl) (by kernel_rfl) ?_ ?_ ?_
 ·exact ⟨.bool false,.bool false,0,0,.bool false,.bool false,by simp only [putSel,Bool.false_eq_true,if_false],ac.out,ae.out,HB.out,fun h_=>absurd h_ (by decide),fun h_=>absurd h_ (by decide),fun h_=>absurd h_ (by decide),fun h_=>absurd h_ (by decide),fun h_=>absurd h_ (by decide),fun h_=>absurd h_ (by decide),fun h_=>absurd h_ (by decide),fun h_=>absurd h_ (by decide),fun h_=>absurd h_ (by decide),fun h_=>absurd h_ (by decide),fun h_=>absurd h_ (by decide),fun h_=>absurd h_ (by decide),fun h_=>absurd h_ (by decide),fun h_=>absurd h_ (by decide),fun h_=>absurd h_ (by decide),fun h_=>absurd h_ (by decide),fun h_=>absurd h_ (by decide),fun h_=>absurd h_ (by decide),fun h_=>absurd h_ (by decide),fun h_=>absurd h_ (by decide),fun h_=>absurd h_ (by decide),fun h_=>absurd h_ (by decide)⟩
 ·skip
  clear ac ae HB;refine steps_cons ?_ ?_
  ·rintro b a w' ⟨av,aw,aa,ab,ba,bb,ha,Q_BK367,Q_BK368,Q_HB,Q_NB376_375,Q_NB375_376,Q_HO371,Q_HO374,Q_BK375,Q_GW375,Q_GE375,Q_NB367_375,Q_NB375_367,Q_NB368_375,Q_NB375_368,Q_BK376,Q_GW376,Q_GE376,Q_NB367_376,Q_NB376_367,Q_NB368_376,Q_NB376_368,Q_BK375_e8,Q_BK376_e9,Q_X6_,Q_X7_⟩ hb_ hon hoff;refine ⟨_,rfl,fun K hK=>?_⟩;have cE:a.tmps[10]?=some (.pointer (some ⟨ah,1,none⟩)):=by rw [ha];exact (putSel_off rfl).trans rfl
   replace ha:=qK ha;have ac:=qK Q_BK367;have ae:=qK Q_BK368;have HB:=qK Q_HB;have cd:w'.cell? ⟨ah,0,none⟩=some (.slice aR aJ.length aT):=(qC ae.out 0).trans rfl;have ce:w'.cell? ⟨ah,1,none⟩=some (.slice aG ay.length aH):=(qC ae.out 1).trans rfl;refine value_ (w1:=w') (v:=.slice aG ay.length aH) (by rfl) rfl ?_ ?_
   ·go_simp;(try simp only [i64_w]);try rfl
   refine hK.out _ _ ⟨av,aw,aa,ab,ba,bb,(by rw [ha.out];exact putSel_upk 0 hb_ rfl rfl rfl),Q_BK367,Q_BK368,Q_HB,Q_NB376_375,Q_NB375_376,fun ag=>absurd ((hoff 2 (by kernel_rfl)).symm.trans ag) (by decide),fun ag=>absurd ((hoff 5 (by kernel_rfl)).symm.trans ag) (by decide),Q_BK375,Q_GW375,Q_GE375,Q_NB367_375,Q_NB375_367,Q_NB368_375,Q_NB375_368,Q_BK376,Q_GW376,Q_GE376,Q_NB367_376,Q_NB376_367,Q_NB368_376,Q_NB376_368,fun ag=>absurd ((hoff 8 (by kernel_rfl)).symm.trans ag) (by decide),fun ag=>absurd ((hoff 9 (by kernel_rfl)).symm.trans ag) (by decide),Q_X6_,Q_X7_⟩
  refine steps_cons ?_ ?_
  ·rintro b a w' ⟨av,aw,aa,ab,ba,bb,ha,Q_BK367,Q_BK368,Q_HB,Q_NB376_375,Q_NB375_376,Q_HO371,Q_HO374,Q_BK375,Q_GW375,Q_GE375,Q_NB367_375,Q_NB375_367,Q_NB368_375,Q_NB375_368,Q_BK376,Q_GW376,Q_GE376,Q_NB367_376,Q_NB376_367,Q_NB368_376,Q_NB376_368,Q_BK375_e8,Q_BK376_e9,Q_X6_,Q_X7_⟩ hb_ hon hoff;refine ⟨_,rfl,fun K hK=>?_⟩;have co:a.tmps[11]?=some (.slice aG ay.length aH):=by rw [ha];exact putSel_on (e:=(1,11,.slice aG ay.length aH)) 0 rfl rfl (hon 1 (by kernel_rfl)) rfl
   replace ha:=qK ha;have ac:=qK Q_BK367;have ae:=qK Q_BK368;have HB:=qK Q_HB;refine goes_ Try.func123 (by kernel_rfl) rfl #[.slice aG ay.length aH] (by rfl) rfl rfl (by first|(simp only [mT,mC,mN,Act.eval,Array.getD_eq_getD_getElem?,Option.getD_some,co];done)|(simp only [mT,mC,mN,Act.eval,Array.getD_eq_getD_getElem?,Option.getD_some,co];rfl)) ?_;with_reducible refine (impl_vars.calls k _ _ ay bf _ ?side1 ?side2 A3.out).mono ?_
   (case side1=>exact (cB br.out HB.out));(case side2=>exact bs.out);rintro e w9 ⟨av,rfl,ho0,hb⟩;refine ⟨_,rfl,?_⟩;have aY:=qK (Kd.R_lower ho0 (qZ HB.out));have aZ:=qK (qB (g:=af) (o:=.cells #[.slice aK aE.length aM,.slice az ax.length aA] 32 (0,0)) ac.out hb);have aX:=qK (qB (g:=ah) (o:=.cells #[.slice aR aJ.length aT,.slice aG ay.length aH] 32 (0,0)) ae.out hb);have be:=qK (qT HB.out hb);have z_BK375:=fun (ag:b 6=true) (aU:b 8=false)=>(show w9.heap[aa]?=some (.cells #[.slice none 0 0] 22 (0,0)) from by first|exact (qB (g:=aa) (o:=.cells #[.slice none 0 0] 22 (0,0)) ((Q_BK375 ag aU)) hb))
   have z_BK376:=fun (ag:b 7=true) (aU:b 9=false)=>(show w9.heap[ab]?=some (.cells #[.slice none 0 0] 22 (0,0)) from by first|exact (qB (g:=ab) (o:=.cells #[.slice none 0 0] 22 (0,0)) ((Q_BK376 ag aU)) hb))
   clear ac ae HB;have au:=aY;have ac:=aZ;have ae:=aX;have HB:=be;clear aY aZ aX be;(try clear hb);(try clear ho0);refine hK.out _ _ ⟨av,aw,aa,ab,ba,bb,(by rw [ha.out];exact putSel_upk 1 hb_ rfl rfl rfl),ac.out,ae.out,HB.out,Q_NB376_375,Q_NB375_376,fun _=>au.out,fun ag=>absurd ((hoff 5 (by kernel_rfl)).symm.trans ag) (by decide),z_BK375,Q_GW375,Q_GE375,Q_NB367_375,Q_NB375_367,Q_NB368_375,Q_NB375_368,z_BK376,Q_GW376,Q_GE376,Q_NB367_376,Q_NB376_367,Q_NB368_376,Q_NB376_368,fun ag=>absurd ((hoff 8 (by kernel_rfl)).symm.trans ag) (by decide),fun ag=>absurd ((hoff 9 (by kernel_rfl)).symm.trans ag) (by decide),Q_X6_,Q_X7_⟩
  refine steps_cons ?_ ?_
  ·rintro b a w' ⟨av,aw,aa,ab,ba,bb,ha,Q_BK367,Q_BK368,Q_HB,Q_NB376_375,Q_NB375_376,Q_HO371,Q_HO374,Q_BK375,Q_GW375,Q_GE375,Q_NB367_375,Q_NB375_367,Q_NB368_375,Q_NB375_368,Q_BK376,Q_GW376,Q_GE376,Q_NB367_376,Q_NB376_367,Q_NB368_376,Q_NB376_368,Q_BK375_e8,Q_BK376_e9,Q_X6_,Q_X7_⟩ hb_ hon hoff;refine ⟨_,rfl,fun K hK=>?_⟩;have cF:a.tmps[13]?=some (.pointer (some ⟨af,1,none⟩)):=by rw [ha];exact (putSel_off rfl).trans rfl
   replace ha:=qK ha;have ac:=qK Q_BK367;have ae:=qK Q_BK368;have HB:=qK Q_HB;have cd:w'.cell? ⟨af,0,none⟩=some (.slice aK aE.length aM):=(qC ac.out 0).trans rfl;have ce:w'.cell? ⟨af,1,none⟩=some (.slice az ax.length aA):=(qC ac.out 1).trans rfl;refine value_ (w1:=w') (v:=.slice az ax.length aA) (by rfl) rfl ?_ ?_
   ·go_simp;(try simp only [i64_w]);try rfl
   refine hK.out _ _ ⟨av,aw,aa,ab,ba,bb,(by rw [ha.out];exact putSel_upk 2 hb_ rfl rfl rfl),Q_BK367,Q_BK368,Q_HB,Q_NB376_375,Q_NB375_376,Q_HO371,fun ag=>absurd ((hoff 5 (by kernel_rfl)).symm.trans ag) (by decide),Q_BK375,Q_GW375,Q_GE375,Q_NB367_375,Q_NB375_367,Q_NB368_375,Q_NB375_368,Q_BK376,Q_GW376,Q_GE376,Q_NB367_376,Q_NB376_367,Q_NB368_376,Q_NB376_368,fun ag=>absurd ((hoff 8 (by kernel_rfl)).symm.trans ag) (by decide),fun ag=>absurd ((hoff 9 (by kernel_rfl)).symm.trans ag) (by decide),Q_X6_,Q_X7_⟩
  refine steps_cons ?_ ?_
  ·rintro b a w' ⟨av,aw,aa,ab,ba,bb,ha,Q_BK367,Q_BK368,Q_HB,Q_NB376_375,Q_NB375_376,Q_HO371,Q_HO374,Q_BK375,Q_GW375,Q_GE375,Q_NB367_375,Q_NB375_367,Q_NB368_375,Q_NB375_368,Q_BK376,Q_GW376,Q_GE376,Q_NB367_376,Q_NB376_367,Q_NB368_376,Q_NB376_368,Q_BK375_e8,Q_BK376_e9,Q_X6_,Q_X7_⟩ hb_ hon hoff;refine ⟨_,rfl,fun K hK=>?_⟩;have cp:a.tmps[14]?=some (.slice az ax.length aA):=by rw [ha];exact putSel_on (e:=(4,14,.slice az ax.length aA)) 2 rfl rfl (hon 4 (by kernel_rfl)) rfl
   replace ha:=qK ha;have ac:=qK Q_BK367;have ae:=qK Q_BK368;have HB:=qK Q_HB;have au:=qK (Q_HO371 (hon 2 (by kernel_rfl)));refine goes_ Try.func123 (by kernel_rfl) rfl #[.slice az ax.length aA] (by rfl) rfl rfl (by first|(simp only [mT,mC,mN,Act.eval,Array.getD_eq_getD_getElem?,Option.getD_some,cp];done)|(simp only [mT,mC,mN,Act.eval,Array.getD_eq_getD_getElem?,Option.getD_some,cp];rfl)) ?_;with_reducible refine (impl_vars.calls k _ _ ax bg _ ?side1 ?side2 A4.out).mono ?_
   (case side1=>exact (cB bp.out HB.out));(case side2=>exact bq.out);rintro e cq ⟨aw,rfl,ho0,hb⟩;refine ⟨_,rfl,?_⟩;have aY:=qK (Kd.R_elder' au.out (Kd.R_base ho0) hb);have aZ:=qK (Kd.R_lower (Kd.R_new' ho0 (Kd.R_lt au.out)) (qZ HB.out));have aX:=qK (qB (g:=af) (o:=.cells #[.slice aK aE.length aM,.slice az ax.length aA] 32 (0,0)) ac.out hb);have be:=qK (qB (g:=ah) (o:=.cells #[.slice aR aJ.length aT,.slice aG ay.length aH] 32 (0,0)) ae.out hb);have bh:=qK (qT HB.out hb);have z_BK375:=fun (ag:b 6=true) (aU:b 8=false)=>(show cq.heap[aa]?=some (.cells #[.slice none 0 0] 22 (0,0)) from by first|exact (qB (g:=aa) (o:=.cells #[.slice none 0 0] 22 (0,0)) ((Q_BK375 ag aU)) hb))
   have z_BK376:=fun (ag:b 7=true) (aU:b 9=false)=>(show cq.heap[ab]?=some (.cells #[.slice none 0 0] 22 (0,0)) from by first|exact (qB (g:=ab) (o:=.cells #[.slice none 0 0] 22 (0,0)) ((Q_BK376 ag aU)) hb))
   clear au ac ae HB;have au:=aY;have aI:=aZ;have ac:=aX;have ae:=be;have HB:=bh;clear aY aZ aX be bh;(try clear hb);(try clear ho0);refine hK.out _ _ ⟨av,aw,aa,ab,ba,bb,(by rw [ha.out];exact putSel_upk 3 hb_ rfl rfl rfl),ac.out,ae.out,HB.out,Q_NB376_375,Q_NB375_376,fun _=>(Kd.R_mono au.out (fun _ _=>trivial)),fun _=>(Kd.R_mono aI.out (fun _ _=>trivial)),z_BK375,Q_GW375,Q_GE375,Q_NB367_375,Q_NB375_367,Q_NB368_375,Q_NB375_368,z_BK376,Q_GW376,Q_GE376,Q_NB367_376,Q_NB376_367,Q_NB368_376,Q_NB376_368,fun ag=>absurd ((hoff 8 (by kernel_rfl)).symm.trans ag) (by decide),fun ag=>absurd ((hoff 9 (by kernel_rfl)).symm.trans ag) (by decide),Q_X6_,Q_X7_⟩
  refine steps_cons ?_ ?_
  ·rintro b a w' ⟨av,aw,aa,ab,ba,bb,ha,Q_BK367,Q_BK368,Q_HB,Q_NB376_375,Q_NB375_376,Q_HO371,Q_HO374,Q_BK375,Q_GW375,Q_GE375,Q_NB367_375,Q_NB375_367,Q_NB368_375,Q_NB375_368,Q_BK376,Q_GW376,Q_GE376,Q_NB367_376,Q_NB376_367,Q_NB368_376,Q_NB376_368,Q_BK375_e8,Q_BK376_e9,Q_X6_,Q_X7_⟩ hb_ hon hoff;refine ⟨_,rfl,fun K hK=>?_⟩;replace ha:=qK ha;have ac:=qK Q_BK367;have ae:=qK Q_BK368;have HB:=qK Q_HB;refine box_step ?hg (N:=6) ?hd (cs:=#[.slice none 0 0]) (t:=22) ?hr ?_;(case hd=>rfl);(case hg=>rfl);(case hr=>(go_simp;try rfl));intro aa hg w9 hbox hb;have aY:=qK (qB (g:=af) (o:=.cells #[.slice aK aE.length aM,.slice az ax.length aA] 32 (0,0)) ac.out hb);have aZ:=qK (qB (g:=ah) (o:=.cells #[.slice aR aJ.length aT,.slice aG ay.length aH] 32 (0,0)) ae.out hb);have aX:=qK (qT HB.out hb);have be:=qK (hbox);have bh:=qK ((by rw [hg];exact (qZ HB.out):w.heap.size≤aa));have bn:=bh;have bm:=qK ((by rw [hg];exact Nat.ne_of_lt (blk_lt (g:=af) (o:=.cells #[.slice aK aE.length aM,.slice az ax.length aA] 32 (0,0)) ac.out):af ≠ aa));have bM:=qK bm.out.symm;have bw:=qK ((by rw [hg];exact Nat.ne_of_lt (blk_lt (g:=ah) (o:=.cells #[.slice aR aJ.length aT,.slice aG ay.length aH] 32 (0,0)) ae.out):ah ≠ aa));have bN:=qK bw.out.symm;have z_NB376_375:=fun (ag:up b 6 6=true) (aU:up b 6 7=true)=>(show ab ≠ aa from ((by rw [hg];exact Nat.ne_of_lt (blk_lt (g:=ab) (o:=.cells #[.slice none 0 0] 22 (0,0)) (Q_BK376 aU (hoff 9 (by kernel_rfl)))):ab ≠ aa)))
   have z_NB375_376:=fun (ag:up b 6 6=true) (aU:up b 6 7=true)=>(show aa ≠ ab from ((by rw [hg];exact Nat.ne_of_gt (blk_lt (g:=ab) (o:=.cells #[.slice none 0 0] 22 (0,0)) (Q_BK376 aU (hoff 9 (by kernel_rfl)))):aa ≠ ab)))
   have z_HO371:=fun (ag:b 2=true)=>(show Kd.R (Kd.int .i64) 3 w9 w.heap.size (fun _=>True) av bf from by first|exact (rB ((Q_HO371 ag)) hb)|exact Kd.R_mono (rB ((Q_HO371 ag)) hb) (fun _ h_=>by first|trivial|exact h_|exact h_.1))
   have z_HO374:=fun (ag:b 5=true)=>(show Kd.R (Kd.int .i64) 3 w9 w.heap.size (fun _=>True) aw bg from by first|exact (rB ((Q_HO374 ag)) hb)|exact Kd.R_mono (rB ((Q_HO374 ag)) hb) (fun _ h_=>by first|trivial|exact h_|exact h_.1))
   have z_BK376:=fun (ag:b 7=true) (aU:b 9=false)=>(show w9.heap[ab]?=some (.cells #[.slice none 0 0] 22 (0,0)) from by first|exact (qB (g:=ab) (o:=.cells #[.slice none 0 0] 22 (0,0)) ((Q_BK376 ag aU)) hb))
   clear ac ae HB;have ac:=aY;have ae:=aZ;have HB:=aX;have aC:=be;have bc:=bh;have aN:=bn;have ai:=bm;have am:=bM;have aj:=bw;have an:=bN;clear aY aZ aX be bh bn bm bM bw bN hb hbox hg;refine hK.out _ _ ⟨av,aw,aa,ab,(.pointer (some ⟨aa,0,none⟩)),bb,(by rw [ha.out];exact putSel_upk 4 hb_ rfl rfl rfl),ac.out,ae.out,HB.out,@z_NB376_375,@z_NB375_376,z_HO371,z_HO374,fun _ _=>aC.out,fun _=>bc.out,fun _=>aN.out,fun _=>ai.out,fun _=>am.out,fun _=>aj.out,fun _=>an.out,z_BK376,Q_GW376,Q_GE376,Q_NB367_376,Q_NB376_367,Q_NB368_376,Q_NB376_368,fun ag=>absurd ((hoff 8 (by kernel_rfl)).symm.trans ag) (by decide),fun ag=>absurd ((hoff 9 (by kernel_rfl)).symm.trans ag) (by decide),fun _=>rfl,Q_X7_⟩
  refine steps_cons ?_ ?_
  ·rintro b a w' ⟨av,aw,aa,ab,ba,bb,ha,Q_BK367,Q_BK368,Q_HB,Q_NB376_375,Q_NB375_376,Q_HO371,Q_HO374,Q_BK375,Q_GW375,Q_GE375,Q_NB367_375,Q_NB375_367,Q_NB368_375,Q_NB375_368,Q_BK376,Q_GW376,Q_GE376,Q_NB367_376,Q_NB376_367,Q_NB368_376,Q_NB376_368,Q_BK375_e8,Q_BK376_e9,Q_X6_,Q_X7_⟩ hb_ hon hoff;refine ⟨_,rfl,fun K hK=>?_⟩;replace ha:=qK ha;have ac:=qK Q_BK367;have ae:=qK Q_BK368;have HB:=qK Q_HB;refine box_step ?hg (N:=7) ?hd (cs:=#[.slice none 0 0]) (t:=22) ?hr ?_;(case hd=>rfl);(case hg=>rfl);(case hr=>(go_simp;try rfl));intro ab hg w9 hbox hb;have aY:=qK (qB (g:=af) (o:=.cells #[.slice aK aE.length aM,.slice az ax.length aA] 32 (0,0)) ac.out hb);have aZ:=qK (qB (g:=ah) (o:=.cells #[.slice aR aJ.length aT,.slice aG ay.length aH] 32 (0,0)) ae.out hb);have aX:=qK (qT HB.out hb);have be:=qK (hbox);have bh:=qK ((by rw [hg];exact (qZ HB.out):w.heap.size≤ab));have bn:=bh;have bm:=qK ((by rw [hg];exact Nat.ne_of_lt (blk_lt (g:=af) (o:=.cells #[.slice aK aE.length aM,.slice az ax.length aA] 32 (0,0)) ac.out):af ≠ ab));have bM:=qK bm.out.symm;have bw:=qK ((by rw [hg];exact Nat.ne_of_lt (blk_lt (g:=ah) (o:=.cells #[.slice aR aJ.length aT,.slice aG ay.length aH] 32 (0,0)) ae.out):ah ≠ ab));have bN:=qK bw.out.symm;have z_NB376_375:=fun (ag:up b 7 6=true) (aU:up b 7 7=true)=>(show ab ≠ aa from ((by rw [hg];exact Nat.ne_of_gt (blk_lt (g:=aa) (o:=.cells #[.slice none 0 0] 22 (0,0)) (Q_BK375 ag (hoff 8 (by kernel_rfl)))):ab ≠ aa)))
   have z_NB375_376:=fun (ag:up b 7 6=true) (aU:up b 7 7=true)=>(show aa ≠ ab from ((by rw [hg];exact Nat.ne_of_lt (blk_lt (g:=aa) (o:=.cells #[.slice none 0 0] 22 (0,0)) (Q_BK375 ag (hoff 8 (by kernel_rfl)))):aa ≠ ab)))
   have z_HO371:=fun (ag:b 2=true)=>(show Kd.R (Kd.int .i64) 3 w9 w.heap.size (fun _=>True) av bf from by first|exact (rB ((Q_HO371 ag)) hb)|exact Kd.R_mono (rB ((Q_HO371 ag)) hb) (fun _ h_=>by first|trivial|exact h_|exact h_.1))
   have z_HO374:=fun (ag:b 5=true)=>(show Kd.R (Kd.int .i64) 3 w9 w.heap.size (fun _=>True) aw bg from by first|exact (rB ((Q_HO374 ag)) hb)|exact Kd.R_mono (rB ((Q_HO374 ag)) hb) (fun _ h_=>by first|trivial|exact h_|exact h_.1))
   have z_BK375:=fun (ag:b 6=true) (aU:b 8=false)=>(show w9.heap[aa]?=some (.cells #[.slice none 0 0] 22 (0,0)) from by first|exact (qB (g:=aa) (o:=.cells #[.slice none 0 0] 22 (0,0)) ((Q_BK375 ag aU)) hb))
   clear ac ae HB;have ac:=aY;have ae:=aZ;have HB:=aX;have aD:=be;have bd:=bh;have aQ:=bn;have ak:=bm;have ao:=bM;have al:=bw;have ap:=bN;clear aY aZ aX be bh bn bm bM bw bN hb hbox hg;refine hK.out _ _ ⟨av,aw,aa,ab,ba,(.pointer (some ⟨ab,0,none⟩)),(by rw [ha.out];exact putSel_upk 5 hb_ rfl rfl rfl),ac.out,ae.out,HB.out,@z_NB376_375,@z_NB375_376,z_HO371,z_HO374,z_BK375,Q_GW375,Q_GE375,Q_NB367_375,Q_NB375_367,Q_NB368_375,Q_NB375_368,fun _ _=>aD.out,fun _=>bd.out,fun _=>aQ.out,fun _=>ak.out,fun _=>ao.out,fun _=>al.out,fun _=>ap.out,fun ag=>absurd ((hoff 8 (by kernel_rfl)).symm.trans ag) (by decide),fun ag=>absurd ((hoff 9 (by kernel_rfl)).symm.trans ag) (by decide),Q_X6_,fun _=>rfl⟩
  refine steps_cons ?_ ?_
  ·rintro b a w' ⟨av,aw,aa,ab,ba,bb,ha,Q_BK367,Q_BK368,Q_HB,Q_NB376_375,Q_NB375_376,Q_HO371,Q_HO374,Q_BK375,Q_GW375,Q_GE375,Q_NB367_375,Q_NB375_367,Q_NB368_375,Q_NB375_368,Q_BK376,Q_GW376,Q_GE376,Q_NB367_376,Q_NB376_367,Q_NB368_376,Q_NB376_368,Q_BK375_e8,Q_BK376_e9,Q_X6_,Q_X7_⟩ hb_ hon hoff;refine ⟨_,rfl,fun K hK=>?_⟩;have e6:a.tmps[6]?=some (ba):=by rw [ha];exact putSel_on (e:=(6,6,ba)) 4 rfl rfl (hon 6 (by kernel_rfl)) rfl
   rw [Q_X6_ (hon 6 (by kernel_rfl))] at e6;have cG:a.tmps[12]?=some (av):=by rw [ha];exact putSel_on (e:=(2,12,av)) 1 rfl rfl (hon 2 (by kernel_rfl)) rfl
   replace ha:=qK ha;have ac:=qK Q_BK367;have ae:=qK Q_BK368;have HB:=qK Q_HB;have aq:=qK (Q_NB376_375 (hon 6 (by kernel_rfl)) (hon 7 (by kernel_rfl)));have ar:=qK (Q_NB375_376 (hon 6 (by kernel_rfl)) (hon 7 (by kernel_rfl)));have au:=qK (Q_HO371 (hon 2 (by kernel_rfl)));have aI:=qK (Q_HO374 (hon 5 (by kernel_rfl)));have aC:=qK (Q_BK375 (hon 6 (by kernel_rfl)) hb_);have bc:=qK (Q_GW375 (hon 6 (by kernel_rfl)));have aN:=qK (Q_GE375 (hon 6 (by kernel_rfl)));have ai:=qK (Q_NB367_375 (hon 6 (by kernel_rfl)));have am:=qK (Q_NB375_367 (hon 6 (by kernel_rfl)));have aj:=qK (Q_NB368_375 (hon 6 (by kernel_rfl)));have an:=qK (Q_NB375_368 (hon 6 (by kernel_rfl)));have aD:=qK (Q_BK376 (hon 7 (by kernel_rfl)) (hoff 9 (by kernel_rfl)));have bd:=qK (Q_GW376 (hon 7 (by kernel_rfl)));have aQ:=qK (Q_GE376 (hon 7 (by kernel_rfl)));have ak:=qK (Q_NB367_376 (hon 7 (by kernel_rfl)));have ao:=qK (Q_NB376_367 (hon 7 (by kernel_rfl)));have al:=qK (Q_NB368_376 (hon 7 (by kernel_rfl)));have ap:=qK (Q_NB376_368 (hon 7 (by kernel_rfl)));obtain ⟨bi,bj,bx⟩:=Kd.R_slice au.out;subst bx;have cz:w'.cell? ⟨aa,0,none⟩=some (.slice none 0 0):=(qC aC.out 0).trans rfl;have cr:=qF aC.out 0;have bQ:=ai.out;have bR:=aj.out;have bS:=aq.out;have bT:=am.out;have bU:=an.out;have bV:=ar.out;refine skip_ (w1:=?_) (by rfl) rfl ?_ ?_;rotate_left
   ·go_simp;rfl
   refine hK.out _ _ ⟨.slice bi bf.length bj,aw,aa,ab,ba,bb,(by rw [ha.out];exact putSel_none (v:=undef) rfl),(by (with_reducible repeat (first|refine qN ?_ _|refine qW ?_|refine qL ?_ _));refine qR ?_ ai.out _;(with_reducible repeat (first|refine qN ?_ _|refine qW ?_|refine qL ?_ _));exact ac.out),(by (with_reducible repeat (first|refine qN ?_ _|refine qW ?_|refine qL ?_ _));refine qR ?_ aj.out _;(with_reducible repeat (first|refine qN ?_ _|refine qW ?_|refine qL ?_ _));exact ae.out),(by repeat (with_reducible first|exact HB.out|apply qA|apply qD|apply qO|refine qS ?_ bt.out|refine qS ?_ bu.out|refine qS ?_ aN.out|refine qS ?_ aQ.out)),fun _ _=>aq.out,fun _ _=>ar.out,fun _=>(Kd.R_mono (Kd.R_far (p:=⟨aa,0,none⟩) (Kd.R_types au.out aC.out (by decide)) (fun _ hk=>hk.2) (.slice bi bf.length bj)) (fun _ hk=>hk.1)),fun _=>(Kd.R_mono (Kd.R_far (p:=⟨aa,0,none⟩) (Kd.R_types aI.out aC.out (by decide)) (fun _ hk=>hk.2) (.slice bi bf.length bj)) (fun _ hk=>hk.1)),fun _ aU=>absurd ((up_self b 8).symm.trans aU) (by decide),fun _=>bc.out,fun _=>aN.out,fun _=>ai.out,fun _=>am.out,fun _=>aj.out,fun _=>an.out,fun _ _=>(by (with_reducible repeat (first|refine qN ?_ _|refine qW ?_|refine qL ?_ _));refine qR ?_ aq.out _;(with_reducible repeat (first|refine qN ?_ _|refine qW ?_|refine qL ?_ _));exact aD.out),fun _=>bd.out,fun _=>aQ.out,fun _=>ak.out,fun _=>ao.out,fun _=>al.out,fun _=>ap.out,fun _=>(by (with_reducible repeat (first|refine qN ?_ _|refine qW ?_|refine qL ?_ _));refine qP (cs:=#[.slice none 0 0]) ?_ 0 _ rfl;(with_reducible repeat (first|refine qN ?_ _|refine qW ?_|refine qL ?_ _));exact aC.out),fun ag=>absurd ((hoff 9 (by kernel_rfl)).symm.trans ag) (by decide),Q_X6_,Q_X7_⟩
  refine steps_cons ?_ ?_
  ·rintro b a w' ⟨av,aw,aa,ab,ba,bb,ha,Q_BK367,Q_BK368,Q_HB,Q_NB376_375,Q_NB375_376,Q_HO371,Q_HO374,Q_BK375,Q_GW375,Q_GE375,Q_NB367_375,Q_NB375_367,Q_NB368_375,Q_NB375_368,Q_BK376,Q_GW376,Q_GE376,Q_NB367_376,Q_NB376_367,Q_NB368_376,Q_NB376_368,Q_BK375_e8,Q_BK376_e9,Q_X6_,Q_X7_⟩ hb_ hon hoff;refine ⟨_,rfl,fun K hK=>?_⟩;have e7:a.tmps[7]?=some (bb):=by rw [ha];exact putSel_on (e:=(7,7,bb)) 5 rfl rfl (hon 7 (by kernel_rfl)) rfl
   rw [Q_X7_ (hon 7 (by kernel_rfl))] at e7;have cH:a.tmps[15]?=some (aw):=by rw [ha];exact putSel_on (e:=(5,15,aw)) 3 rfl rfl (hon 5 (by kernel_rfl)) rfl
   replace ha:=qK ha;have ac:=qK Q_BK367;have ae:=qK Q_BK368;have HB:=qK Q_HB;have aq:=qK (Q_NB376_375 (hon 6 (by kernel_rfl)) (hon 7 (by kernel_rfl)));have ar:=qK (Q_NB375_376 (hon 6 (by kernel_rfl)) (hon 7 (by kernel_rfl)));have au:=qK (Q_HO371 (hon 2 (by kernel_rfl)));have aI:=qK (Q_HO374 (hon 5 (by kernel_rfl)));have bc:=qK (Q_GW375 (hon 6 (by kernel_rfl)));have aN:=qK (Q_GE375 (hon 6 (by kernel_rfl)));have ai:=qK (Q_NB367_375 (hon 6 (by kernel_rfl)));have am:=qK (Q_NB375_367 (hon 6 (by kernel_rfl)));have aj:=qK (Q_NB368_375 (hon 6 (by kernel_rfl)));have an:=qK (Q_NB375_368 (hon 6 (by kernel_rfl)));have aD:=qK (Q_BK376 (hon 7 (by kernel_rfl)) hb_);have bd:=qK (Q_GW376 (hon 7 (by kernel_rfl)));have aQ:=qK (Q_GE376 (hon 7 (by kernel_rfl)));have ak:=qK (Q_NB367_376 (hon 7 (by kernel_rfl)));have ao:=qK (Q_NB376_367 (hon 7 (by kernel_rfl)));have al:=qK (Q_NB368_376 (hon 7 (by kernel_rfl)));have ap:=qK (Q_NB376_368 (hon 7 (by kernel_rfl)));have aC:=qK (Q_BK375_e8 (hon 8 (by kernel_rfl)));obtain ⟨bk,bl,bz⟩:=Kd.R_slice aI.out;subst bz;have cA:w'.cell? ⟨ab,0,none⟩=some (.slice none 0 0):=(qC aD.out 0).trans rfl;have ct:=qF aD.out 0;have bW:=ak.out;have bX:=al.out;have bY:=ar.out;have bZ:=ao.out;have ca:=ap.out;have cb:=aq.out;refine skip_ (w1:=?_) (by rfl) rfl ?_ ?_;rotate_left
   ·go_simp;rfl
   refine hK.out _ _ ⟨av,.slice bk bg.length bl,aa,ab,ba,bb,(by rw [ha.out];exact putSel_none (v:=undef) rfl),(by (with_reducible repeat (first|refine qN ?_ _|refine qW ?_|refine qL ?_ _));refine qR ?_ ak.out _;(with_reducible repeat (first|refine qN ?_ _|refine qW ?_|refine qL ?_ _));exact ac.out),(by (with_reducible repeat (first|refine qN ?_ _|refine qW ?_|refine qL ?_ _));refine qR ?_ al.out _;(with_reducible repeat (first|refine qN ?_ _|refine qW ?_|refine qL ?_ _));exact ae.out),(by repeat (with_reducible first|exact HB.out|apply qA|apply qD|apply qO|refine qS ?_ bt.out|refine qS ?_ bu.out|refine qS ?_ aN.out|refine qS ?_ aQ.out)),fun _ _=>aq.out,fun _ _=>ar.out,fun _=>(Kd.R_mono (Kd.R_far (p:=⟨ab,0,none⟩) (Kd.R_types au.out aD.out (by decide)) (fun _ hk=>hk.2) (.slice bk bg.length bl)) (fun _ hk=>hk.1)),fun _=>(Kd.R_mono (Kd.R_far (p:=⟨ab,0,none⟩) (Kd.R_types aI.out aD.out (by decide)) (fun _ hk=>hk.2) (.slice bk bg.length bl)) (fun _ hk=>hk.1)),fun _ aU=>absurd ((hon 8 (by kernel_rfl)).symm.trans aU) (by decide),fun _=>bc.out,fun _=>aN.out,fun _=>ai.out,fun _=>am.out,fun _=>aj.out,fun _=>an.out,fun _ aU=>absurd ((up_self b 9).symm.trans aU) (by decide),fun _=>bd.out,fun _=>aQ.out,fun _=>ak.out,fun _=>ao.out,fun _=>al.out,fun _=>ap.out,fun _=>(by (with_reducible repeat (first|refine qN ?_ _|refine qW ?_|refine qL ?_ _));refine qR ?_ ar.out _;(with_reducible repeat (first|refine qN ?_ _|refine qW ?_|refine qL ?_ _));exact aC.out),fun _=>(by (with_reducible repeat (first|refine qN ?_ _|refine qW ?_|refine qL ?_ _));refine qP (cs:=#[.slice none 0 0]) ?_ 0 _ rfl;(with_reducible repeat (first|refine qN ?_ _|refine qW ?_|refine qL ?_ _));exact aD.out),Q_X6_,Q_X7_⟩
  exact steps_nil
 rintro b a cC hall ⟨av,aw,aa,ab,ba,bb,ha,Q_BK367,Q_BK368,Q_HB,Q_NB376_375,Q_NB375_376,Q_HO371,Q_HO374,Q_BK375,Q_GW375,Q_GE375,Q_NB367_375,Q_NB375_367,Q_NB368_375,Q_NB375_368,Q_BK376,Q_GW376,Q_GE376,Q_NB367_376,Q_NB376_367,Q_NB368_376,Q_NB376_368,Q_BK375_e8,Q_BK376_e9,Q_X6_,Q_X7_⟩;clear ac ae HB;have bO:=hall 1 (by kernel_rfl);have bA:=hall 2 (by kernel_rfl);have bP:=hall 4 (by kernel_rfl);have bB:=hall 5 (by kernel_rfl);have aV:=hall 6 (by kernel_rfl);have aW:=hall 7 (by kernel_rfl);have bC:=hall 8 (by kernel_rfl);have bD:=hall 9 (by kernel_rfl);subst ha;obtain rfl:=Q_X6_ aV;obtain rfl:=Q_X7_ aW;simp only [putSel,bO,bA,bP,bB,aV,aW,bC,bD,if_true,Act.put,List.setIfInBounds_toArray,List.set_cons_zero,List.set_cons_succ];have ac:=qK Q_BK367;clear Q_BK367;have ae:=qK Q_BK368;clear Q_BK368;have HB:=qK Q_HB;clear Q_HB;have aq:=qK (Q_NB376_375 aV aW);clear Q_NB376_375;have ar:=qK (Q_NB375_376 aV aW);clear Q_NB375_376;have au:=qK (Q_HO371 bA);clear Q_HO371;have aI:=qK (Q_HO374 bB);clear Q_HO374 Q_BK375;have bc:=qK (Q_GW375 aV);clear Q_GW375;have aN:=qK (Q_GE375 aV);clear Q_GE375;have ai:=qK (Q_NB367_375 aV);clear Q_NB367_375;have am:=qK (Q_NB375_367 aV);clear Q_NB375_367;have aj:=qK (Q_NB368_375 aV);clear Q_NB368_375;have an:=qK (Q_NB375_368 aV);clear Q_NB375_368 Q_BK376;have bd:=qK (Q_GW376 aW);clear Q_GW376;have aQ:=qK (Q_GE376 aW);clear Q_GE376;have ak:=qK (Q_NB367_376 aW);clear Q_NB367_376;have ao:=qK (Q_NB376_367 aW);clear Q_NB376_367;have al:=qK (Q_NB368_376 aW);clear Q_NB368_376;have ap:=qK (Q_NB376_368 aW);clear Q_NB376_368;have aC:=qK (Q_BK375_e8 bC);clear Q_BK375_e8;have aD:=qK (Q_BK376_e9 bD);clear Q_BK376_e9 hall bO bA bP bB aV aW bC bD;obtain ⟨bi,bj,bx⟩:=Kd.R_slice au.out;subst bx;obtain ⟨bk,bl,bz⟩:=Kd.R_slice aI.out;subst bz;have GA:=aC;have GB:=aD;have GP:=ac;have GQ:=ae;have GR:=qK (Kd.R_reads' au.out).2.2;have GS:=qK (Kd.R_reads' aI.out).2.2;have bv:=HB;clear HB ac ae aC aD au aI;generalize cC=W0 at GA GB GP GQ GR GS bv ⊢
 go_upto_region 4 with (first|((with_reducible refine gate_dst (N:=16) rfl ?_);refine Kd.R_make (w0:=W0) (Kd.int .i64) W0.heap.size 3 rfl (N:=16) rfl 22 _ _ rfl 6 rfl rfl Try.underlying22 (.int .i64 0) 8 info3 rfl (by decide) (by omega) 0 (ok:=fun _=>True) (okp:=fun _=>True) rfl (fun _ hk=>hk) trivial (by omega) (by omega) (Below.refl _ _) (Nat.le_refl _) ?_;intro cD bH bo hb hg_ hnew_;clear hg_ hnew_;simp only [Int.reduceToNat] at bo;obtain ⟨g,cg,hv,hgb,hgl,hgt⟩:=Kd.R_form bo (by simp);subst hv;have HL:=qK bo;have cu:=qK hb;clear bo hb hgb hgl hgt)|((with_reducible refine gate_dst (N:=9) rfl ?_);refine box_event ?hg (N:=9) ?hd (cs:=#[.nilFunc]) (t:=134) ?hr ?_;(case hd=>rfl);(case hg=>rfl);(case hr=>(go_simp;try rfl));intro gF hg bE hbox hb;have BF:=qK hbox;have HBF:=qK hb;have HGF:=qK hg;clear hbox hb hg))
 have x9:bE.cell? ⟨gF,0,none⟩=some .nilFunc:=(qC BF.out 0).trans rfl;have f9:=qF BF.out 0;obtain ⟨fv,hfv⟩:∃ fv:Value,fv=(.func (.func 150) #[] #[.pointer (some ⟨aa,0,none⟩),.pointer (some ⟨bH.heap.size,0,none⟩),.pointer (some ⟨af,0,none⟩),.pointer (some ⟨ah,0,none⟩),.pointer (some ⟨ab,0,none⟩),.pointer (some ⟨gF,0,none⟩)]):=⟨_,rfl⟩;have cf:bE.heap[bH.heap.size]?=some (.cells #[.slice (some ⟨g,0,none⟩) 6 cg] 22 (0,0)):=qB (blk_new bH _) HBF.out;have ch:Kd.R (Kd.int .i64) 3 bE W0.heap.size (fun k=>k=g) (.slice (some ⟨g,0,none⟩) 6 cg) (List.replicate 6 0):=rB (rL (Kd.R_reok rfl HL.out (fun k hk=>by simpa [Value.ownBlock] using hk.symm)) _) HBF.out;obtain ⟨cg_,hcg⟩:=Kd.R_typed ch g rfl;have cc:InvC W0 (bE.setCell ⟨gF,0,none⟩ fv) bH.heap.size gF g cg fv (List.replicate 6 0) :=
  ⟨qS (qT (qT cu.out (qA (Below.refl _ _) _)) HBF.out) (by rw [HGF.out];exact qZ (qT cu.out (qA (Below.refl _ _) _))),qR cf (blk_ne cf BF.out (by decide)) _,qP BF.out 0 _ rfl,Kd.R_far (p:=⟨gF,0,none⟩) ch (fun k hk=>by rw [hk];exact blk_ne hcg BF.out (by decide)) _⟩
 have hcall:=contained1.calls W0 aa bH.heap.size af ah ab gF g cg bi bj bf bk bl bg aK aM aE az aA ax aR aT aJ aG aH ay GA.out GR.out GB.out GS.out GP.out (cB bI.out bv.out) bJ.out (cB bp.out bv.out) bq.out GQ.out (cB bK.out bv.out) bL.out (cB br.out bv.out) bs.out k 0 b_ (List.replicate 6 0) L_ (bE.setCell ⟨gF,0,none⟩ fv) (by rw [hfv] at cc ⊢;exact cc) A5.out;rw [← hfv] at hcall;rw [show ((0:Nat):Int)=0 from rfl] at hcall;have cv:(bE.setCell ⟨gF,0,none⟩ fv).cell? ⟨gF,0,none⟩=some fv:=(qC cc.k6 0).trans rfl;have HC:=qK hcall;have HFV:=qK hfv;clear cf ch hcg cc hcall hfv;go_upto_region 5 with fail
 rw [← HFV.out];generalize bE.setCell ⟨gF,0,none⟩ fv=w21 at HC cv ⊢
 rw [HFV.out] at cv;clear x9 f9;have eg:=enters_of Try.func150 (by kernel_rfl) rfl;cases b_ with
 | true =>
  go_wp2_with (with_reducible refine HC.out.mono ?_;rintro e cw ⟨rfl,hI⟩;have x8:cw.cell? ⟨bH.heap.size,0,none⟩=some (.slice (some ⟨g,0,none⟩) 6 cg):=(qC hI.k2 0).trans rfl;have HI:=qK hI;clear hI)
  obtain ⟨rfl,rfl⟩:r1=L_∧r2=true:=by simpa [eq_comm] using A6.out
  go_ret2
  exact ⟨_,rfl,Kd.R_mono (Kd.R_lower HI.out.lr (qZ bv.out)) (fun _ _=>trivial),qT bv.out HI.out.hb⟩
 | false =>
  go_wp2_with (with_reducible refine HC.out.mono ?_;rintro e cw ⟨rfl,hI⟩;have HI:=qK hI;clear hI)
  obtain ⟨rfl,rfl⟩:r1=[]∧r2=false:=by simpa [eq_comm] using A6.out
  go_ret2
  exact ⟨_,rfl,Kd.R_nil _ _ _ _ _,qT bv.out HI.out.hb⟩

/-! ### impl_isSame: function 97 -/
def impl_isSame.f (k:Nat) (l0_0:List Int) (l0_1:List (S97)) (l1_0:List Int) (l1_1:List (S97)):Option (Bool):=(impl_contained.f k l0_0 l0_1 l1_0 l1_1).bind fun bt214=>((impl_contained.f k l1_0 l1_1 l0_0 l0_1).bind fun bt218=>(if bt214.2=true then (some bt218.2) else (some false)))
theorem impl_isSame.mono : ∀ a0 a1 a2 a3 k,LeO (impl_isSame.f k a0 a1 a2 a3) (impl_isSame.f (k + 1) a0 a1 a2 a3):=by
 intro a0 a1 a2 a3 k;unfold impl_isSame.f
 repeat' first
   | (with_reducible exact impl_contained.mono _ _ _ _ _)
   | (with_reducible exact LeO.refl _)
   | (with_reducible exact LeO.none _)
   | (with_reducible refine LeO.ite ?_ ?_)
   | (with_reducible refine LeO.bind ?_ (fun _=>?_))
   | exact impl_contained.mono _ _ _ _ _
   | exact LeO.none _
   | refine LeO.ite ?_ ?_
   | refine LeO.bind ?_ (fun _=>?_)
set_option maxHeartbeats 8000000 in
set_option maxRecDepth 100000 in
theorem impl_isSame.calls (k:Nat) (am:Option Addr) (an:Nat) (af:List Int) (ao:Option Addr) (ap:Nat) (ag:List (S97)) (aq:Option Addr) (ar:Nat) (ah:List Int) (au:Option Addr) (av:Nat) (ai:List (S97)) (r:Bool) (w:World) (hr0_0:Kd.C (Kd.int .i64) w am af.length af) (hc0_0:af.length≤an) (hr0_1:Kd.C k97 w ao ag.length ag) (hc0_1:ag.length≤ap) (hr1_0:Kd.C (Kd.int .i64) w aq ah.length ah) (hc1_0:ah.length≤ar) (hr1_1:Kd.C k97 w au ai.length ai) (hc1_1:ai.length≤av) (h:impl_isSame.f k af ag ah ai=some r) :
  Calls Try.prog 97 #[.agg #[.slice am af.length an,.slice ao ag.length ap],.agg #[.slice aq ah.length ar,.slice au ai.length av]] w fun e w'=>e=.returned (.bool r)∧Below w.heap.size w w':=by
 have bS:=Try.underlying32;have aA:=qK hr0_0;have aC:=qK hc0_0;clear hr0_0 hc0_0;have aD:=qK hr0_1;have aE:=qK hc0_1;clear hr0_1 hc0_1;have aG:=qK hr1_0;have aH:=qK hc1_0;clear hr1_0 hc1_0;have aI:=qK hr1_1;have aJ:=qK hc1_1;clear hr1_1 hc1_1;have HB:=qK (Below.refl w.heap.size w);have H:((impl_contained.f k af ag ah ai).bind fun aT=>((impl_contained.f k ah ai af ag).bind fun aK=>(if aT.2=true then (some aK.2) else (some false))))=some r:=h;clear h;replace H:=Option.bind_eq_some_iff.mp H;obtain ⟨⟨aU,aQ⟩,bO,H⟩:=H;replace H:((impl_contained.f k ah ai af ag).bind fun aK=>(if aQ=true then (some aK.2) else (some false)))=some r:=H;have A3:=qK bO;clear bO;replace H:=Option.bind_eq_some_iff.mp H;obtain ⟨⟨aV,aN⟩,bP,H⟩:=H;replace H:(if aQ=true then (some aN) else (some false))=some r:=H;have A4:=qK bP;clear bP;by_cases c5:aQ=true
 ·subst c5;have H1:(some aN)=some r:=by rw [if_pos rfl] at H;exact H
  clear H;have H:=H1;clear H1;obtain rfl:=Option.some.inj H;go_enter Try.func97,Try.ntmps97
  go_wp2_with (first|((with_reducible refine gate_dst (N:=2) rfl ?_);refine box_event ?hg (N:=2) ?hd (cs:=#[.slice am af.length an,.slice ao ag.length ap]) (t:=32) ?hr ?_;(case hd=>rfl);(case hg=>rfl);(case hr=>(go_simp;try rfl));intro ac hg w6 hbox hb;have ay:=qK (qT HB.out hb);have az:=qK (hbox);have aw:=qK ((by rw [hg];exact (qZ HB.out):w.heap.size≤ac));have ax:=aw;clear HB;have HB:=ay;have aa:=az;have aW:=aw;have aX:=ax;clear ay az aw ax;clear hb hbox hg)|((with_reducible refine gate_dst (N:=3) rfl ?_);refine box_event ?hg (N:=3) ?hd (cs:=#[.slice aq ah.length ar,.slice au ai.length av]) (t:=32) ?hr ?_;(case hd=>rfl);(case hg=>rfl);(case hr=>(go_simp;try rfl));intro ae hg w7 hbox hb;have ay:=qK (qB (g:=ac) (o:=_) aa.out hb);have az:=qK (qT HB.out hb);have aw:=qK (hbox);have ax:=qK ((by rw [hg];exact (qZ HB.out):w.heap.size≤ae));have aM:=ax;have aR:=qK ((by rw [hg];exact Nat.ne_of_lt (blk_lt (g:=ac) (o:=_) aa.out):ac ≠ ae));have aY:=qK aR.out.symm;clear aa HB;have aa:=ay;have HB:=az;have ab:=aw;have aZ:=ax;have ba:=aM;have ak:=aR;have al:=aY;clear ay az aw ax aM aR aY hb hbox hg;have bT:=ak.out;have bU:=al.out;have bI:w7.cell? ⟨ac,0,none⟩=some (.slice am af.length an):=(qC aa.out 0).trans rfl;have bJ:w7.cell? ⟨ac,1,none⟩=some (.slice ao ag.length ap):=(qC aa.out 1).trans rfl;have bK:=qF aa.out 0;have bL:=qF aa.out 1;have bc:w7.cell? ⟨ae,0,none⟩=some (.slice aq ah.length ar):=(qC ab.out 0).trans rfl;have bd:w7.cell? ⟨ae,1,none⟩=some (.slice au ai.length av):=(qC ab.out 1).trans rfl;have be:=qF ab.out 0;have bf:=qF ab.out 1)|((with_reducible refine gate_callee (f:=100) rfl ?_);refine goesL_ (some 12) rfl rfl Try.func100 (by kernel_rfl) rfl #[.agg #[.slice am af.length an,.slice ao ag.length ap],.agg #[.slice aq ah.length ar,.slice au ai.length av]] rfl (by (try simp only [mT,mC,mN]);first|done|rfl|(simp only [lD,lT];rfl)) ?_;(with_reducible refine (impl_contained.calls k _ _ af _ _ ag _ _ ah _ _ ai aU true _ ?side1 ?side2 ?side3 ?side4 ?side5 ?side6 ?side7 ?side8 A3.out).mono ?_);(case side1=>exact (cB aA.out HB.out));(case side2=>exact aC.out);(case side3=>exact (cB aD.out HB.out));(case side4=>exact aE.out);(case side5=>exact (cB aG.out HB.out));(case side6=>exact aH.out);(case side7=>exact (cB aI.out HB.out));(case side8=>exact aJ.out);rintro e bg ⟨bM,rfl,ho0,hb⟩;refine ⟨_,rfl,?_⟩;have ay:=qK (Kd.R_lower ho0 (qZ HB.out));have az:=qK (qB (g:=ac) (o:=_) aa.out hb);have aw:=qK (qB (g:=ae) (o:=_) ab.out hb);have ax:=qK (qT HB.out hb);clear aa ab HB;have aj:=ay;have aa:=az;have ab:=aw;have HB:=ax;clear ay az aw ax;(try clear hb);(try clear ho0);have bh:bg.cell? ⟨ae,0,none⟩=some (.slice aq ah.length ar):=(qC ab.out 0).trans rfl;have bi:bg.cell? ⟨ae,1,none⟩=some (.slice au ai.length av):=(qC ab.out 1).trans rfl;have bj:=qF ab.out 0;have bk:=qF ab.out 1;have bl:bg.cell? ⟨ac,0,none⟩=some (.slice am af.length an):=(qC aa.out 0).trans rfl;have bm:bg.cell? ⟨ac,1,none⟩=some (.slice ao ag.length ap):=(qC aa.out 1).trans rfl;have bn:=qF aa.out 0;have bo:=qF aa.out 1)|((with_reducible refine gate_callee (f:=100) rfl ?_);refine goesL_ (some 18) rfl rfl Try.func100 (by kernel_rfl) rfl #[.agg #[.slice aq ah.length ar,.slice au ai.length av],.agg #[.slice am af.length an,.slice ao ag.length ap]] rfl (by (try simp only [mT,mC,mN]);first|done|rfl|(simp only [lD,lT];rfl)) ?_;(with_reducible refine (impl_contained.calls k _ _ ah _ _ ai _ _ af _ _ ag aV aN _ ?side1 ?side2 ?side3 ?side4 ?side5 ?side6 ?side7 ?side8 A4.out).mono ?_);(case side1=>exact (cB aG.out HB.out));(case side2=>exact aH.out);(case side3=>exact (cB aI.out HB.out));(case side4=>exact aJ.out);(case side5=>exact (cB aA.out HB.out));(case side6=>exact aC.out);(case side7=>exact (cB aD.out HB.out));(case side8=>exact aE.out);rintro e bV ⟨bN,rfl,ho0,hb⟩;refine ⟨_,rfl,?_⟩;have ay:=qK (Kd.R_elder' aj.out (Kd.R_base ho0) hb);have az:=qK (Kd.R_lower (Kd.R_new' ho0 (Kd.R_lt aj.out)) (qZ HB.out));have aw:=qK (qB (g:=ac) (o:=_) aa.out hb);have ax:=qK (qB (g:=ae) (o:=_) ab.out hb);have aM:=qK (qT HB.out hb);clear aj aa ab HB;have aj:=ay;have bb:=az;have aa:=aw;have ab:=ax;have HB:=aM;clear ay az aw ax aM;(try clear hb);(try clear ho0)))
  go_ret
  exact ⟨by rfl,HB.out⟩
 ·replace c5:=Bool.eq_false_iff.mpr c5;subst c5;have H1:(some false)=some r:=by rw [if_neg (show ¬ (false=true) by decide)] at H;exact H
  clear H;have H:=H1;clear H1;obtain rfl:=Option.some.inj H;go_enter Try.func97,Try.ntmps97
  go_wp2_with (first|((with_reducible refine gate_dst (N:=2) rfl ?_);refine box_event ?hg (N:=2) ?hd (cs:=#[.slice am af.length an,.slice ao ag.length ap]) (t:=32) ?hr ?_;(case hd=>rfl);(case hg=>rfl);(case hr=>(go_simp;try rfl));intro ac hg bW hbox hb;have ay:=qK (qT HB.out hb);have az:=qK (hbox);have aw:=qK ((by rw [hg];exact (qZ HB.out):w.heap.size≤ac));have ax:=aw;clear HB;have HB:=ay;have aa:=az;have aW:=aw;have aX:=ax;clear ay az aw ax;clear hb hbox hg)|((with_reducible refine gate_dst (N:=3) rfl ?_);refine box_event ?hg (N:=3) ?hd (cs:=#[.slice aq ah.length ar,.slice au ai.length av]) (t:=32) ?hr ?_;(case hd=>rfl);(case hg=>rfl);(case hr=>(go_simp;try rfl));intro ae hg bp hbox hb;have ay:=qK (qB (g:=ac) (o:=_) aa.out hb);have az:=qK (qT HB.out hb);have aw:=qK (hbox);have ax:=qK ((by rw [hg];exact (qZ HB.out):w.heap.size≤ae));have aM:=ax;have aR:=qK ((by rw [hg];exact Nat.ne_of_lt (blk_lt (g:=ac) (o:=_) aa.out):ac ≠ ae));have aY:=qK aR.out.symm;clear aa HB;have aa:=ay;have HB:=az;have ab:=aw;have aZ:=ax;have ba:=aM;have ak:=aR;have al:=aY;clear ay az aw ax aM aR aY hb hbox hg;have bQ:=ak.out;have bR:=al.out;have bq:bp.cell? ⟨ac,0,none⟩=some (.slice am af.length an):=(qC aa.out 0).trans rfl;have br:bp.cell? ⟨ac,1,none⟩=some (.slice ao ag.length ap):=(qC aa.out 1).trans rfl;have bs:=qF aa.out 0;have bt:=qF aa.out 1;have bu:bp.cell? ⟨ae,0,none⟩=some (.slice aq ah.length ar):=(qC ab.out 0).trans rfl;have bv:bp.cell? ⟨ae,1,none⟩=some (.slice au ai.length av):=(qC ab.out 1).trans rfl;have bw:=qF ab.out 0;have bx:=qF ab.out 1)|((with_reducible refine gate_callee (f:=100) rfl ?_);refine goesL_ (some 12) rfl rfl Try.func100 (by kernel_rfl) rfl #[.agg #[.slice am af.length an,.slice ao ag.length ap],.agg #[.slice aq ah.length ar,.slice au ai.length av]] rfl (by (try simp only [mT,mC,mN]);first|done|rfl|(simp only [lD,lT];rfl)) ?_;(with_reducible refine (impl_contained.calls k _ _ af _ _ ag _ _ ah _ _ ai aU false _ ?side1 ?side2 ?side3 ?side4 ?side5 ?side6 ?side7 ?side8 A3.out).mono ?_);(case side1=>exact (cB aA.out HB.out));(case side2=>exact aC.out);(case side3=>exact (cB aD.out HB.out));(case side4=>exact aE.out);(case side5=>exact (cB aG.out HB.out));(case side6=>exact aH.out);(case side7=>exact (cB aI.out HB.out));(case side8=>exact aJ.out);rintro e bz ⟨bM,rfl,ho0,hb⟩;refine ⟨_,rfl,?_⟩;have ay:=qK (Kd.R_lower ho0 (qZ HB.out));have az:=qK (qB (g:=ac) (o:=_) aa.out hb);have aw:=qK (qB (g:=ae) (o:=_) ab.out hb);have ax:=qK (qT HB.out hb);clear aa ab HB;have aj:=ay;have aa:=az;have ab:=aw;have HB:=ax;clear ay az aw ax;(try clear hb);(try clear ho0);have bA:bz.cell? ⟨ae,0,none⟩=some (.slice aq ah.length ar):=(qC ab.out 0).trans rfl;have bB:bz.cell? ⟨ae,1,none⟩=some (.slice au ai.length av):=(qC ab.out 1).trans rfl;have bC:=qF ab.out 0;have bD:=qF ab.out 1;have bE:bz.cell? ⟨ac,0,none⟩=some (.slice am af.length an):=(qC aa.out 0).trans rfl;have bF:bz.cell? ⟨ac,1,none⟩=some (.slice ao ag.length ap):=(qC aa.out 1).trans rfl;have bG:=qF aa.out 0;have bH:=qF aa.out 1)|((with_reducible refine gate_callee (f:=100) rfl ?_);refine goesL_ (some 18) rfl rfl Try.func100 (by kernel_rfl) rfl #[.agg #[.slice aq ah.length ar,.slice au ai.length av],.agg #[.slice am af.length an,.slice ao ag.length ap]] rfl (by (try simp only [mT,mC,mN]);first|done|rfl|(simp only [lD,lT];rfl)) ?_;(with_reducible refine (impl_contained.calls k _ _ ah _ _ ai _ _ af _ _ ag aV aN _ ?side1 ?side2 ?side3 ?side4 ?side5 ?side6 ?side7 ?side8 A4.out).mono ?_);(case side1=>exact (cB aG.out HB.out));(case side2=>exact aH.out);(case side3=>exact (cB aI.out HB.out));(case side4=>exact aJ.out);(case side5=>exact (cB aA.out HB.out));(case side6=>exact aC.out);(case side7=>exact (cB aD.out HB.out));(case side8=>exact aE.out);rintro e bX ⟨bN,rfl,ho0,hb⟩;refine ⟨_,rfl,?_⟩;have ay:=qK (Kd.R_elder' aj.out (Kd.R_base ho0) hb);have az:=qK (Kd.R_lower (Kd.R_new' ho0 (Kd.R_lt aj.out)) (qZ HB.out));have aw:=qK (qB (g:=ac) (o:=_) aa.out hb);have ax:=qK (qB (g:=ae) (o:=_) ab.out hb);have aM:=qK (qT HB.out hb);clear aj aa ab HB;have aj:=ay;have bb:=az;have aa:=aw;have ab:=ax;have HB:=aM;clear ay az aw ax aM;(try clear hb);(try clear ho0)))
  go_ret
  exact ⟨by rfl,HB.out⟩

/-! ### clone_Int: function 133 -/
def cloneL_ren : Go.Shelf.Ren := ⟨fun | 15 => 133 | n => n, fun | 22 => 22 | 3 => 3 | 4 => 4 | n => n, fun | n => n⟩
theorem cloneL : Go.Proofs.Lays2.n15 Try.prog cloneL_ren := {
  mixed := by kernel_rfl
  f15 := Try.func133.trans (congrArg some (by kernel_rfl))
  t3 := Try.underlying3
  a3 := Try.isAgg3
  z3 := Try.sizeOf3
  v3 := Try.zeroValue3
  t4 := Try.underlying4
  a4 := Try.isAgg4
  z4 := Try.sizeOf4
  v4 := Try.zeroValue4
  t22 := Try.underlying22
  a22 := Try.isAgg22
  z22 := Try.sizeOf22
  v22 := Try.zeroValue22
  i3 := by kernel_rfl }
def clone_Int.f (l0 : List Int) : Option (List Int) := if l0.length ≤ 17592186044416 then some l0 else none
theorem clone_Int.calls (A0 : Option Addr) (c0 : Nat) (l0 : List Int) (r : List Int) (w : World) (hr0 : Kd.C (Kd.int .i64) w A0 l0.length l0) (hc0 : l0.length ≤ c0) (h : clone_Int.f l0 = some r) :
    Calls Try.prog 133 #[.slice A0 l0.length c0] w fun e w' => ∃ aa : Value, e = .returned (aa) ∧ Kd.R (Kd.int .i64) 3 w' w.heap.size (fun _ => True) aa r ∧ Below w.heap.size w w' := by
  unfold clone_Int.f at h
  by_cases hl : l0.length ≤ 17592186044416
  · rw [if_pos hl] at h
    obtain rfl := Option.some.inj h
    exact clone_C cloneL hr0 hl
  · rw [if_neg hl] at h
    cases h

/-! ### impl_Query_own: function 114 -/
def impl_Query_own.l0 : Nat→List (S97)→Int→Int→List Int→List (S97)→Option (List Int × (List (S97)))
 | 0,_,_,_,_,_=>none
 | k + 1,x11,x12,x13,x228000,x228001=>if x13 < x12 then (if 0≤x13 then (if x13 < (x11.length:Int) then ((clone_Int.f ((rd_T97 x11 x13).f1)).bind fun t230=>(if x228001.length < 4398046511104 then (impl_Query_own.l0 k x11 x12 (wrap64 (x13 + 1)) x228000 (x228001 ++ [(⟨(rd_T97 x11 x13).f0,t230⟩:S97)])) else (none))) else (none)) else (none)) else (some (x228000,x228001))
def impl_Query_own.f (k:Nat) (l0_0:List Int) (l0_1:List (S97)):Option (List Int × (List (S97))):=(clone_Int.f l0_0).bind fun t224=>(impl_Query_own.l0 k l0_1 (l0_1.length:Int) 0 t224 ([]:List (S97)))
theorem impl_Query_own.mono_l : ∀ k,(∀ y0 y1 y2 y3 y4,LeO (impl_Query_own.l0 k y0 y1 y2 y3 y4) (impl_Query_own.l0 (k + 1) y0 y1 y2 y3 y4))
 | 0=>fun _ _ _ _ _ r h=>by simp [impl_Query_own.l0] at h
 | k + 1=>by
  have aa:=impl_Query_own.mono_l k
  ·intro y0 y1 y2 y3 y4;unfold impl_Query_own.l0
   repeat' first
   | (with_reducible exact aa _ _ _ _ _)
   | (with_reducible exact LeO.refl _)
   | (with_reducible exact LeO.none _)
   | (with_reducible refine LeO.ite ?_ ?_)
   | (with_reducible refine LeO.bind ?_ (fun _=>?_))
   | exact aa _ _ _ _ _
   | exact LeO.none _
   | refine LeO.ite ?_ ?_
   | refine LeO.bind ?_ (fun _=>?_)
theorem impl_Query_own.mono : ∀ a0 a1 k,LeO (impl_Query_own.f k a0 a1) (impl_Query_own.f (k + 1) a0 a1):=by
 intro a0 a1 k;have aa:=impl_Query_own.mono_l k;unfold impl_Query_own.f
 repeat' first
   | (with_reducible exact aa _ _ _ _ _)
   | (with_reducible exact LeO.refl _)
   | (with_reducible exact LeO.none _)
   | (with_reducible refine LeO.ite ?_ ?_)
   | (with_reducible refine LeO.bind ?_ (fun _=>?_))
   | exact aa _ _ _ _ _
   | exact LeO.none _
   | refine LeO.ite ?_ ?_
   | refine LeO.bind ?_ (fun _=>?_)
def impl_Query_own.T5 : Bool × List (List Nat × List Nat):=(true,[([],[]),([0],[0]),([],[]),([2],[2]),([],[]),([4],[4]),([5],[5]),([3,6],[3,6]),([7],[7]),([1,8,6],[1,8]),([0,1,2,3,4,5,6,7,8,9],[]),([10,9,9,0,1,2,3,4,5,6,7,8,9],[9,10])])
def impl_Query_own.B5 : List Nat:=[0,1,0,4,0,16,48,124,252,511,1023,2047]
theorem impl_Query_own.tab5 : rtab .any (opsOf Try.f114 5)=impl_Query_own.T5:=by kernel_rfl
theorem impl_Query_own.bits5 : waitsOk impl_Query_own.T5.2 impl_Query_own.B5=true:=by kernel_rfl
set_option maxHeartbeats 8000000 in
set_option maxRecDepth 100000 in
theorem impl_Query_own.calls (k:Nat) (aW:Option Addr) (aX:Nat) (az:List Int) (bi:Option Addr) (ba:Nat) (ag:List (S97)) (r1:List Int) (r2:List (S97)) (w:World) (hr0_0:Kd.C (Kd.int .i64) w aW az.length az) (hc0_0:az.length≤aX) (hr0_1:Kd.C k97 w bi ag.length ag) (hc0_1:ag.length≤ba) (h:impl_Query_own.f k az ag=some (r1,r2)) :
  Calls Try.prog 114 #[.agg #[.slice aW az.length aX,.slice bi ag.length ba]] w fun e w'=>∃ cw cD:Value,e=.returned (.agg #[cw,cD])∧Kd.R (Kd.int .i64) 3 w' w.heap.size (fun _=>True) cw r1∧Kd.S k97 97 w' w.heap.size (fun k_=>some k_ ≠ (cw:Value).ownBlock) cD r2∧Below w.heap.size w w':=by
 have dh:=Try.underlying32;have di:=Try.underlying97;have bP:=qK hr0_0;have bQ:=qK hc0_0;clear hr0_0 hc0_0;have bR:=qK hr0_1;have cE:=qK hc0_1;clear hr0_1 hc0_1;have HB:=qK (Below.refl w.heap.size w);have H:((clone_Int.f az).bind fun ap=>(impl_Query_own.l0 k ag (ag.length:Int) 0 ap ([]:List (S97))))=some (r1,r2):=h;clear h;replace H:=Option.bind_eq_some_iff.mp H;obtain ⟨ap,cF,H⟩:=H;replace H:(impl_Query_own.l0 k ag (ag.length:Int) 0 ap ([]:List (S97)))=some (r1,r2):=H;have A2:=qK cF;clear cF;have H':=qK H;clear H;go_enter Try.func114,Try.ntmps114
 go_wp2_with (first|((with_reducible refine gate_dst (N:=1) rfl ?_);refine box_event ?hg (N:=1) ?hd (cs:=#[.slice aW az.length aX,.slice bi ag.length ba]) (t:=32) ?hr ?_;(case hd=>rfl);(case hg=>rfl);(case hr=>(go_simp;try rfl));intro ao hg w3 hbox hb;have aA:=qK (qT HB.out hb);have aC:=qK (hbox);have ax:=qK ((by rw [hg];exact (qZ HB.out):w.heap.size≤ao));have ay:=ax;clear HB;have HB:=aA;have af:=aC;have cG:=ax;have bc:=ay;clear aA aC ax ay;clear hb hbox hg)|((with_reducible refine gate_dst (N:=2) rfl ?_);refine box_event ?hg (N:=2) ?hd (cs:=#[.slice none 0 0,.slice none 0 0]) (t:=32) ?hr ?_;(case hd=>rfl);(case hg=>rfl);(case hr=>(go_simp;try rfl));intro an hg w4 hbox hb;have aA:=qK (qB (g:=ao) (o:=_) af.out hb);have aC:=qK (qT HB.out hb);have ax:=qK (hbox);have ay:=qK ((by rw [hg];exact (qZ HB.out):w.heap.size≤an));have aJ:=ay;have aI:=qK ((by rw [hg];exact Nat.ne_of_lt (blk_lt (g:=ao) (o:=_) af.out):ao ≠ an));have aK:=qK aI.out.symm;clear af HB;have af:=aA;have HB:=aC;have ai:=ax;have cH:=ay;have bd:=aJ;have aM:=aI;have aN:=aK;clear aA aC ax ay aJ aI aK hb hbox hg;have dj:=aM.out;have dk:=aN.out;have bC:w4.cell? ⟨ao,0,none⟩=some (.slice aW az.length aX):=(qC af.out 0).trans rfl;have bD:w4.cell? ⟨ao,1,none⟩=some (.slice bi ag.length ba):=(qC af.out 1).trans rfl;have bE:=qF af.out 0;have bF:=qF af.out 1)|((with_reducible refine gate_callee (f:=133) rfl ?_);refine goesL_ (some 8) rfl rfl Try.func133 (by kernel_rfl) rfl #[.slice aW az.length aX] rfl (by (try simp only [mT,mC,mN]);first|done|rfl|(simp only [lD,lT];rfl)) ?_;(with_reducible refine (clone_Int.calls _ _ az ap _ ?side1 ?side2 A2.out).mono ?_);(case side1=>exact (cB bP.out HB.out));(case side2=>exact bQ.out);rintro e w7 ⟨dl,rfl,ho0,hb⟩;refine ⟨_,rfl,?_⟩;have aA:=qK (Kd.R_lower ho0 (qZ HB.out));have aC:=qK (qB (g:=ao) (o:=_) af.out hb);have ax:=qK (qB (g:=an) (o:=_) ai.out hb);have ay:=qK (qT HB.out hb);clear af ai HB;have aY:=aA;have af:=aC;have ai:=ax;have HB:=ay;clear aA aC ax ay;(try clear hb);(try clear ho0);obtain ⟨aU,aV,dm⟩:=Kd.R_slice aY.out;subst dm)|((with_reducible refine gate_dst (N:=3) rfl ?_);refine box_event ?hg (N:=3) ?hd (cs:=#[.slice none 0 0,.slice none 0 0]) (t:=32) ?hr ?_;(case hd=>rfl);(case hg=>rfl);(case hr=>(go_simp;try rfl));intro al hg w9 hbox hb;have aA:=qK (rB aY.out hb);have aC:=qK (qB (g:=ao) (o:=_) af.out hb);have ax:=qK (qB (g:=an) (o:=_) ai.out hb);have ay:=qK (qT HB.out hb);have aJ:=qK (hbox);have aI:=qK ((by rw [hg];exact (qZ HB.out):w.heap.size≤al));have aK:=aI;have bn:=qK ((by rw [hg];exact Nat.ne_of_lt (blk_lt (g:=ao) (o:=_) af.out):ao ≠ al));have bS:=qK bn.out.symm;have bG:=qK ((by rw [hg];exact Nat.ne_of_lt (blk_lt (g:=an) (o:=_) ai.out):an ≠ al));have bl:=qK bG.out.symm;clear aY af ai HB;have aY:=aA;have af:=aC;have ai:=ax;have HB:=ay;have ae:=aJ;have cI:=aI;have be:=aK;have au:=bn;have aD:=bS;have av:=bG;have aE:=bl;clear aA aC ax ay aJ aI aK bn bS bG bl hb hbox hg;have cJ:=aD.out;have cK:=au.out;have cM:=aE.out;have cO:=av.out;have bp:w9.cell? ⟨al,0,none⟩=some (.slice none 0 0):=(qC ae.out 0).trans rfl;have bq:w9.cell? ⟨al,1,none⟩=some (.slice none 0 0):=(qC ae.out 1).trans rfl;have br:=qF ae.out 0;have bs:=qF ae.out 1;have bt:w9.cell? ⟨ao,0,none⟩=some (.slice aW az.length aX):=(qC af.out 0).trans rfl;have bu:w9.cell? ⟨ao,1,none⟩=some (.slice bi ag.length ba):=(qC af.out 1).trans rfl;have bv:=qF af.out 0;have bw:=qF af.out 1))
 go_loopg [13] k (fun kq dn w'=>∃ (ab:Int) (aj:List (S97)) (am:Value),dn=.int .i64 ab∧Aside0 (impl_Query_own.l0 kq ag (ag.length:Int) ab ap aj=some (r1,r2))∧Aside0 (kq≤k)∧Aside0 (Kd.R (Kd.int .i64) 3 w' w.heap.size (fun _=>True) (.slice aU ap.length aV) ap)∧Aside0 (Kd.S k97 97 w' w.heap.size (fun k_=>some k_ ≠ ((.slice aU ap.length aV):Value).ownBlock) am aj)∧Aside0 (w'.heap[ao]?=some (.cells #[(.slice aW az.length aX),(.slice bi ag.length ba)] 32 (0,0)))∧Aside0 (w'.heap[an]?=some (.cells #[(.slice none 0 0),(.slice none 0 0)] 32 (0,0)))∧Aside0 (w'.heap[al]?=some (.cells #[(.slice aU ap.length aV),am] 32 (0,0)))∧Aside0 (Below w.heap.size w w'))
 case atStart=>exact ⟨(0),(([]:List (S97))),(.slice none 0 0),(by rfl),H',⟨Nat.le_refl _⟩,⟨Kd.R_mono (Kd.R_far (p:=⟨al,1,none⟩) (Kd.R_far (p:=⟨al,0,none⟩) (Kd.R_types aY.out ae.out (by decide)) (fun _ hk=>hk.2) (.slice aU ap.length aV)) (fun _ hk=>hk.2) (.slice none 0 0)) (fun _ hk=>trivial)⟩,⟨by first|exact Kd.S_nil _ _ _ _ _|exact Kd.N_nil _ _ _ _ _|exact Kd.V_nil _ _ _ _ _|exact Kd.Q_nil _ _ _ _ _|exact Kd.R_nil _ _ _ _ _⟩,⟨by (with_reducible repeat (first|refine qN ?_ _|refine qW ?_|refine qL ?_ _));refine qR ?_ au.out _;(with_reducible repeat (first|refine qN ?_ _|refine qW ?_|refine qL ?_ _));refine qR ?_ au.out _;(with_reducible repeat (first|refine qN ?_ _|refine qW ?_|refine qL ?_ _));exact af.out⟩,⟨by (with_reducible repeat (first|refine qN ?_ _|refine qW ?_|refine qL ?_ _));refine qR ?_ av.out _;(with_reducible repeat (first|refine qN ?_ _|refine qW ?_|refine qL ?_ _));refine qR ?_ av.out _;(with_reducible repeat (first|refine qN ?_ _|refine qW ?_|refine qL ?_ _));exact ai.out⟩,⟨by (with_reducible repeat (first|refine qN ?_ _|refine qW ?_|refine qL ?_ _));refine qP (cs:=#[.slice aU ap.length aV,.slice none 0 0]) ?_ 1 _ rfl;(with_reducible repeat (first|refine qN ?_ _|refine qW ?_|refine qL ?_ _));refine qP (cs:=#[.slice none 0 0,.slice none 0 0]) ?_ 0 _ rfl;(with_reducible repeat (first|refine qN ?_ _|refine qW ?_|refine qL ?_ _));exact ae.out⟩,⟨by repeat (first|(with_reducible first|exact HB.out|apply qA|apply qD|apply qO|refine qS ?_ bc.out|refine qS ?_ bd.out|refine qS ?_ be.out)|exact HB.out)⟩⟩
 case round =>
  clear H';try clear c1
  try clear p2
  try clear c5
  try clear c10
  try clear c11
  try clear c13
  try clear bp
  try clear bq
  try clear bt
  try clear bu
  try clear bC
  try clear bD
  try clear br
  try clear bs
  try clear bv
  try clear bw
  try clear bE
  try clear bF
  obtain ⟨ab,aj,am,rfl,HA,cP,ac,aa,af,ai,ae,HB⟩:=hrel;cases gk with
  | zero=>exact absurd HA.out (by simp [impl_Query_own.l0])
  | succ k1 =>
   have H:=HA.out;clear HA;simp only [impl_Query_own.l0] at H;by_cases c14:ab < (ag.length:Int)
   ·rw [if_pos c14] at H;have bT:decide (ab < (ag.length:Int))=true:=decide_eq_true c14;clear c14;by_cases c15:0≤ab
    ·rw [if_pos c15] at H;have cQ:decide (0≤ab)=true:=decide_eq_true c15;clear c15;by_cases c16:ab < (ag.length:Int)
     ·rw [if_pos c16] at H;have cR:decide (ab < (ag.length:Int))=true:=decide_eq_true c16;clear c16;replace H:=Option.bind_eq_some_iff.mp H;obtain ⟨bb,bU,H⟩:=H;replace H:(if aj.length < 4398046511104 then (impl_Query_own.l0 k1 ag (ag.length:Int) (wrap64 (ab + 1)) ap (aj ++ [(⟨(rd_T97 ag ab).f0,bb⟩:S97)])) else (none))=some (r1,r2):=H;have dp:=qK bU;clear bU;by_cases c18:aj.length < 4398046511104
      ·rw [if_pos c18] at H;have bV:=qK c18;clear c18;obtain ⟨bm,aZ⟩:∃ y_:List (S97),y_=(aj ++ [(⟨(rd_T97 ag ab).f0,bb⟩:S97)]):=⟨_,rfl⟩;replace H:(impl_Query_own.l0 k1 ag (ag.length:Int) (wrap64 (ab + 1)) ap bm)=some (r1,r2):=by first|(rw [aZ];with_reducible exact H)|(have cx:=(Option.bind_some _ _).symm.trans H;rw [aZ];with_reducible exact cx)|(have cx:=(Option.bind_some _ _).symm.trans H;with_reducible exact cx)|with_reducible exact H|(rw [aZ];exact H)|exact H
       have bW:=qK aZ;clear aZ;have H':=qK H;clear H;have bH:0≤(ab:Int):=of_decide_eq_true (by assumption);have bI:ab < (ag.length:Int):=of_decide_eq_true (by assumption);obtain ⟨bX,aq,ar,cy,aR,aT,bf,bg⟩:=at_T97 bR.out ab bH bI;cases cy
       replace aR:=(HB.out.cell (World.block_lt_of_cell? w _ aR)).trans aR;replace aT:=(HB.out.cell (World.block_lt_of_cell? w _ aT)).trans aT;have bx:=qK bg;have bz:=qK bf;clear bg bf;replace bH:=eq_true bH;replace bI:=eq_true bI;try go_wp2_with (first|((with_reducible refine gate_dst (N:=5) rfl ?_);refine box_event ?hg (N:=5) ?hd (cs:=#[.int .i64 0,.slice none 0 0]) (t:=97) ?hr ?_;(case hd=>rfl);(case hg=>rfl);(case hr=>(go_simp;try rfl));intro ah hg bo hbox hb;have aA:=qK (rB ac.out hb);have aC:=qK (Kd.S_below (Kd.S_elderB aa.out ah (Nat.le_of_eq hg.symm)) hb);have ax:=qK (qB (g:=ao) (o:=_) af.out hb);have ay:=qK (qB (g:=an) (o:=_) ai.out hb);have aJ:=qK (qB (g:=al) (o:=_) ae.out hb);have aI:=qK (qT HB.out hb);have aK:=qK (hbox);have bn:=qK ((by rw [hg];exact (qZ HB.out):w.heap.size≤ah));have bS:=bn;have bG:=qK ((by rw [hg];exact Nat.ne_of_lt (blk_lt (g:=ao) (o:=_) af.out):ao ≠ ah));have bl:=qK bG.out.symm;have bJ:=qK ((by rw [hg];exact Nat.ne_of_lt (blk_lt (g:=an) (o:=_) ai.out):an ≠ ah));have bY:=qK bJ.out.symm;have bK:=qK ((by rw [hg];exact Nat.ne_of_lt (blk_lt (g:=al) (o:=_) ae.out):al ≠ ah));have bZ:=qK bK.out.symm;clear ac aa af ai ae HB;have ac:=aA;have aa:=aC;have af:=ax;have ai:=ay;have ae:=aJ;have HB:=aI;have ak:=aK;have cS:=bn;have bA:=bS;have aG:=bG;have bj:=bl;have aH:=bJ;have bk:=bY;have aw:=bK;have aQ:=bZ;clear aA aC ax ay aJ aI aK bn bS bG bl bJ bY bK bZ hb hbox hg;have cT:=bj.out;have cU:=aG.out;have cV:=bk.out;have cX:=aH.out;have cY:=aQ.out;have cZ:=aw.out;have cc:bo.cell? ⟨ah,0,none⟩=some (.int .i64 0):=(qC ak.out 0).trans rfl;have cd:bo.cell? ⟨ah,1,none⟩=some (.slice none 0 0):=(qC ak.out 1).trans rfl;have ce:=qF ak.out 0;have cf:=qF ak.out 1))
       have aA:Aside0 (Kd.R (Kd.int .i64) 3 ((bo.setCell ⟨ah,0,none⟩ (.int .i64 ((rd_T97 ag ab).f0))).setCell ⟨ah,1,none⟩ (.slice aq ((rd_T97 ag ab).f1).length ar)) w.heap.size (fun _=>True) (.slice aU ap.length aV) ap):=⟨Kd.R_mono (Kd.R_far (p:=⟨ah,1,none⟩) (Kd.R_far (p:=⟨ah,0,none⟩) (Kd.R_types ac.out ak.out (by decide)) (fun _ hk=>hk.2) (.int .i64 ((rd_T97 ag ab).f0))) (fun _ hk=>hk.2) (.slice aq ((rd_T97 ag ab).f1).length ar)) (fun _ hk=>trivial)⟩;have aC:Aside0 (Kd.S k97 97 ((bo.setCell ⟨ah,0,none⟩ (.int .i64 ((rd_T97 ag ab).f0))).setCell ⟨ah,1,none⟩ (.slice aq ((rd_T97 ag ab).f1).length ar)) w.heap.size (fun k_=>some k_ ≠ (.slice aU ap.length aV:Value).ownBlock∧k_ ≠ ah) am aj):=⟨Kd.S_mono (Kd.S_far (p:=⟨ah,1,none⟩) (Kd.S_far (p:=⟨ah,0,none⟩) (Kd.S_mono aa.out (fun k_ hk=>(⟨hk,hk.2⟩:_∧k_ ≠ ah))) (fun _ hk=>hk.2) (.int .i64 ((rd_T97 ag ab).f0))) (fun _ hk=>hk.2) (.slice aq ((rd_T97 ag ab).f1).length ar)) (fun _ hk=>⟨hk.1.1,hk.1.2⟩)⟩;have ax:Aside0 (((bo.setCell ⟨ah,0,none⟩ (.int .i64 ((rd_T97 ag ab).f0))).setCell ⟨ah,1,none⟩ (.slice aq ((rd_T97 ag ab).f1).length ar)).heap[ao]?=some (.cells #[.slice aW az.length aX,.slice (some bX) ag.length ba] 32 (0,0))):=⟨by (with_reducible repeat (first|refine qN ?_ _|refine qW ?_|refine qL ?_ _));refine qR ?_ aG.out _;(with_reducible repeat (first|refine qN ?_ _|refine qW ?_|refine qL ?_ _));refine qR ?_ aG.out _;(with_reducible repeat (first|refine qN ?_ _|refine qW ?_|refine qL ?_ _));exact af.out⟩;have ay:Aside0 (((bo.setCell ⟨ah,0,none⟩ (.int .i64 ((rd_T97 ag ab).f0))).setCell ⟨ah,1,none⟩ (.slice aq ((rd_T97 ag ab).f1).length ar)).heap[an]?=some (.cells #[.slice none 0 0,.slice none 0 0] 32 (0,0))):=⟨by (with_reducible repeat (first|refine qN ?_ _|refine qW ?_|refine qL ?_ _));refine qR ?_ aH.out _;(with_reducible repeat (first|refine qN ?_ _|refine qW ?_|refine qL ?_ _));refine qR ?_ aH.out _;(with_reducible repeat (first|refine qN ?_ _|refine qW ?_|refine qL ?_ _));exact ai.out⟩;have aJ:Aside0 (((bo.setCell ⟨ah,0,none⟩ (.int .i64 ((rd_T97 ag ab).f0))).setCell ⟨ah,1,none⟩ (.slice aq ((rd_T97 ag ab).f1).length ar)).heap[al]?=some (.cells #[.slice aU ap.length aV,am] 32 (0,0))):=⟨by (with_reducible repeat (first|refine qN ?_ _|refine qW ?_|refine qL ?_ _));refine qR ?_ aw.out _;(with_reducible repeat (first|refine qN ?_ _|refine qW ?_|refine qL ?_ _));refine qR ?_ aw.out _;(with_reducible repeat (first|refine qN ?_ _|refine qW ?_|refine qL ?_ _));exact ae.out⟩;have aI:Aside0 (((bo.setCell ⟨ah,0,none⟩ (.int .i64 ((rd_T97 ag ab).f0))).setCell ⟨ah,1,none⟩ (.slice aq ((rd_T97 ag ab).f1).length ar)).heap[ah]?=some (.cells #[.int .i64 ((rd_T97 ag ab).f0),.slice aq ((rd_T97 ag ab).f1).length ar] 97 (0,0))):=⟨by (with_reducible repeat (first|refine qN ?_ _|refine qW ?_|refine qL ?_ _));refine qP (cs:=#[.int .i64 ((rd_T97 ag ab).f0),.slice none 0 0]) ?_ 1 _ rfl;(with_reducible repeat (first|refine qN ?_ _|refine qW ?_|refine qL ?_ _));refine qP (cs:=#[.int .i64 0,.slice none 0 0]) ?_ 0 _ rfl;(with_reducible repeat (first|refine qN ?_ _|refine qW ?_|refine qL ?_ _));exact ak.out⟩;have aK:Aside0 (Below w.heap.size w ((bo.setCell ⟨ah,0,none⟩ (.int .i64 ((rd_T97 ag ab).f0))).setCell ⟨ah,1,none⟩ (.slice aq ((rd_T97 ag ab).f1).length ar))):=⟨by repeat (first|(with_reducible first|exact HB.out|apply qA|apply qD|apply qO|refine qS ?_ bc.out|refine qS ?_ bd.out|refine qS ?_ be.out|refine qS ?_ bA.out)|exact HB.out)⟩;(try clear ac);(try clear aa);(try clear af);(try clear ai);(try clear ae);(try clear ak);(try clear HB);generalize ((bo.setCell ⟨ah,0,none⟩ (.int .i64 ((rd_T97 ag ab).f0))).setCell ⟨ah,1,none⟩ (.slice aq ((rd_T97 ag ab).f1).length ar))=w24 at aA aC ax ay aJ aI aK ⊢
       have ac:=aA;have aa:=aC;have af:=ax;have ai:=ay;have ae:=aJ;have ak:=aI;have HB:=aK;clear aA aC ax ay aJ aI aK;have aA:=qK (rW ac.out);have aC:=qK (Kd.S_drew aa.out);have ax:=qK (qW af.out);have ay:=qK (qW ai.out);have aJ:=qK (qW ae.out);have aI:=qK (qW ak.out);have aK:=qK (qO HB.out);clear ac aa af ai ae ak HB;have ac:=aA;have aa:=aC;have af:=ax;have ai:=ay;have ae:=aJ;have ak:=aI;have HB:=aK;clear aA aC ax ay aJ aI aK;refine start_ (n:=12) (S:=fun w'=>w'.cell? ⟨al,0,none⟩=some (.slice aU ap.length aV)∧w'.cell? ⟨al,1,none⟩=some (am)∧w'.cell? ⟨ah,0,none⟩=some (.int .i64 ((rd_T97 ag ab).f0))∧w'.cell? ⟨ah,1,none⟩=some (.slice aq ((rd_T97 ag ab).f1).length ar)) (ds:=[11]) #[Z,Z,Z,Z,Z,Z,Z,Z,Z,Z,Z,Z] (by kernel_rfl) rfl rfl ⟨(qC ae.out 0).trans rfl,(qC ae.out 1).trans rfl,(qC ak.out 0).trans rfl,(qC ak.out 1).trans rfl⟩ (fun hHeld=>?_);refine with_tabW impl_Query_own.tab5 impl_Query_own.bits5 (fun HT_ HW_=>?_);generalize w24.drew=w25 at ac aa af ai ae ak HB hHeld ⊢
       refine pure_ (i:=0) (N:=some 17) (v:=?_) (a':=?_) #[Y,Z,Z,Z,Z,Z,Z,Z,Z,Z,Z,Z] rfl rfl (any_of HT_.out (by kernel_rfl)) (fun _ _ _ h=>h) (Or.inl ⟨by rfl,?_⟩) ?_ ?_;rotate_left
       ·intro w';go_simp;with_reducible rfl
       rotate_left
       ·simp only [Act.put,sIb,sZ,sS,i64_w,i32_w];rfl
       refine pure_ (i:=2) (N:=some 19) (v:=?_) (a':=?_) #[Y,Z,Y,Z,Z,Z,Z,Z,Z,Z,Z,Z] rfl rfl (any_of HT_.out (by kernel_rfl)) (fun _ _ _ h=>h) (Or.inl ⟨by rfl,?_⟩) ?_ ?_;rotate_left
       ·intro w';go_simp;with_reducible rfl
       rotate_left
       ·simp only [Act.put,sIb,sZ,sS,i64_w,i32_w];rfl
       refine pure_ (i:=4) (N:=some 21) (v:=?_) (a':=?_) #[Y,Z,Y,Z,Y,Z,Z,Z,Z,Z,Z,Z] rfl rfl (any_of HT_.out (by kernel_rfl)) (fun _ _ _ h=>h) (Or.inl ⟨by rfl,?_⟩) ?_ ?_;rotate_left
       ·intro w';go_simp;with_reducible rfl
       rotate_left
       ·simp only [Act.put,sIb,sZ,sS,i64_w,i32_w];rfl
       refine take_ (i:=1) (N:=some 18) (v:=?_) (a':=?_) #[Y,Y,Y,Z,Y,Z,Z,Z,Z,Z,Z,Z] rfl rfl (take_ofW HT_.out HW_.out (by kernel_rfl)) (fun _ _ _ h=>h) (Or.inl ⟨by rfl,?_⟩) hHeld ?_ ?_;rotate_left
       ·rintro w' ⟨s0,s1,s2,s3⟩;go_simp;with_reducible rfl
       rotate_left
       ·simp only [Act.put,sIb,sZ,sS,i64_w,i32_w];rfl
       refine take_ (i:=3) (N:=some 20) (v:=?_) (a':=?_) #[Y,Y,Y,Y,Y,Z,Z,Z,Z,Z,Z,Z] rfl rfl (take_ofW HT_.out HW_.out (by kernel_rfl)) (fun _ _ _ h=>h) (Or.inl ⟨by rfl,?_⟩) hHeld ?_ ?_;rotate_left
       ·rintro w' ⟨s0,s1,s2,s3⟩;go_simp;with_reducible rfl
       rotate_left
       ·simp only [Act.put,sIb,sZ,sS,i64_w,i32_w];rfl
       refine take_ (i:=5) (N:=some 22) (v:=?_) (a':=?_) #[Y,Y,Y,Y,Y,Y,Z,Z,Z,Z,Z,Z] rfl rfl (take_ofW HT_.out HW_.out (by kernel_rfl)) (fun _ _ _ h=>h) (Or.inl ⟨by rfl,?_⟩) hHeld ?_ ?_;rotate_left
       ·rintro w' ⟨s0,s1,s2,s3⟩;go_simp;with_reducible rfl
       rotate_left
       ·simp only [Act.put,sIb,sZ,sS,i64_w,i32_w];rfl
       refine one_ (i:=6) (N:=some 23) #[Y,Y,Y,Y,Y,Y,Y,Z,Z,Z,Z,Z] rfl rfl (one_of HT_.out (by kernel_rfl)) (by decide) (fun K hK=>?_);refine goes_ Try.func133 (by kernel_rfl) rfl #[.slice aq ((rd_T97 ag ab).f1).length ar] (by rfl) rfl rfl (by (try simp only [mT,mC,mN]);first|done|rfl|(simp only [lD,lT];rfl)) ?_;with_reducible refine (clone_Int.calls _ _ ((rd_T97 ag ab).f1) bb _ ?side1 ?side2 dp.out).mono ?_
       (case side1=>exact (cB bx.out HB.out));(case side2=>exact bz.out);rintro e dv ⟨dq,rfl,ho0,hb⟩;refine ⟨_,rfl,?_⟩;have aA:=qK (Kd.R_elder' ac.out (Kd.R_base ho0) hb);have aC:=qK (Kd.S_elder' aa.out (Kd.R_base ho0) hb);have ax:=qK (Kd.R_lower (Kd.R_new' ho0 (Kd.R_lt ac.out)) (qZ HB.out));have ay:=qK (qB (g:=ao) (o:=_) af.out hb);have aJ:=qK (qB (g:=an) (o:=_) ai.out hb);have aI:=qK (qB (g:=al) (o:=_) ae.out hb);have aK:=qK (qB (g:=ah) (o:=_) ak.out hb);have bn:=qK (qT HB.out hb);clear ac aa af ai ae ak HB;have ac:=aA;have aa:=aC;have bh:=ax;have af:=ay;have ai:=aJ;have ae:=aI;have ak:=aK;have HB:=bn;clear aA aC ax ay aJ aI aK bn;(try clear hb);(try clear ho0);obtain ⟨ca,cb,cz⟩:=Kd.R_slice bh.out;subst cz;refine hK.out _ _ ⟨(qC ae.out 0).trans rfl,(qC ae.out 1).trans rfl,(qC ak.out 0).trans rfl,(qC ak.out 1).trans rfl⟩ (fun hHeld=>?_);clear hK K;refine norm_ (a':=?_) ?_ ?_;rotate_left
       ·show Act.put _ (some 23) _=_
        simp only [Act.put,sIb,sZ,sS,i64_w,i32_w];rfl
       refine pure_ (i:=7) (N:=some 24) (v:=?_) (a':=?_) #[Y,Y,Y,Y,Y,Y,Y,Y,Z,Z,Z,Z] rfl rfl (any_of HT_.out (by kernel_rfl)) (fun _ _ _ h=>h) (Or.inl ⟨by rfl,?_⟩) ?_ ?_;rotate_left
       ·intro w';go_simp;with_reducible rfl
       rotate_left
       ·simp only [Act.put,sIb,sZ,sS,i64_w,i32_w];rfl
       refine one_ (i:=8) (N:=some 25) #[Y,Y,Y,Y,Y,Y,Y,Y,Y,Z,Z,Z] rfl rfl (one_of HT_.out (by kernel_rfl)) (by decide) (fun K hK=>?_);refine value_ (w1:=?_) (v:=?_) (by rfl) rfl ?_ ?_;rotate_left 2
       ·go_simp;constructor
        ·rfl
        ·rfl
       refine hK.out _ _ ⟨(qC (qL ae.out _) 0).trans rfl,(qC (qL ae.out _) 1).trans rfl,(qC (qL ak.out _) 0).trans rfl,(qC (qL ak.out _) 1).trans rfl⟩ (fun hHeld=>?_);clear hK K;refine norm_ (a':=?_) ?_ ?_;rotate_left
       ·show Act.put _ (some 25) _=_
        simp only [Act.put,sIb,sZ,sS,i64_w,i32_w];rfl
       refine one_ (i:=9) (N:=some 26) #[Y,Y,Y,Y,Y,Y,Y,Y,Y,Y,Z,Z] rfl rfl (one_of HT_.out (by kernel_rfl)) (by decide) (fun K hK=>?_);refine Kd.S_append_step k97 (w0:=w) w.heap.size (by rfl) (.tmp 18) (.tmp 25) 30 97 (.agg #[(.int .i64 0),(.slice none 0 0)]) 32 rfl Try.underlying30 info97 rfl (by decide) (by omega) am aj (⟨(rd_T97 ag ab).f0,bb⟩:S97) [.int .i64 ((rd_T97 ag ab).f0),.slice ca bb.length cb] (fun k_=>some k_ ≠ (.slice aU ap.length aV:Value).ownBlock∧k_ ≠ ah) (fun k_=>some k_=(.slice ca bb.length cb:Value).ownBlock) rfl rfl ?aP (fun k_ hk_=>((Kd.R_mono (ok':=fun k_=>((fun k_=>some k_ ≠ (.slice aU ap.length aV:Value).ownBlock∧k_ ≠ ah)) k_∧some k_ ≠ (am:Value).ownBlock) (Kd.R_types (Kd.R_apart' (bh.out) (Kd.S_typed aa.out) (by decide)) ak.out (by decide)) (fun k_ hk=>⟨⟨hk.1.1.2,hk.2⟩,hk.1.2⟩))).1 k_ hk_.symm) ?aF ?aO ?aB ?aS ?aL ?_;(case aP=>exact k97_mkM _ _ _ (⟨(rd_T97 ag ab).f0,bb⟩:S97) (Kd.R_mono (Kd.R_tight rfl (Kd.R_mono (ok':=fun k_=>((fun k_=>some k_ ≠ (.slice aU ap.length aV:Value).ownBlock∧k_ ≠ ah)) k_∧some k_ ≠ (am:Value).ownBlock) (Kd.R_types (Kd.R_apart' (bh.out) (Kd.S_typed aa.out) (by decide)) ak.out (by decide)) (fun k_ hk=>⟨⟨hk.1.1.2,hk.2⟩,hk.1.2⟩))) (fun _ h_=>h_)));(case aB=>exact HB.out);(case aF=>exact (fun k_ hk=>⟨Kd.fresh' (Kd.R_lt ac.out) k_ hk,Kd.freshB (g:=ah) (o:=_) ak.out k_ hk⟩));(case aO=>exact (Kd.S_mono aa.out (fun k_ hk=>⟨⟨hk.1.1,hk.1.2⟩,fun e_=>hk.2 e_⟩)));(case aS=>exact (qZ HB.out));(case aL=>have:=bV.out;omega);intro dr dt ho hb hg hat;rw [← bW.out] at ho;have aA:=qK (Kd.R_over' ac.out (Kd.S_typed aa.out) (by decide) hg);have aC:=qK (blk_grown (g:=ao) (o:=_) af.out hg (Kd.S_ne aa.out af.out (by decide)));have ax:=qK (blk_grown (g:=an) (o:=_) ai.out hg (Kd.S_ne aa.out ai.out (by decide)));have ay:=qK (blk_grown (g:=al) (o:=_) ae.out hg (Kd.S_ne aa.out ae.out (by decide)));have aJ:=qK (blk_grown (g:=ah) (o:=_) ak.out hg (Kd.S_away aa.out (fun _ hk=>hk.1.2)));have aI:=qK (hb);have aK:=qK (ho);clear ac af ai ae ak HB aa bh;have ac:=aA;have af:=aC;have ai:=ax;have ae:=ay;have ak:=aJ;have HB:=aI;have bB:=aK;clear aA aC ax ay aJ aI aK ho hb hg hat;obtain ⟨bL,bM,cA⟩:=Kd.S_slice bB.out;subst cA;refine hK.out _ _ ⟨(qC ae.out 0).trans rfl,(qC ae.out 1).trans rfl,(qC ak.out 0).trans rfl,(qC ak.out 1).trans rfl⟩ (fun hHeld=>?_);clear hK K;refine norm_ (a':=?_) ?_ ?_;rotate_left
       ·show Act.put _ (some 26) _=_
        simp only [Act.put,sIb,sZ,sS,i64_w,i32_w];rfl
       refine pure_ (i:=10) (N:=some 27) (v:=?_) (a':=?_) #[Y,Y,Y,Y,Y,Y,Y,Y,Y,Y,Y,Z] rfl rfl (any_of HT_.out (by kernel_rfl)) (fun _ _ _ h=>h) (Or.inl ⟨by rfl,?_⟩) ?_ ?_;rotate_left
       ·intro w';go_simp;with_reducible rfl
       rotate_left
       ·simp only [Act.put,sIb,sZ,sS,i64_w,i32_w];rfl
       refine last_ (i:=11) (N:=none) #[Y,Y,Y,Y,Y,Y,Y,Y,Y,Y,Y,Y] rfl rfl (one_of HT_.out (by kernel_rfl)) (by decide) (fun K hK=>?_);have du:dt.cell? ⟨al,1,none⟩=some (am):=(qC ae.out 1).trans rfl;have da:=qF ae.out 1;have ch:=au.out;have ci:=av.out;have cj:=aQ.out;have ck:=aD.out;have cl:=aE.out;have cm:=aw.out;refine skip_ (w1:=?_) (by rfl) rfl ?_ ?_;rotate_left
       ·go_simp;rfl
       refine hK.out _ _ ?_;clear hK K;refine done_ (done_of HT_.out (by kernel_rfl)) ?_;try go_wp2
       go_roundg k1
       case measure=>have:=cP.out;omega
       case rel=>exact ⟨(wrap64 (ab + 1)),(bm),(.slice bL bm.length bM),(by rfl),H',⟨by have:=cP.out;omega⟩,⟨Kd.R_mono (Kd.R_far (p:=⟨al,1,none⟩) (Kd.R_types ac.out ae.out (by decide)) (fun _ hk=>hk.2) (.slice bL bm.length bM)) (fun _ hk=>trivial)⟩,⟨Kd.S_mono (Kd.S_far (p:=⟨al,1,none⟩) (Kd.S_types bB.out ae.out (by decide)) (fun _ hk=>hk.2) (.slice bL bm.length bM)) (fun _ hk=>hk.1.1)⟩,⟨by (with_reducible repeat (first|refine qN ?_ _|refine qW ?_|refine qL ?_ _));refine qR ?_ au.out _;(with_reducible repeat (first|refine qN ?_ _|refine qW ?_|refine qL ?_ _));exact af.out⟩,⟨by (with_reducible repeat (first|refine qN ?_ _|refine qW ?_|refine qL ?_ _));refine qR ?_ av.out _;(with_reducible repeat (first|refine qN ?_ _|refine qW ?_|refine qL ?_ _));exact ai.out⟩,⟨by (with_reducible repeat (first|refine qN ?_ _|refine qW ?_|refine qL ?_ _));refine qP (cs:=#[.slice aU ap.length aV,am]) ?_ 1 _ rfl;(with_reducible repeat (first|refine qN ?_ _|refine qW ?_|refine qL ?_ _));exact ae.out⟩,⟨by repeat (first|(with_reducible first|exact HB.out|apply qA|apply qD|apply qO|refine qS ?_ bc.out|refine qS ?_ bd.out|refine qS ?_ be.out|refine qS ?_ bA.out)|exact HB.out)⟩⟩
      ·rw [if_neg c18] at H;exact absurd H (by simp)
     ·rw [if_neg c16] at H;exact absurd H (by simp)
    ·rw [if_neg c15] at H;exact absurd H (by simp)
   ·rw [if_neg c14] at H;have bT:decide (ab < (ag.length:Int))=false:=decide_eq_false c14;clear c14;simp only [Option.some.injEq,Prod.mk.injEq] at H;obtain ⟨rfl,rfl⟩:=H;have db:=aD.out;have dc:=au.out;have dd:=aE.out;have de:=av.out;have cn:wr.cell? ⟨al,0,none⟩=some (.slice aU ap.length aV):=(qC ae.out 0).trans rfl;have co:wr.cell? ⟨al,1,none⟩=some (am):=(qC ae.out 1).trans rfl;have cp:=qF ae.out 0;have cq:=qF ae.out 1;have df:=aN.out;have dg:=aM.out;have cr:wr.cell? ⟨an,0,none⟩=some (.slice none 0 0):=(qC ai.out 0).trans rfl;have ct:wr.cell? ⟨an,1,none⟩=some (.slice none 0 0):=(qC ai.out 1).trans rfl;have cu:=qF ai.out 0;have cv:=qF ai.out 1;obtain ⟨bN,bO,cC⟩:=Kd.S_slice aa.out;subst cC;go_wp2
    refine bodyPost_ret (results_cell_row rfl _ _ an 32 #[.slice aU ap.length aV,.slice bN aj.length bO] (0,0) _ rfl (by (with_reducible repeat (first|refine qN ?_ _|refine qW ?_|refine qL ?_ _));refine qP (cs:=#[.slice aU ap.length aV,.slice none 0 0]) ?_ 1 _ rfl;(with_reducible repeat (first|refine qN ?_ _|refine qW ?_|refine qL ?_ _));refine qP (cs:=#[.slice none 0 0,.slice none 0 0]) ?_ 0 _ rfl;(with_reducible repeat (first|refine qN ?_ _|refine qW ?_|refine qL ?_ _));exact ai.out) Try.underlying32 rfl (by kernel_rfl)) rfl ?_;exact ⟨_,_,by rfl,Kd.R_mono (Kd.R_far (p:=⟨an,1,none⟩) (Kd.R_far (p:=⟨an,0,none⟩) (Kd.R_types ac.out ai.out (by decide)) (fun _ hk=>hk.2) (.slice aU ap.length aV)) (fun _ hk=>hk.2) (.slice bN aj.length bO)) (fun _ hk=>trivial),Kd.S_mono (Kd.S_far (p:=⟨an,1,none⟩) (Kd.S_far (p:=⟨an,0,none⟩) (Kd.S_types aa.out ai.out (by decide)) (fun _ hk=>hk.2) (.slice aU ap.length aV)) (fun _ hk=>hk.2) (.slice bN aj.length bO)) (fun _ hk=>hk.1),by repeat (first|(with_reducible first|exact HB.out|apply qA|apply qD|apply qO|refine qS ?_ bc.out|refine qS ?_ bd.out|refine qS ?_ be.out)|exact HB.out)⟩

/-! ### del_Atom: function 115 -/
def del_Atom.f (l0 : List S97) (a1 : Int) (a2 : Int) : Option (List S97) := if 0 ≤ a1 ∧ a2 = a1 + 1 ∧ a1 < (l0.length : Int) then some (l0.eraseIdx a1.toNat) else none
open Go.Lib Go.Sort Go.Shelf in
set_option maxHeartbeats 4000000 in
set_option maxRecDepth 100000 in
theorem del_Atom.raw (g n cap i j : Nat) (inner : List Value) (w : World) (base : Nat) (ho : w.ownsRow base 97 2 (.slice (some ⟨g, 0, none⟩) n cap) n inner) (h1 : ∀ u ∈ inner, u.oneCell' = true) (hj : j = i + 1) (hi : i < n) :
    Calls Try.prog 115 #[.slice (some ⟨g, 0, none⟩) n cap, .int .i64 i, .int .i64 j] w fun e w' => e = .returned (.slice (some ⟨g, 0, none⟩) (n - 1) cap) ∧ w'.ownsRow base 97 2 (.slice (some ⟨g, 0, none⟩) (n - 1) cap) (n - 1) (inner.take (i * 2) ++ inner.drop ((i + 1) * 2)) ∧ w.grownBy w' (some g) := by
  have mixed : Try.prog.follows .mixedOrders = true := by kernel_rfl
  obtain ⟨i0, ac, _, ae, _⟩ := info_parts info97
  obtain ⟨hH, hb, hglt, hcap, hmax, hl⟩ := holdsK ho
  have hm : cap ≤ 9223372036854775807 := hmax
  have hlt : i < j := by omega
  have hjn : j ≤ n := by omega
  have hic : i ≤ cap := by omega
  have hjc : j ≤ cap := by omega
  have heq : ¬ i = j := by omega
  obtain ⟨news, hnews⟩ : ∃ news, news = inner.drop (j * 2) := ⟨_, rfl⟩
  have hlen : news.length = (n - j) * 2 := by rw [hnews, List.length_drop]; omega
  have hcell : ∀ t, t < n * 2 → w.cell? ⟨g, t, none⟩ = some inner[t]! ∧ w.frozen? ⟨g, t, none⟩ = false := fun t ht => by
    have := hH t (by simp; omega)
    simpa using this
  have hget : ∀ t u, news[t]? = some u → w.cell? ⟨g, j * 2 + t, none⟩ = some u := fun t u hu => by
    have ht : t < news.length := (List.getElem?_eq_some_iff.1 hu).1
    rw [(hcell (j * 2 + t) (by omega)).1, ← hu, hnews, List.getElem?_drop, getElem!_pos inner _ (by omega), List.getElem?_eq_getElem (by omega)]
  obtain ⟨A, hA, hsrc⟩ : ∃ A : Addr, (if cap = j then some (⟨g, 0, none⟩ : Addr) else some ⟨g, j * 2, none⟩) = some A ∧ Hid (∀ t u, news[t]? = some u → w.drew.cell? (A.add t) = some u) := by
    by_cases h : cap = j
    · refine ⟨⟨g, 0, none⟩, by simp [h], fun t u hu => ?_⟩
      have h0 : news.length = 0 := by rw [hlen]; omega
      rw [List.length_eq_zero_iff.1 h0] at hu
      simp at hu
    · refine ⟨⟨g, j * 2, none⟩, by simp [h], fun t u hu => ?_⟩
      rw [Addr.add_lit]
      exact hget t u hu
  have s1 : Hid (news.length = (n - j) * 2) := hlen
  have s2 : Hid (∀ u ∈ news, u.oneCell' = true) := fun u hu => h1 u (by rw [hnews] at hu; exact List.mem_of_mem_drop hu)
  have s3 : Hid (∀ t, t < news.length → (w.drew.cell? ⟨g, 0 + i * 2 + t, none⟩).isSome = true ∧ w.drew.frozen? ⟨g, 0 + i * 2 + t, none⟩ = false) := fun t ht => by
    rw [Nat.zero_add]
    obtain ⟨a, b⟩ := hcell (i * 2 + t) (by omega)
    exact ⟨by show (w.cell? _).isSome = true; rw [a]; rfl, b⟩
  obtain ⟨W1, aa⟩ : ∃ W1, W1 = w.drew.setCells g (0 + i * 2) news := ⟨_, rfl⟩
  have hself : w.drew = putRow id (Sort.ahead w 1) g 0 inner.toArray := by
    rw [putRow_self id (Sort.ahead w 1) g 0 _ (holds_ahead id w 1 g 0 _ hH)]
    rfl
  have hW1' : W1 = putRow id (Sort.ahead w 1) g 0 (setMany inner.toArray (i * 2) news) := by
    rw [aa, hself, setCells_putRow _ _ _ _ _ _ (by simp; omega)]
  have ab : Holds id W1 g 0 (setMany inner.toArray (i * 2) news) := by
    rw [hW1']
    exact holds_putRow id _ g 0 inner.toArray _ (holds_ahead id w 1 g 0 _ hH) (by simp)
  have e1 : n - (i + (n - j)) = 1 := by omega
  have e2 : (i + (n - j)) * 2 = (n - 1) * 2 := by omega
  have hcl : ∀ ty, (Builtin.clear_ #[30] ty #[.slice (some ⟨g, (i + (n - j)) * 2, none⟩) (n - (i + (n - j))) (cap - (i + (n - j)))]).run Try.prog W1 = .ok (.tuple #[]) (W1.setCells g ((i + (n - j)) * 2) [.int .i64 0, .slice none 0 0]) := fun ty => by
    rw [e1, e2]
    refine clear_one W1 30 97 ty (.agg #[.int .i64 0, .slice none 0 0]) Try.underlying30 Try.zeroValue97 (by simp [Value.cells, Value.oneCell']) g _ _ (fun t ht => ?_) (fun t ht => ?_)
    · have ht' : t < 2 := ht
      have := (ab ((n - 1) * 2 + t) (by simp; omega)).1
      rw [Nat.zero_add] at this
      rw [this]; rfl
    · have ht' : t < 2 := ht
      have := (ab ((n - 1) * 2 + t) (by simp; omega)).2
      rwa [Nat.zero_add] at this
  have hend : (putRow id (Sort.ahead w 1) g 0 (setMany (setMany inner.toArray (i * 2) news) ((n - 1) * 2) [.int .i64 0, .slice none 0 0])) = W1.setCells g ((i + (n - j)) * 2) [.int .i64 0, .slice none 0 0] := by
    rw [e2, hW1']
    have := setCells_putRow (Sort.ahead w 1) g 0 [.int .i64 0, .slice none 0 0] ((n - 1) * 2) (setMany inner.toArray (i * 2) news) (by simp; omega)
    rw [Nat.zero_add] at this
    rw [this]
  have hown2 := ownsK (q := 1) ho (setMany (setMany inner.toArray (i * 2) news) ((n - 1) * 2) [.int .i64 0, .slice none 0 0]) (by simp; omega) (show n - 1 ≤ n by omega)
  rw [take_setMany hl hi (by rw [hnews, hj]) rfl, hend] at hown2
  have hgr : w.grownBy (W1.setCells g ((i + (n - j)) * 2) [.int .i64 0, .slice none 0 0]) (some g) := by
    rw [← hend]
    exact ⟨rfl, rfl, rfl, by simp [putRow, mapBlock, Sort.ahead], fun k hk hne => by simp [putRow, mapBlock, Sort.ahead, Array.getElem?_modify, show g ≠ k from fun e => hne (by rw [e])]; rfl⟩
  have af := Aside0.mk hown2
  have HG := Aside0.mk hgr
  have hW : Hid (W1 = w.drew.setCells g (0 + i * 2) news) := aa
  have HJ := Aside0.mk hj
  clear aa hW1' ab hH hget hcell hnews hlen hself hend hown2 hgr ho hl e1 e2 hj
  go_enter Try.func115, Try.ntmps115
  go_wp2_with fail
  go_region_law_o (refine step_append_room rfl (.tmp 22) (.tmp 25) 30 rfl 97 i0 2 Try.underlying30 ac ae g 0 i cap (by simp [Act.eval, Act.put]) A (n - j) (cap - j) news (by simp [Act.eval, Act.put]) s1.out hsrc.out s2.out (by omega) s3.out ?_; rw [← hW.out])
  go_wp2
  go_ret
  exact ⟨by rw [show n - 1 = i + (n - j) by have := HJ.out; omega]; rfl, af.out, HG.out⟩
theorem del_Atom.calls {base : Nat} {ok : Nat → Prop} (A0 : Option Addr) (c0 : Nat) (l0 : List S97) (a1 : Int) (a2 : Int) (r : List S97) (w : World) (ho : Kd.N k97 97 w base ok (.slice A0 l0.length c0) l0) (h : del_Atom.f l0 a1 a2 = some r) :
    Calls Try.prog 115 #[.slice A0 l0.length c0, .int .i64 a1, .int .i64 a2] w fun e w' => ∃ aa : Value, e = .returned (aa) ∧ Kd.N k97 97 w' base ok aa r ∧ w.grownBy w' (Value.slice A0 l0.length c0).ownBlock ∧ aa.ownBlock = (Value.slice A0 l0.length c0).ownBlock := by
  unfold del_Atom.f at h
  by_cases hl : 0 ≤ a1 ∧ a2 = a1 + 1 ∧ a1 < (l0.length : Int)
  · rw [if_pos hl] at h
    obtain rfl := Option.some.inj h
    obtain ⟨h0, rfl, h1⟩ := hl
    obtain ⟨i, rfl⟩ : ∃ i : Nat, a1 = (i : Int) := ⟨a1.toNat, by omega⟩
    have hi : i < l0.length := by omega
    exact del_N k97 (i := i) (rest := #[.int .i64 (i : Int), .int .i64 ((i : Int) + 1)]) (fun g inner ab h1 => del_Atom.raw g l0.length c0 i (i + 1) inner w base ab h1 rfl hi) ho hi (by decide)
  · rw [if_neg hl] at h
    cases h

/-! ### clone_Atom: function 116 -/
def cloneNL_ren : Go.Shelf.Ren := ⟨fun | 41 => 116 | n => n, fun | 22 => 30 | 23 => 97 | 4 => 4 | n => n, fun | n => n⟩
theorem cloneNL : Go.Proofs.SlLaysE0.n41 Try.prog cloneNL_ren := {
  mixed := by kernel_rfl
  f41 := ⟨Try.f116.name, by decide, Try.func116.trans (congrArg some (by kernel_rfl))⟩
  t4 := Try.underlying4
  a4 := Try.isAgg4
  z4 := Try.sizeOf4
  v4 := Try.zeroValue4
  t22 := Try.underlying30
  a22 := Try.isAgg30
  z22 := Try.sizeOf30
  v22 := Try.zeroValue30 }
def clone_Atom.f (l0 : List S97) : Option (List S97) := if 0 < l0.length ∧ l0.length ≤ 1099511627776 then some l0 else none
theorem clone_Atom.calls {ok : Nat → Prop} (A0 : Option Addr) (c0 : Nat) (l0 : List S97) (r : List S97) (w : World) (hr0 : Kd.F k97 w ok A0 l0.length l0) (h : clone_Atom.f l0 = some r) :
    Calls Try.prog 116 #[.slice A0 l0.length c0] w fun e w' => ∃ aa : Value, e = .returned (aa) ∧ Kd.N k97 97 w' w.heap.size (fun k_ => ok k_ ∧ k_ < w.heap.size ∨ w.heap.size ≤ k_) aa r ∧ Below w.heap.size w w' := by
  unfold clone_Atom.f at h
  by_cases hl : 0 < l0.length ∧ l0.length ≤ 1099511627776
  · rw [if_pos hl] at h
    obtain rfl := Option.some.inj h
    obtain ⟨i0, ab, ac, ae, af⟩ := info_parts info97
    exact clone_N k97 cloneNL i0 _ 32 ab ac ae af rfl (by decide) (by decide) Try.sizeOf97 hr0 hl.1 (by omega)
  · rw [if_neg hl] at h
    cases h

end Go.Proofs.Ytboligpcbndkjaa.PFnExactCoreOf
