/-
  A text of this claim's own, printed by a program of the session (wip/tools/xprint.py): functions of the program as Lean functions, each with what its call comes to.
-/
import Derived.Test.YtfnaclgiggkbmaaPFnExactWaitsForx0
import Derived.Test.YtfnaclgiggkbmaaPFnExactWaitsForx1
import Derived.Test.YtfnaclgiggkbmaaPFnExactWaitsForx3
import Derived.Test.YtfnaclgiggkbmaaPFnExactWaitsForx4
import Derived.Test.YtfnaclgiggkbmaaPFnExactWaitsForx5
namespace Go.Proofs.Ytfnaclgiggkbmaa.PFnExactWaitsFor
open Go.Proofs.YtfnaclgiggkbmaaW.PrintWords renaming pw_below_drewN → qD, blk_cell → qC, below_drew1 → qO, below_alloc → qA, blk_frozen → qF, below_set → qS, blk_drewN → qN, blk_alloc → qL, blk_drew → qW, below_size → qZ, below_step → qT, blk_below → qB, blk_far → qR, blk_put → qP
open Go.Proofs.YtfnaclgiggkbmaaW.PrintWords.Aside0 renaming mk → qK
open Bool renaming true → Y, false → Z
open List renaming setIfInBounds_toArray → sIb, set_cons_zero → sZ, set_cons_succ → sS, map_toArray → mT, map_cons → mC, map_nil → mN, length_drop → lD, length_take → lT
open Go.Proofs.YtfnaclgiggkbmaaW.PrintWords.Kd renaming C_alloc → cL, C_drewN → cN, C_drew → cW, C_below → cB, R_alloc → rL, R_drewN → rN, R_drew → rW, R_below → rB
open Go.RowKit Go.Proofs.YtfnaclgiggkbmaaW.PrintWords Go.Proofs.YtfnaclgiggkbmaaW.PrintLast Go.Proofs.YtfnaclgiggkbmaaW.PrintMore
attribute [local go_sem] max2_int min2_int max_two min_two max_three min_three max_four min_four   -- for this text's walks alone
set_option linter.unusedVariables false
set_option linter.unusedSimpArgs false

/-! ### impl_waits: function 34 -/
/-- What a lock that clashes leaves in the table of who waits for whom. -/
def waitPut (s : S47) (cur : List Int) (h : S47) : List Int := if clashB h s = true then cur.set s.f0.toNat (Go.bits .or .i64 (rd cur s.f0) (shl .i64 1 h.f0)) else cur
def waitFrom (held : List S47) : List S47 → List Int → List Int
  | [], cur => cur
  | s :: l, cur => waitFrom held l (held.foldl (waitPut s) cur)
def waitT (held waits : List S47) : List Int := waitFrom held waits [0, 0, 0, 0, 0, 0]
theorem waitPut_length (a : S47) (cur : List Int) (b : S47) : (waitPut a cur b).length = cur.length := by unfold waitPut; split <;> simp
theorem wait_row_length (a : S47) : ∀ (l : List S47) (cur : List Int), (l.foldl (waitPut a) cur).length = cur.length
  | [], _ => rfl
  | b :: l, cur => by rw [List.foldl_cons, wait_row_length a l, waitPut_length]
def impl_waits.f (l0 l1 l2 : List S47) (l3 l4 : List Int) : Option (List Int) := if (l0.all stepB && l1.all stepB) = true then some (waitT l0 l1) else none
set_option maxHeartbeats 4000000 in
set_option maxRecDepth 100000 in
theorem impl_waits.raw (A0 A1 A2 A3 A4 : Option Addr) (c0 c1 c2 c3 c4 : Nat) (l2 l0 x2 : List S47) (x3 x4 : List Int) (w : World) (hr2 : Kd.C k47 w A0 l2.length l2) (hr0 : Kd.C k47 w A1 l0.length l0) (hg2 : ∀ x ∈ l2, stepB x = true) (hg : ∀ x ∈ l0, stepB x = true) :
    Calls Try.prog 34 #[.agg #[.slice A0 l2.length c0, .slice A1 l0.length c1, .slice A2 x2.length c2, .slice A3 x3.length c3, .slice A4 x4.length c4]] w fun e w' => e = .returned (.agg (nums .i64 (waitT l2 l0)).toArray) ∧ Below w.heap.size w w' := by
  have hl : l0.length ≤ 9223372036854775807 := hr0.2.1
  have hl2n : l2.length ≤ 9223372036854775807 := hr2.2.1
  have HR := Aside0.mk hr0
  have HR2 := Aside0.mk hr2
  have HG := Aside0.mk hg
  have HG2 := Aside0.mk hg2
  clear hr0 hr2 hg hg2
  have hu31 := Try.underlying31
  go_enter Try.func34, Try.ntmps34
  go_upto_region 2 with (fail)
  have HKB := Aside0.mk (show (((w.alloc (.cells #[.slice A0 l2.length c0, .slice A1 l0.length c1, .slice A2 x2.length c2, .slice A3 x3.length c3, .slice A4 x4.length c4] 31)).alloc (.cells #[.int .i64 0, .int .i64 0, .int .i64 0, .int .i64 0, .int .i64 0, .int .i64 0] 58)).alloc (.cells #[.int .i64 0, .int .i64 0, .int .i64 0, .int .i64 0, .int .i64 0, .int .i64 0] 58)).heap[w.heap.size]? = some (.cells #[.slice A0 l2.length c0, .slice A1 l0.length c1, .slice A2 x2.length c2, .slice A3 x3.length c3, .slice A4 x4.length c4] 31 (0, 0)) from blk_alloc (blk_alloc (blk_new w (.cells #[.slice A0 l2.length c0, .slice A1 l0.length c1, .slice A2 x2.length c2, .slice A3 x3.length c3, .slice A4 x4.length c4] 31)) _) _)
  have HZB := Aside0.mk (show (((w.alloc (.cells #[.slice A0 l2.length c0, .slice A1 l0.length c1, .slice A2 x2.length c2, .slice A3 x3.length c3, .slice A4 x4.length c4] 31)).alloc (.cells #[.int .i64 0, .int .i64 0, .int .i64 0, .int .i64 0, .int .i64 0, .int .i64 0] 58)).alloc (.cells #[.int .i64 0, .int .i64 0, .int .i64 0, .int .i64 0, .int .i64 0, .int .i64 0] 58)).heap[w.heap.size + 1]? = some (.cells #[.int .i64 0, .int .i64 0, .int .i64 0, .int .i64 0, .int .i64 0, .int .i64 0] 58 (0, 0)) from blk_alloc ((by simp : (w.alloc (.cells #[.slice A0 l2.length c0, .slice A1 l0.length c1, .slice A2 x2.length c2, .slice A3 x3.length c3, .slice A4 x4.length c4] 31)).heap.size = w.heap.size + 1) ▸ blk_new (w.alloc (.cells #[.slice A0 l2.length c0, .slice A1 l0.length c1, .slice A2 x2.length c2, .slice A3 x3.length c3, .slice A4 x4.length c4] 31)) (.cells #[.int .i64 0, .int .i64 0, .int .i64 0, .int .i64 0, .int .i64 0, .int .i64 0] 58)) _)
  have HCB := Aside0.mk (show (((w.alloc (.cells #[.slice A0 l2.length c0, .slice A1 l0.length c1, .slice A2 x2.length c2, .slice A3 x3.length c3, .slice A4 x4.length c4] 31)).alloc (.cells #[.int .i64 0, .int .i64 0, .int .i64 0, .int .i64 0, .int .i64 0, .int .i64 0] 58)).alloc (.cells #[.int .i64 0, .int .i64 0, .int .i64 0, .int .i64 0, .int .i64 0, .int .i64 0] 58)).heap[w.heap.size + 2]? = some (.cells #[.int .i64 0, .int .i64 0, .int .i64 0, .int .i64 0, .int .i64 0, .int .i64 0] 58 (0, 0)) from (by simp : ((w.alloc (.cells #[.slice A0 l2.length c0, .slice A1 l0.length c1, .slice A2 x2.length c2, .slice A3 x3.length c3, .slice A4 x4.length c4] 31)).alloc (.cells #[.int .i64 0, .int .i64 0, .int .i64 0, .int .i64 0, .int .i64 0, .int .i64 0] 58)).heap.size = w.heap.size + 2) ▸ blk_new ((w.alloc (.cells #[.slice A0 l2.length c0, .slice A1 l0.length c1, .slice A2 x2.length c2, .slice A3 x3.length c3, .slice A4 x4.length c4] 31)).alloc (.cells #[.int .i64 0, .int .i64 0, .int .i64 0, .int .i64 0, .int .i64 0, .int .i64 0] 58)) (.cells #[.int .i64 0, .int .i64 0, .int .i64 0, .int .i64 0, .int .i64 0, .int .i64 0] 58))
  have HBB := Aside0.mk (below_alloc (below_alloc (below_alloc (Below.refl w.heap.size w) (.cells #[.slice A0 l2.length c0, .slice A1 l0.length c1, .slice A2 x2.length c2, .slice A3 x3.length c3, .slice A4 x4.length c4] 31)) (.cells #[.int .i64 0, .int .i64 0, .int .i64 0, .int .i64 0, .int .i64 0, .int .i64 0] 58)) (.cells #[.int .i64 0, .int .i64 0, .int .i64 0, .int .i64 0, .int .i64 0, .int .i64 0] 58))
  obtain ⟨W0, hW0⟩ : ∃ W0, W0 = (((w.alloc (.cells #[.slice A0 l2.length c0, .slice A1 l0.length c1, .slice A2 x2.length c2, .slice A3 x3.length c3, .slice A4 x4.length c4] 31)).alloc (.cells #[.int .i64 0, .int .i64 0, .int .i64 0, .int .i64 0, .int .i64 0, .int .i64 0] 58)).alloc (.cells #[.int .i64 0, .int .i64 0, .int .i64 0, .int .i64 0, .int .i64 0, .int .i64 0] 58)) := ⟨_, rfl⟩
  rw [← hW0] at HKB HZB HCB HBB ⊢
  clear hW0
  have hk1 : W0.cell? ⟨w.heap.size, 1, none⟩ = some (.slice A1 l0.length c1) := (blk_cell HKB.out 1).trans rfl
  go_wp2
  go_loopg [11] l0.length (fun gg v11 wr => ∃ (kk : Nat) (cur : List Int), kk ≤ l0.length ∧ l0.length - kk ≤ gg ∧ v11 = .int .i64 kk ∧ Aside0 (Below w.heap.size w wr) ∧ Aside0 (wr.heap[w.heap.size]? = some (.cells #[.slice A0 l2.length c0, .slice A1 l0.length c1, .slice A2 x2.length c2, .slice A3 x3.length c3, .slice A4 x4.length c4] 31 (0, 0))) ∧ Aside0 (∃ z, z.size = 6 ∧ wr.heap[w.heap.size + 1]? = some (.cells z 58 (0, 0))) ∧ Aside0 (wr.heap[w.heap.size + 2]? = some (.cells (nums .i64 cur).toArray 58 (0, 0))) ∧ Aside0 (cur.length = 6 ∧ waitFrom l2 (l0.drop kk) cur = waitT l2 l0))
  case atStart => exact ⟨0, [0, 0, 0, 0, 0, 0], Nat.zero_le _, by omega, rfl, HBB, HKB, ⟨_, rfl, HZB.out⟩, HCB, ⟨rfl, rfl⟩⟩
  case round =>
    clear HKB HZB HCB HBB hk1
    obtain ⟨kk, cur, hkk, hgg, rfl, HB, HKB, HZ, HC, HF⟩ := hrel
    by_cases hlt : kk < l0.length
    · have hltz : (kk : Int) < (l0.length : Int) := by omega
      obtain ⟨ad, e1, h0, h1, h2⟩ := at_T47 (Kd.C_below HR.out HB.out) (kk : Int) (by omega) (by omega)
      cases e1
      simp only [Int.toNat_natCast] at h0 h1 h2
      obtain ⟨a, ha⟩ : ∃ a, a = rd_T47 l0 (kk : Int) := ⟨_, rfl⟩
      rw [← ha] at h0 h1 h2
      have HA := Aside0.mk ha
      clear ha
      have hk0 : (wr.alloc (.cells #[.int .i64 a.f0, .int .i64 a.f1, .int .i64 a.f2] 47)).cell? ⟨w.heap.size, 0, none⟩ = some (.slice A0 l2.length c0) := (blk_cell (blk_alloc HKB.out _) 0).trans rfl
      go_upto_block 2 with (fail)
      have HGA := Aside0.mk (show stepB a = true from HG.out a (by rw [HA.out]; simp [rd_T47, hlt]))
      have h3lt := blk_lt HC.out
      clear h0 h1 h2 hk0
      have HBA := Aside0.mk (blk_new wr (.cells #[.int .i64 a.f0, .int .i64 a.f1, .int .i64 a.f2] 47))
      have HB1 := Aside0.mk (below_alloc HB.out (.cells #[.int .i64 a.f0, .int .i64 a.f1, .int .i64 a.f2] 47))
      have HZ1 := Aside0.mk (show ∃ z, z.size = 6 ∧ (wr.alloc (.cells #[.int .i64 a.f0, .int .i64 a.f1, .int .i64 a.f2] 47)).heap[w.heap.size + 1]? = some (.cells z 58 (0, 0)) from by obtain ⟨z, hz, hzz⟩ := HZ.out; exact ⟨z, hz, blk_alloc hzz _⟩)
      have HKB1 := Aside0.mk (blk_alloc HKB.out (.cells #[.int .i64 a.f0, .int .i64 a.f1, .int .i64 a.f2] 47))
      have HC1 := Aside0.mk (blk_alloc HC.out (.cells #[.int .i64 a.f0, .int .i64 a.f1, .int .i64 a.f2] 47))
      obtain ⟨B, hB⟩ : ∃ B, B = wr.heap.size := ⟨_, rfl⟩
      rw [← hB] at HBA h3lt ⊢
      obtain ⟨W, hW⟩ : ∃ W, W = wr.alloc (.cells #[.int .i64 a.f0, .int .i64 a.f1, .int .i64 a.f2] 47) := ⟨_, rfl⟩
      rw [← hW] at HBA HB1 HKB1 HZ1 HC1 ⊢
      clear hW hB HB HKB HZ HC
      go_wp2
      go_loopg [18] l2.length (fun gi v18 wi => ∃ (jj : Nat) (cu : List Int), jj ≤ l2.length ∧ l2.length - jj ≤ gi ∧ v18 = .int .i64 jj ∧ Aside0 (Below w.heap.size w wi) ∧ Aside0 (wi.heap[w.heap.size]? = some (.cells #[.slice A0 l2.length c0, .slice (some ad) l0.length c1, .slice A2 x2.length c2, .slice A3 x3.length c3, .slice A4 x4.length c4] 31 (0, 0))) ∧ Aside0 (∃ z, z.size = 6 ∧ wi.heap[w.heap.size + 1]? = some (.cells z 58 (0, 0))) ∧ Aside0 (wi.heap[w.heap.size + 2]? = some (.cells (nums .i64 cu).toArray 58 (0, 0))) ∧ Aside0 (wi.heap[B]? = some (.cells #[.int .i64 a.f0, .int .i64 a.f1, .int .i64 a.f2] 47 (0, 0))) ∧ Aside0 (cu.length = 6 ∧ (l2.drop jj).foldl (waitPut a) cu = l2.foldl (waitPut a) cur))
      case atStart => exact ⟨0, cur, Nat.zero_le _, by omega, rfl, HB1, HKB1, HZ1, HC1, HBA, ⟨HF.out.1, by simp⟩⟩
      case round =>
        obtain ⟨jj, cu, hjj, hgi, rfl, HBi, HKBi, HZi, HCi, HBAi, HFi⟩ := hrel
        by_cases hlj : jj < l2.length
        · have hljz : (jj : Int) < (l2.length : Int) := by omega
          obtain ⟨ad2, e2, h0, h1, h2⟩ := at_T47 (Kd.C_below HR2.out HBi.out) (jj : Int) (by omega) (by omega)
          cases e2
          simp only [Int.toNat_natCast] at h0 h1 h2
          obtain ⟨b, hb⟩ : ∃ b, b = rd_T47 l2 (jj : Int) := ⟨_, rfl⟩
          rw [← hb] at h0 h1 h2
          have HBB := Aside0.mk hb
          clear hb
          have ha0 : wr.cell? ⟨B, 0, none⟩ = some (.int .i64 a.f0) := (blk_cell HBAi.out 0).trans rfl
          have ha1 : wr.cell? ⟨B, 1, none⟩ = some (.int .i64 a.f1) := (blk_cell HBAi.out 1).trans rfl
          have ha2 : wr.cell? ⟨B, 2, none⟩ = some (.int .i64 a.f2) := (blk_cell HBAi.out 2).trans rfl
          have HW1 := Aside0.mk (below_alloc HBi.out (.cells #[.int .i64 b.f0, .int .i64 b.f1, .int .i64 b.f2] 47))
          have HBA1 := Aside0.mk (blk_alloc HBAi.out (.cells #[.int .i64 b.f0, .int .i64 b.f1, .int .i64 b.f2] 47))
          have HKBi1 := Aside0.mk (blk_alloc HKBi.out (.cells #[.int .i64 b.f0, .int .i64 b.f1, .int .i64 b.f2] 47))
          have HCi1 := Aside0.mk (blk_alloc HCi.out (.cells #[.int .i64 b.f0, .int .i64 b.f1, .int .i64 b.f2] 47))
          have HZi1 := Aside0.mk (show ∃ z, z.size = 6 ∧ (wr.alloc (.cells #[.int .i64 b.f0, .int .i64 b.f1, .int .i64 b.f2] 47)).heap[w.heap.size + 1]? = some (.cells z 58 (0, 0)) from by obtain ⟨z, hz, hzz⟩ := HZi.out; exact ⟨z, hz, blk_alloc hzz _⟩)
          have HBN1 := Aside0.mk (blk_new wr (.cells #[.int .i64 b.f0, .int .i64 b.f1, .int .i64 b.f2] 47))
          have hBlt := blk_lt HBAi.out
          obtain ⟨B4, hB4⟩ : ∃ B4, B4 = wr.heap.size := ⟨_, rfl⟩
          rw [← hB4] at HBN1
          have HB4 := Aside0.mk hB4
          clear hB4
          have hdr : l2.drop jj = b :: l2.drop (jj + 1) := by rw [List.drop_eq_getElem_cons hlj]; congr 1; rw [HBB.out]; simp [rd_T47, hlj]
          have HDR := Aside0.mk hdr
          clear hdr
          have hcl := clash_some b a
          cases hcb : clashB b a with
          | false =>
            rw [hcb] at hcl
            have HCB := Aside0.mk hcb
            have HCL := Aside0.mk hcl
            clear hcb hcl
            go_wp2_with (go_at_call 51; refine (impl_clash.calls b.f0 b.f1 b.f2 a.f0 a.f1 a.f2 false _ HCL.out).mono ?_; rintro e w' ⟨rfl, hb'⟩)
            go_roundg (l2.length - (jj + 1))
            case measure => omega
            case rel =>
              refine ⟨jj + 1, cu, by omega, by omega, by go_num, ⟨below_step HW1.out hb'⟩, ⟨blk_below HKBi1.out hb'⟩, ⟨?_⟩, ⟨blk_below HCi1.out hb'⟩, ⟨blk_below HBA1.out hb'⟩, ⟨HFi.out.1, ?_⟩⟩
              · obtain ⟨z, hz, hzz⟩ := HZi1.out; exact ⟨z, hz, blk_below hzz hb'⟩
              · rw [← HFi.out.2, HDR.out, List.foldl_cons, waitPut, HCB.out, if_neg (by decide)]
          | true =>
            rw [hcb] at hcl
            have HCB := Aside0.mk hcb
            have HCL := Aside0.mk hcl
            clear hcb hcl
            go_upto_region 9 with (go_at_call 51; refine (impl_clash.calls b.f0 b.f1 b.f2 a.f0 a.f1 a.f2 true _ HCL.out).mono ?_; rintro e w' ⟨rfl, hb'⟩)
            have HBA2 := Aside0.mk (blk_below HBA1.out hb')
            have HKB2 := Aside0.mk (blk_below HKBi1.out hb')
            have HCi2 := Aside0.mk (blk_below HCi1.out hb')
            have HBN2 := Aside0.mk (blk_below HBN1.out hb')
            have HW2 := Aside0.mk (below_step HW1.out hb')
            have HZ2 := Aside0.mk (show ∃ z, z.size = 6 ∧ w'.heap[w.heap.size + 1]? = some (.cells z 58 (0, 0)) from by obtain ⟨z, hz, hzz⟩ := HZi1.out; exact ⟨z, hz, blk_below hzz hb'⟩)
            rw [← HB4.out]
            clear hb' HBA1 HCi1 HBN1 HW1 HZi1 HKBi1
            have hs := HGA.out
            simp only [stepB, decide_eq_true_eq] at hs
            have hsb := HG2.out b (by rw [HBB.out]; simp [rd_T47, hlj])
            simp only [stepB, decide_eq_true_eq] at hsb
            obtain ⟨p1, p2, _⟩ := hs
            obtain ⟨q1, q2, _⟩ := hsb
            have k1 : w'.cell? ⟨B, 0, none⟩ = some (.int .i64 a.f0) := (blk_cell HBA2.out 0).trans rfl
            have k2 : w'.cell? ⟨B4, 0, none⟩ = some (.int .i64 b.f0) := (blk_cell HBN2.out 0).trans rfl
            have hcu := HFi.out.1
            have k3 : w'.cell? ⟨w.heap.size + 2, a.f0.toNat, none⟩ = some (.int .i64 (rd cu a.f0)) := by
              rw [blk_cell HCi2.out]; simp [nums, rd, show a.f0.toNat < cu.length by omega]
            have k4 := blk_frozen HCi2.out a.f0.toNat
            clear hcu h0 h1 h2 ha0 ha1 ha2
            have HSH := Aside0.mk (show shl .i64 1 b.f0 = wrap64 (2 ^ b.f0.toNat) from by rw [← shl_small (x := 1) (y := b.f0) rfl (by simp [IntKind.bits]; omega), Int.one_mul]; exact i64_w _)
            have p3 : a.f0 < 6 := by omega
            refine wp_region_still_tail 9 (by kernel_rfl) (by kernel_rfl) ?_
            change wpStill _ _ w'.drew _ _ _
            have k1d : w'.drew.cell? ⟨B, 0, none⟩ = some (.int .i64 a.f0) := k1
            have k2d : w'.drew.cell? ⟨B4, 0, none⟩ = some (.int .i64 b.f0) := k2
            have k3d : w'.drew.cell? ⟨w.heap.size + 2, a.f0.toNat, none⟩ = some (.int .i64 (rd cu a.f0)) := k3
            simp only [List.take_succ_cons, List.take_zero, List.drop_succ_cons, List.drop_zero]
            repeat still_step
            try refine wpStill_nil ?_
            change wpList _ _ _ _ _ w'.drew
            go_wp2
            go_roundg (l2.length - (jj + 1))
            case measure => omega
            case rel =>
              have hne : B ≠ w.heap.size + 2 := blk_ne HBA2.out HCi2.out (by decide)
              refine ⟨jj + 1, waitPut a cu b, by omega, by omega, by go_num, ⟨(below_drew1 HW2.out).setCell (by show w.heap.size ≤ w.heap.size + 2; omega) _⟩, ⟨blk_far HKB2.out (by show w.heap.size ≠ w.heap.size + 2; omega) _⟩, ⟨?_⟩, ⟨?_⟩, ⟨blk_far HBA2.out hne _⟩, ⟨by rw [waitPut_length]; exact HFi.out.1, ?_⟩⟩
              · obtain ⟨z, hz, hzz⟩ := HZ2.out; exact ⟨z, hz, blk_far hzz (by simp) _⟩
              · rw [waitPut, if_pos HCB.out, HSH.out]
                have := blk_set HCi2.out a.f0.toNat (.int .i64 (Go.bits .or .i64 (rd cu a.f0) (wrap64 (2 ^ b.f0.toNat))))
                rw [show (nums .i64 (cu.set a.f0.toNat (Go.bits .or .i64 (rd cu a.f0) (wrap64 (2 ^ b.f0.toNat))))).toArray = (nums .i64 cu).toArray.setIfInBounds a.f0.toNat (.int .i64 (Go.bits .or .i64 (rd cu a.f0) (wrap64 (2 ^ b.f0.toNat)))) from by simp [nums, List.map_set]]
                exact this
              · rw [← HFi.out.2, HDR.out, List.foldl_cons]
        · have hljz : ¬ (jj : Int) < (l2.length : Int) := by omega
          go_wp2
          go_roundg (l0.length - (kk + 1))
          case measure => omega
          case rel =>
            refine ⟨kk + 1, cu, by omega, by omega, by go_num, HBi, HKBi, HZi, HCi, ⟨HFi.out.1, ?_⟩⟩
            have h9 := HFi.out.2
            rw [List.drop_eq_nil_of_le (by omega), List.foldl_nil] at h9
            rw [h9, ← HF.out.2, List.drop_eq_getElem_cons hlt, waitFrom]
            congr 2
            rw [HA.out]; simp [rd_T47, hlt]
    · have hltz : ¬ (kk : Int) < (l0.length : Int) := by omega
      have hcur : cur = waitT l2 l0 := by rw [← HF.out.2, List.drop_eq_nil_of_le (by omega), waitFrom]
      obtain ⟨y0, y1, y2, y3, y4, y5, rfl⟩ := list_len6 HF.out.1
      have HCU := Aside0.mk hcur
      obtain ⟨z, hz, hzz⟩ := HZ.out
      have f0 : wr.cell? ⟨w.heap.size + 2, 0, none⟩ = some (.int .i64 y0) := (blk_cell HC.out 0).trans rfl
      have f1 : wr.cell? ⟨w.heap.size + 2, 1, none⟩ = some (.int .i64 y1) := (blk_cell HC.out 1).trans rfl
      have f2 : wr.cell? ⟨w.heap.size + 2, 2, none⟩ = some (.int .i64 y2) := (blk_cell HC.out 2).trans rfl
      have f3 : wr.cell? ⟨w.heap.size + 2, 3, none⟩ = some (.int .i64 y3) := (blk_cell HC.out 3).trans rfl
      have f4 : wr.cell? ⟨w.heap.size + 2, 4, none⟩ = some (.int .i64 y4) := (blk_cell HC.out 4).trans rfl
      have f5 : wr.cell? ⟨w.heap.size + 2, 5, none⟩ = some (.int .i64 y5) := (blk_cell HC.out 5).trans rfl
      obtain ⟨z0, z1, z2, z3, z4, z5, hz6⟩ := list_len6 (l := z.toList) (by simpa using hz)
      obtain rfl : z = #[z0, z1, z2, z3, z4, z5] := by rw [← hz6]
      have g0 : wr.cell? ⟨w.heap.size + 1, 0, none⟩ = some z0 := (blk_cell hzz 0).trans rfl
      have g1 : wr.cell? ⟨w.heap.size + 1, 1, none⟩ = some z1 := (blk_cell hzz 1).trans rfl
      have g2 : wr.cell? ⟨w.heap.size + 1, 2, none⟩ = some z2 := (blk_cell hzz 2).trans rfl
      have g3 : wr.cell? ⟨w.heap.size + 1, 3, none⟩ = some z3 := (blk_cell hzz 3).trans rfl
      have g4 : wr.cell? ⟨w.heap.size + 1, 4, none⟩ = some z4 := (blk_cell hzz 4).trans rfl
      have g5 : wr.cell? ⟨w.heap.size + 1, 5, none⟩ = some z5 := (blk_cell hzz 5).trans rfl
      have r0 := blk_frozen hzz 0
      have r1 := blk_frozen hzz 1
      have r2 := blk_frozen hzz 2
      have r3 := blk_frozen hzz 3
      have r4 := blk_frozen hzz 4
      have r5 := blk_frozen hzz 5
      have HZZ := Aside0.mk hzz
      clear hcur hz6 hz hzz
      go_wp2
      have hb6 := blk_set (blk_set (blk_set (blk_set (blk_set (blk_set HZZ.out 0 (.int .i64 y0)) 1 (.int .i64 y1)) 2 (.int .i64 y2)) 3 (.int .i64 y3)) 4 (.int .i64 y4)) 5 (.int .i64 y5)
      have j0 := (blk_cell hb6 0).trans (show _ = some (Value.int .i64 y0) from rfl)
      have j1 := (blk_cell hb6 1).trans (show _ = some (Value.int .i64 y1) from rfl)
      have j2 := (blk_cell hb6 2).trans (show _ = some (Value.int .i64 y2) from rfl)
      have j3 := (blk_cell hb6 3).trans (show _ = some (Value.int .i64 y3) from rfl)
      have j4 := (blk_cell hb6 4).trans (show _ = some (Value.int .i64 y4) from rfl)
      have j5 := (blk_cell hb6 5).trans (show _ = some (Value.int .i64 y5) from rfl)
      refine bodyPost_ret (v := .agg #[.int .i64 y0, .int .i64 y1, .int .i64 y2, .int .i64 y3, .int .i64 y4, .int .i64 y5]) (by simp [results, Try.results34, go_sem, j0, j1, j2, j3, j4, j5]) rfl ⟨?_, ?_⟩
      · rw [← HCU.out]; rfl
      · exact (((((HB.out.setCell (Nat.le_succ _) _).setCell (Nat.le_succ _) _).setCell (Nat.le_succ _) _).setCell (Nat.le_succ _) _).setCell (Nat.le_succ _) _).setCell (Nat.le_succ _) _
theorem impl_waits.calls (A0 : Option Addr) (c0 : Nat) (l0 : List S47) (A1 : Option Addr) (c1 : Nat) (l1 : List S47) (A2 : Option Addr) (c2 : Nat) (l2 : List S47) (A3 : Option Addr) (c3 : Nat) (l3 : List Int) (A4 : Option Addr) (c4 : Nat) (l4 : List Int) (r : List Int) (w : World) (hr0 : Kd.C k47 w A0 l0.length l0) (hc0 : l0.length ≤ c0) (hr1 : Kd.C k47 w A1 l1.length l1) (hc1 : l1.length ≤ c1) (hr2 : Kd.C k47 w A2 l2.length l2) (hc2 : l2.length ≤ c2) (hr3 : Kd.C (Kd.int .i64) w A3 l3.length l3) (hc3 : l3.length ≤ c3) (hr4 : Kd.C (Kd.int .i64) w A4 l4.length l4) (hc4 : l4.length ≤ c4) (h : impl_waits.f l0 l1 l2 l3 l4 = some r) :
    Calls Try.prog 34 #[.agg #[.slice A0 l0.length c0, .slice A1 l1.length c1, .slice A2 l2.length c2, .slice A3 l3.length c3, .slice A4 l4.length c4]] w fun e w' => e = .returned (.agg (nums .i64 r).toArray) ∧ Below w.heap.size w w' := by
  unfold impl_waits.f at h
  by_cases g : (l0.all stepB && l1.all stepB) = true
  · rw [if_pos g] at h
    obtain rfl := Option.some.inj h
    obtain ⟨g0, g1⟩ := Bool.and_eq_true_iff.1 g
    exact impl_waits.raw A0 A1 A2 A3 A4 c0 c1 c2 c3 c4 l0 l1 l2 l3 l4 w hr0 hr1 (List.all_eq_true.1 g0) (List.all_eq_true.1 g1)
  · rw [if_neg g] at h
    cases h
theorem waitFrom_length (held : List S47) : ∀ (l : List S47) (cur : List Int), (waitFrom held l cur).length = cur.length
  | [], _ => rfl
  | s :: l, cur => by rw [waitFrom, waitFrom_length held l, wait_row_length]
theorem impl_waits.len {l0 l1 l2 : List S47} {l3 l4 : List Int} {r : List Int} (h : impl_waits.f l0 l1 l2 l3 l4 = some r) : r.length = 6 := by
  unfold impl_waits.f at h
  by_cases g : (l0.all stepB && l1.all stepB) = true
  · rw [if_pos g] at h
    obtain rfl := Option.some.inj h
    exact waitFrom_length _ _ _
  · rw [if_neg g] at h
    cases h
theorem idx6 (y0 y1 y2 y3 y4 y5 : Int) (x : Int) (h0 : 0 ≤ x) (h1 : x < 6) (w : World) : (Instr.index 58 (.agg (nums .i64 [y0, y1, y2, y3, y4, y5]).toArray) (.int .i64 x)).run Try.prog w = .ok (.int .i64 (rd [y0, y1, y2, y3, y4, y5] x)) w := by
  rcases (show x = 0 ∨ x = 1 ∨ x = 2 ∨ x = 3 ∨ x = 4 ∨ x = 5 by omega) with rfl | rfl | rfl | rfl | rfl | rfl <;> rfl
theorem idxT (t : List Int) (ht : t.length = 6) (x : Int) (h0 : 0 ≤ x) (h1 : x < 6) (w : World) : (Instr.index 58 (.agg (nums .i64 t).toArray) (.int .i64 x)).run Try.prog w = .ok (.int .i64 (rd t x)) w := by
  obtain ⟨y0, y1, y2, y3, y4, y5, rfl⟩ := list_len6 ht
  exact idx6 y0 y1 y2 y3 y4 y5 x h0 h1 w

/-! ### impl_WaitsFor: function 15 -/
def impl_WaitsFor.l0 : Nat→List (List Int)→List Int→Int→Option ((List (List Int)) × Bool)
 | 0,_,_,_=>none
 | k + 1,x4,x11,x12=>if x12 < 6 then (if 0≤x12 then (if x12 < (x11.length:Int) then ((impl_set_list.f k (rd x11 x12)).bind fun t356=>(if x4.length < 5864062014805 then (impl_WaitsFor.l0 k (x4 ++ [t356]) x11 (wrap64 (x12 + 1))) else (none))) else (none)) else (none)) else (some (x4,true))
def impl_WaitsFor.f (k:Nat) (l0_0:List (S47)) (l0_1:List (S47)) (l0_2:List (S47)) (l0_3:List Int) (l0_4:List Int):Option ((List (List Int)) × Bool):=(impl_GoodLocks.f k l0_0 l0_1 l0_2 l0_3 l0_4).bind fun t351=>(if t351=true then ((impl_waits.f l0_0 l0_1 l0_2 l0_3 l0_4).bind fun t352=>(impl_WaitsFor.l0 k ([]:List (List Int)) t352 0)) else (some (([]:List (List Int)),false)))
theorem impl_WaitsFor.mono_l : ∀ k,(∀ y0 y1 y2,LeO (impl_WaitsFor.l0 k y0 y1 y2) (impl_WaitsFor.l0 (k + 1) y0 y1 y2))
 | 0=>fun _ _ _ r h=>by simp [impl_WaitsFor.l0] at h
 | k + 1=>by
  have ih0:=impl_WaitsFor.mono_l k
  ·intro y0 y1 y2;unfold impl_WaitsFor.l0
   repeat' first
   | (with_reducible exact ih0 _ _ _)
   | (with_reducible exact impl_GoodLocks.mono _ _ _ _ _ _)
   | (with_reducible exact impl_set_list.mono _ _)
   | (with_reducible exact LeO.refl _)
   | (with_reducible exact LeO.none _)
   | (with_reducible refine LeO.ite ?_ ?_)
   | (with_reducible refine LeO.bind ?_ (fun _=>?_))
   | exact ih0 _ _ _
   | exact impl_GoodLocks.mono _ _ _ _ _ _
   | exact impl_set_list.mono _ _
   | exact LeO.none _
   | refine LeO.ite ?_ ?_
   | refine LeO.bind ?_ (fun _=>?_)
theorem impl_WaitsFor.mono : ∀ a0 a1 a2 a3 a4 k,LeO (impl_WaitsFor.f k a0 a1 a2 a3 a4) (impl_WaitsFor.f (k + 1) a0 a1 a2 a3 a4):=by
 intro a0 a1 a2 a3 a4 k;have ih0:=impl_WaitsFor.mono_l k;unfold impl_WaitsFor.f
 repeat' first
   | (with_reducible exact ih0 _ _ _)
   | (with_reducible exact impl_GoodLocks.mono _ _ _ _ _ _)
   | (with_reducible exact impl_set_list.mono _ _)
   | (with_reducible exact LeO.refl _)
   | (with_reducible exact LeO.none _)
   | (with_reducible refine LeO.ite ?_ ?_)
   | (with_reducible refine LeO.bind ?_ (fun _=>?_))
   | exact ih0 _ _ _
   | exact impl_GoodLocks.mono _ _ _ _ _ _
   | exact impl_set_list.mono _ _
   | exact LeO.none _
   | refine LeO.ite ?_ ?_
   | refine LeO.bind ?_ (fun _=>?_)
set_option maxHeartbeats 8000000 in
set_option maxRecDepth 100000 in
theorem impl_WaitsFor.calls (k:Nat) (A0_0:Option Addr) (c0_0:Nat) (l0_0:List (S47)) (A0_1:Option Addr) (c0_1:Nat) (l0_1:List (S47)) (A0_2:Option Addr) (c0_2:Nat) (l0_2:List (S47)) (A0_3:Option Addr) (c0_3:Nat) (l0_3:List Int) (A0_4:Option Addr) (c0_4:Nat) (l0_4:List Int) (r1:List (List Int)) (r2:Bool) (w:World) (hr0_0:Kd.C k47 w A0_0 l0_0.length l0_0) (hc0_0:l0_0.length≤c0_0) (hr0_1:Kd.C k47 w A0_1 l0_1.length l0_1) (hc0_1:l0_1.length≤c0_1) (hr0_2:Kd.C k47 w A0_2 l0_2.length l0_2) (hc0_2:l0_2.length≤c0_2) (hr0_3:Kd.C (Kd.int .i64) w A0_3 l0_3.length l0_3) (hc0_3:l0_3.length≤c0_3) (hr0_4:Kd.C (Kd.int .i64) w A0_4 l0_4.length l0_4) (hc0_4:l0_4.length≤c0_4) (h:impl_WaitsFor.f k l0_0 l0_1 l0_2 l0_3 l0_4=some (r1,r2)) :
  Calls Try.prog 15 #[.agg #[.slice A0_0 l0_0.length c0_0,.slice A0_1 l0_1.length c0_1,.slice A0_2 l0_2.length c0_2,.slice A0_3 l0_3.length c0_3,.slice A0_4 l0_4.length c0_4]] w fun e w'=>∃ v0_:Value,e=.returned (.tuple #[v0_,.bool r2])∧Kd.S (Kd.slice 3 (Kd.int .i64)) 23 w' w.heap.size (fun _=>True) v0_ r1∧Below w.heap.size w w':=by
 have hu31:=Try.underlying31;have HR0_0:=qK hr0_0;have HC0_0:=qK hc0_0;clear hr0_0 hc0_0;have HR0_1:=qK hr0_1;have HC0_1:=qK hc0_1;clear hr0_1 hc0_1;have HR0_2:=qK hr0_2;have HC0_2:=qK hc0_2;clear hr0_2 hc0_2;have HR0_3:=qK hr0_3;have HC0_3:=qK hc0_3;clear hr0_3 hc0_3;have HR0_4:=qK hr0_4;have HC0_4:=qK hc0_4;clear hr0_4 hc0_4;have HB:=qK (Below.refl w.heap.size w);have H:((impl_GoodLocks.f k l0_0 l0_1 l0_2 l0_3 l0_4).bind fun t351=>(if t351=true then ((impl_waits.f l0_0 l0_1 l0_2 l0_3 l0_4).bind fun t352=>(impl_WaitsFor.l0 k ([]:List (List Int)) t352 0)) else (some (([]:List (List Int)),false))))=some (r1,r2):=h;clear h;replace H:=Option.bind_eq_some_iff.mp H;obtain ⟨t351,A20,H⟩:=H;replace H:(if t351=true then ((impl_waits.f l0_0 l0_1 l0_2 l0_3 l0_4).bind fun t352=>(impl_WaitsFor.l0 k ([]:List (List Int)) t352 0)) else (some (([]:List (List Int)),false)))=some (r1,r2):=H;have A2:=qK A20;clear A20;by_cases c3:t351=true
 ·subst c3;have H1:((impl_waits.f l0_0 l0_1 l0_2 l0_3 l0_4).bind fun t352=>(impl_WaitsFor.l0 k ([]:List (List Int)) t352 0))=some (r1,r2):=by rw [if_pos rfl] at H;exact H
  clear H;have H:=H1;clear H1;replace H:=Option.bind_eq_some_iff.mp H;obtain ⟨t352,A40,H⟩:=H;replace H:(impl_WaitsFor.l0 k ([]:List (List Int)) t352 0)=some (r1,r2):=H;have A4:=qK A40;clear A40;have H':=qK H;clear H;go_enter Try.func15,Try.ntmps15
  go_wp2_with (first|((with_reducible refine gate_dst (N:=1) rfl ?_);refine box_event ?hg (N:=1) ?hd (cs:=#[.slice A0_0 l0_0.length c0_0,.slice A0_1 l0_1.length c0_1,.slice A0_2 l0_2.length c0_2,.slice A0_3 l0_3.length c0_3,.slice A0_4 l0_4.length c0_4]) (t:=31) ?hr ?_;(case hd=>rfl);(case hg=>rfl);(case hr=>(go_simp;try rfl));intro gb350 hg w5 hbox hb;have n0_:=qK (qT (by repeat (with_reducible first|exact HB.out|apply qA|apply qD|apply qO)) hb);have n1_:=qK (hbox);have n2_:=qK ((by rw [hg];exact (qZ (by repeat (with_reducible first|exact HB.out|apply qA|apply qD|apply qO))):w.heap.size≤gb350));have n3_:=qK ((by rw [hg];exact (qZ (by repeat (with_reducible first|exact HB.out|apply qA|apply qD|apply qO))):w.heap.size≤gb350));clear HB;have HB:=n0_;have BK350:=n1_;have GW350:=n2_;have GE350:=n3_;clear n0_ n1_ n2_ n3_;clear hb hbox hg;have hcz6_0:w5.cell? ⟨gb350,0,none⟩=some (.slice A0_0 l0_0.length c0_0):=(qC BK350.out 0).trans rfl;have hcz6_1:w5.cell? ⟨gb350,1,none⟩=some (.slice A0_1 l0_1.length c0_1):=(qC BK350.out 1).trans rfl;have hcz6_2:w5.cell? ⟨gb350,2,none⟩=some (.slice A0_2 l0_2.length c0_2):=(qC BK350.out 2).trans rfl;have hcz6_3:w5.cell? ⟨gb350,3,none⟩=some (.slice A0_3 l0_3.length c0_3):=(qC BK350.out 3).trans rfl;have hcz6_4:w5.cell? ⟨gb350,4,none⟩=some (.slice A0_4 l0_4.length c0_4):=(qC BK350.out 4).trans rfl;have hfz6_0:=qF BK350.out 0;have hfz6_1:=qF BK350.out 1;have hfz6_2:=qF BK350.out 2;have hfz6_3:=qF BK350.out 3;have hfz6_4:=qF BK350.out 4)|((with_reducible refine gate_callee (f:=25) rfl ?_);refine goesL_ (some 8) rfl rfl Try.func25 (by kernel_rfl) rfl #[.agg #[.slice A0_0 l0_0.length c0_0,.slice A0_1 l0_1.length c0_1,.slice A0_2 l0_2.length c0_2,.slice A0_3 l0_3.length c0_3,.slice A0_4 l0_4.length c0_4]] rfl (by (try simp only [mT,mC,mN]);first|done|rfl|(simp only [lD,lT];rfl)) ?_;(with_reducible refine (impl_GoodLocks.calls k _ _ l0_0 _ _ l0_1 _ _ l0_2 _ _ l0_3 _ _ l0_4 true _ ?side1 ?side2 ?side3 ?side4 ?side5 ?side6 ?side7 ?side8 ?side9 ?side10 A2.out).mono ?_);(case side1=>repeat (first|exact (cB HR0_0.out HB.out)|(with_reducible first|refine cL ?_ _|refine cN ?_ _|refine cW ?_)));(case side2=>exact HC0_0.out);(case side3=>repeat (first|exact (cB HR0_1.out HB.out)|(with_reducible first|refine cL ?_ _|refine cN ?_ _|refine cW ?_)));(case side4=>exact HC0_1.out);(case side5=>repeat (first|exact (cB HR0_2.out HB.out)|(with_reducible first|refine cL ?_ _|refine cN ?_ _|refine cW ?_)));(case side6=>exact HC0_2.out);(case side7=>repeat (first|exact (cB HR0_3.out HB.out)|(with_reducible first|refine cL ?_ _|refine cN ?_ _|refine cW ?_)));(case side8=>exact HC0_3.out);(case side9=>repeat (first|exact (cB HR0_4.out HB.out)|(with_reducible first|refine cL ?_ _|refine cN ?_ _|refine cW ?_)));(case side10=>exact HC0_4.out);rintro e w7 ⟨rfl,hb⟩;refine ⟨_,rfl,?_⟩;have n0_:=qK (qB (g:=gb350) (o:=_) (by (with_reducible repeat (first|refine qN ?_ _|refine qW ?_|refine qL ?_ _));exact BK350.out) hb);have n1_:=qK (qT (by repeat (with_reducible first|exact HB.out|apply qA|apply qD|apply qO|refine qS ?_ GE350.out)) hb);clear BK350;clear HB;have BK350:=n0_;have HB:=n1_;clear n0_ n1_;(try clear hb);have hcz8_0:w7.cell? ⟨gb350,0,none⟩=some (.slice A0_0 l0_0.length c0_0):=(qC BK350.out 0).trans rfl;have hcz8_1:w7.cell? ⟨gb350,1,none⟩=some (.slice A0_1 l0_1.length c0_1):=(qC BK350.out 1).trans rfl;have hcz8_2:w7.cell? ⟨gb350,2,none⟩=some (.slice A0_2 l0_2.length c0_2):=(qC BK350.out 2).trans rfl;have hcz8_3:w7.cell? ⟨gb350,3,none⟩=some (.slice A0_3 l0_3.length c0_3):=(qC BK350.out 3).trans rfl;have hcz8_4:w7.cell? ⟨gb350,4,none⟩=some (.slice A0_4 l0_4.length c0_4):=(qC BK350.out 4).trans rfl;have hfz8_0:=qF BK350.out 0;have hfz8_1:=qF BK350.out 1;have hfz8_2:=qF BK350.out 2;have hfz8_3:=qF BK350.out 3;have hfz8_4:=qF BK350.out 4)|((with_reducible refine gate_callee (f:=34) rfl ?_);refine goesL_ (some 11) rfl rfl Try.func34 (by kernel_rfl) rfl #[.agg #[.slice A0_0 l0_0.length c0_0,.slice A0_1 l0_1.length c0_1,.slice A0_2 l0_2.length c0_2,.slice A0_3 l0_3.length c0_3,.slice A0_4 l0_4.length c0_4]] rfl (by (try simp only [mT,mC,mN]);first|done|rfl|(simp only [lD,lT];rfl)) ?_;(with_reducible refine (impl_waits.calls _ _ l0_0 _ _ l0_1 _ _ l0_2 _ _ l0_3 _ _ l0_4 t352 _ ?side1 ?side2 ?side3 ?side4 ?side5 ?side6 ?side7 ?side8 ?side9 ?side10 A4.out).mono ?_);(case side1=>repeat (first|exact (cB HR0_0.out HB.out)|(with_reducible first|refine cL ?_ _|refine cN ?_ _|refine cW ?_)));(case side2=>exact HC0_0.out);(case side3=>repeat (first|exact (cB HR0_1.out HB.out)|(with_reducible first|refine cL ?_ _|refine cN ?_ _|refine cW ?_)));(case side4=>exact HC0_1.out);(case side5=>repeat (first|exact (cB HR0_2.out HB.out)|(with_reducible first|refine cL ?_ _|refine cN ?_ _|refine cW ?_)));(case side6=>exact HC0_2.out);(case side7=>repeat (first|exact (cB HR0_3.out HB.out)|(with_reducible first|refine cL ?_ _|refine cN ?_ _|refine cW ?_)));(case side8=>exact HC0_3.out);(case side9=>repeat (first|exact (cB HR0_4.out HB.out)|(with_reducible first|refine cL ?_ _|refine cN ?_ _|refine cW ?_)));(case side10=>exact HC0_4.out);rintro e w9 ⟨rfl,hb⟩;refine ⟨_,rfl,?_⟩;have n0_:=qK (Kd.R_nil (Kd.int .i64) 3 w9 w.heap.size (fun _=>True));have n1_:=qK (qB (g:=gb350) (o:=_) (by (with_reducible repeat (first|refine qN ?_ _|refine qW ?_|refine qL ?_ _));exact BK350.out) hb);have n2_:=qK (qT (by repeat (with_reducible first|exact HB.out|apply qA|apply qD|apply qO|refine qS ?_ GE350.out)) hb);clear BK350;clear HB;have HO354:=n0_;have BK350:=n1_;have HB:=n2_;clear n0_ n1_ n2_;(try clear hb);skip))
  go_loopg [4,12] k (fun kq v4 v12 w'=>∃ (x4_1:List (List Int)) (x12_1:Int),v12=.int .i64 x12_1∧Aside0 (impl_WaitsFor.l0 kq x4_1 t352 x12_1=some (r1,r2))∧Aside0 (kq≤k)∧Aside0 (Kd.S (Kd.slice 3 (Kd.int .i64)) 23 w' w.heap.size (fun k_=>some k_ ≠ (.slice none 0 0:Value).ownBlock) v4 x4_1)∧Aside0 (Kd.R (Kd.int .i64) 3 w' w.heap.size (fun _=>True) (.slice none 0 0) [])∧Aside0 (w'.heap[gb350]?=some (.cells #[(.slice A0_0 l0_0.length c0_0),(.slice A0_1 l0_1.length c0_1),(.slice A0_2 l0_2.length c0_2),(.slice A0_3 l0_3.length c0_3),(.slice A0_4 l0_4.length c0_4)] 31 (0,0)))∧Aside0 (Below w.heap.size w w'))
  case atStart=>exact ⟨(([]:List (List Int))),(0),(by first|rfl|(simp;done)|(simp [*];done)),H',⟨Nat.le_refl _⟩,⟨by first|exact Kd.S_nil _ _ _ _ _|exact Kd.N_nil _ _ _ _ _|exact Kd.V_nil _ _ _ _ _|exact Kd.Q_nil _ _ _ _ _|exact Kd.R_nil _ _ _ _ _⟩,⟨by (with_reducible repeat (first|apply rL|apply rN|apply rW));exact HO354.out⟩,⟨by (with_reducible repeat (first|refine qN ?_ _|refine qW ?_|refine qL ?_ _));exact BK350.out⟩,⟨by repeat (first|(with_reducible first|exact HB.out|apply qA|apply qD|apply qO|refine qS ?_ GE350.out)|exact HB.out)⟩⟩
  case round =>
   clear H';try clear c1
   try clear c2
   try clear p2
   try clear c3
   try clear hcz6_0
   try clear hcz6_1
   try clear hcz6_2
   try clear hcz6_3
   try clear hcz6_4
   try clear hcz8_0
   try clear hcz8_1
   try clear hcz8_2
   try clear hcz8_3
   try clear hcz8_4
   try clear hfz6_0
   try clear hfz6_1
   try clear hfz6_2
   try clear hfz6_3
   try clear hfz6_4
   try clear hfz8_0
   try clear hfz8_1
   try clear hfz8_2
   try clear hfz8_3
   try clear hfz8_4
   obtain ⟨x4_1,x12_1,rfl,HA,HK1,HO_4,HO_11,BK350,HB⟩:=hrel;cases gk with
   | zero=>exact absurd HA.out (by simp [impl_WaitsFor.l0])
   | succ k1 =>
    have H:=HA.out;clear HA;simp only [impl_WaitsFor.l0] at H;by_cases c10:x12_1 < 6
    ·rw [if_pos c10] at H;have c10b0:decide (x12_1 < 6)=true:=decide_eq_true c10;clear c10;by_cases c11:0≤x12_1
     ·rw [if_pos c11] at H;have c11b0:decide (0≤x12_1)=true:=decide_eq_true c11;clear c11;by_cases c12:x12_1 < (t352.length:Int)
      ·rw [if_pos c12] at H;have c12b0:decide (x12_1 < (t352.length:Int))=true:=decide_eq_true c12;clear c12;replace H:=Option.bind_eq_some_iff.mp H;obtain ⟨t356,A130,H⟩:=H;replace H:(if x4_1.length < 5864062014805 then (impl_WaitsFor.l0 k1 (x4_1 ++ [t356]) t352 (wrap64 (x12_1 + 1))) else (none))=some (r1,r2):=H;have A13:=qK A130;clear A130;by_cases c14:x4_1.length < 5864062014805
       ·rw [if_pos c14] at H;have LMc14:=qK c14;clear c14;obtain ⟨y359,hy359⟩:∃ y_:List (List Int),y_=(x4_1 ++ [t356]):=⟨_,rfl⟩;replace H:(impl_WaitsFor.l0 k1 y359 t352 (wrap64 (x12_1 + 1)))=some (r1,r2):=by first|(rw [hy359];with_reducible exact H)|(have H2_:=(Option.bind_some _ _).symm.trans H;rw [hy359];with_reducible exact H2_)|(have H2_:=(Option.bind_some _ _).symm.trans H;with_reducible exact H2_)|with_reducible exact H|(rw [hy359];exact H)|exact H
        have Ny359:=qK hy359;clear hy359;have H':=qK H;clear H;have p355:0≤(x12_1:Int):=of_decide_eq_true (by first|(with_reducible assumption)|assumption);have q355:x12_1 < (t352.length:Int):=of_decide_eq_true (by first|(with_reducible assumption)|assumption);have hix_:=fun w_:World=>idxT t352 (impl_waits.len A4.out) x12_1 p355 (of_decide_eq_true c10b0) w_
        replace p355:=eq_true p355;replace q355:=eq_true q355;go_wp2_with (first|((with_reducible refine gate_callee (f:=35) rfl ?_);refine goesL_ (some 17) rfl rfl Try.func35 (by kernel_rfl) rfl #[.int .i64 (rd t352 x12_1)] rfl (by (try simp only [mT,mC,mN]);first|done|rfl|(simp only [lD,lT];rfl)) ?_;(with_reducible refine (impl_set_list.calls k1 (rd t352 x12_1) t356 _ A13.out).mono ?_);rintro e w16 ⟨v357,rfl,ho0,hb⟩;refine ⟨_,rfl,?_⟩;have n0_:=qK (Kd.S_elder' (by (with_reducible repeat (first|apply Kd.S_alloc|apply Kd.S_drewN|apply Kd.S_drew));exact HO_4.out) (Kd.R_base ho0) hb);have n1_:=qK (Kd.R_elder' (by (with_reducible repeat (first|apply rL|apply rN|apply rW));exact HO_11.out) (Kd.R_base ho0) hb);have n2_:=qK (Kd.R_lower (Kd.R_new' ho0 (Kd.R_lt (by (with_reducible repeat (first|apply rL|apply rN|apply rW));exact HO_11.out))) (qZ (by repeat (with_reducible first|exact HB.out|apply qA|apply qD|apply qO|refine qS ?_ GE350.out))));have n3_:=qK (qB (g:=gb350) (o:=_) (by (with_reducible repeat (first|refine qN ?_ _|refine qW ?_|refine qL ?_ _));exact BK350.out) hb);have n4_:=qK (qT (by repeat (with_reducible first|exact HB.out|apply qA|apply qD|apply qO|refine qS ?_ GE350.out)) hb);clear HO_4;clear HO_11;clear BK350;clear HB;have HO_4:=n0_;have HO_11:=n1_;have HO358:=n2_;have BK350:=n3_;have HB:=n4_;clear n0_ n1_ n2_ n3_ n4_;(try clear hb);(try clear ho0);obtain ⟨Ao18,co18,eo18⟩:=Kd.R_slice HO358.out;subst eo18)|((with_reducible refine gate_builtin (b:=.append) (xs:=#[.tmp 15,.tmp 18]) rfl ?_);at_builtin;refine Kd.S_append (Kd.slice 3 (Kd.int .i64)) (w0:=w) w.heap.size rfl (.tmp 15) (.tmp 18) 38 23 (.slice none 0 0) 24 rfl Try.underlying38 info23 rfl (by decide) (by omega) u4 x4_1 t356 [.slice Ao18 t356.length co18] (fun k_=>some k_ ≠ (.slice none 0 0:Value).ownBlock) (fun k_=>some k_=(.slice Ao18 t356.length co18:Value).ownBlock) rfl rfl ?aP (fun k_ hk_=>((Kd.R_mono (ok':=fun k_=>((fun k_=>some k_ ≠ (.slice none 0 0:Value).ownBlock)) k_∧some k_ ≠ (u4:Value).ownBlock) (Kd.R_apart' (HO358.out) (Kd.S_typed HO_4.out) (by decide)) (fun k_ hk=>⟨hk.1.2,hk.2⟩))).1 k_ hk_.symm) ?aF ?aO ?aB ?aS ?aL ?_;(case aP=>exact Kd.M_row (Kd.R_mono (Kd.R_tight rfl (Kd.R_mono (ok':=fun k_=>((fun k_=>some k_ ≠ (.slice none 0 0:Value).ownBlock)) k_∧some k_ ≠ (u4:Value).ownBlock) (Kd.R_apart' (HO358.out) (Kd.S_typed HO_4.out) (by decide)) (fun k_ hk=>⟨hk.1.2,hk.2⟩))) (fun _ h_=>h_)));(case aB=>exact (by repeat (with_reducible first|exact HB.out|apply qA|apply qD|apply qO|refine qS ?_ GE350.out)));(case aF=>exact (fun k_ hk=>Kd.fresh' (Kd.R_lt (by (with_reducible repeat (first|apply rL|apply rN|apply rW));exact HO_11.out)) k_ hk));(case aO=>exact (by (with_reducible repeat (first|apply Kd.S_alloc|apply Kd.S_drewN|apply Kd.S_drew));exact Kd.S_mono HO_4.out (fun k_ hk=>⟨hk.1,fun e_=>hk.2 e_⟩)));(case aS=>exact (qZ (by repeat (with_reducible first|exact HB.out|apply qA|apply qD|apply qO|refine qS ?_ GE350.out))));(case aL=>have:=LMc14.out;omega);intro v360 w17 ho hb hg hat;rw [← Ny359.out] at ho;have n0_:=qK (Kd.R_over' (by (with_reducible repeat (first|apply rL|apply rN|apply rW));exact HO_11.out) (Kd.S_typed (by (with_reducible repeat (first|apply Kd.S_alloc|apply Kd.S_drewN|apply Kd.S_drew));exact HO_4.out)) (by decide) hg);have n1_:=qK (blk_grown (g:=gb350) (o:=_) (by (with_reducible repeat (first|refine qN ?_ _|refine qW ?_|refine qL ?_ _));exact BK350.out) hg (Kd.S_ne HO_4.out BK350.out (by decide)));have n2_:=qK (hb);have n3_:=qK (ho);clear HO_11;clear BK350;clear HB;clear HO_4;clear HO358;have HO_11:=n0_;have BK350:=n1_;have HB:=n2_;have HO361:=n3_;clear n0_ n1_ n2_ n3_;clear ho hb hg hat))
        go_roundg k1
        case measure=>have:=HK1.out;omega
        case rel=>exact ⟨(y359),(wrap64 (x12_1 + 1)),(by first|rfl|(simp;done)|(simp [*];done)),H',⟨by have:=HK1.out;omega⟩,⟨by (with_reducible repeat (first|apply Kd.S_alloc|apply Kd.S_drewN|apply Kd.S_drew));exact HO361.out⟩,⟨by (with_reducible repeat (first|apply rL|apply rN|apply rW));exact Kd.R_mono HO_11.out (fun _ hk=>trivial)⟩,⟨by (with_reducible repeat (first|refine qN ?_ _|refine qW ?_|refine qL ?_ _));exact BK350.out⟩,⟨by repeat (first|(with_reducible first|exact HB.out|apply qA|apply qD|apply qO|refine qS ?_ GE350.out)|exact HB.out)⟩⟩
       ·rw [if_neg c14] at H;exact absurd H (by simp)
      ·rw [if_neg c12] at H;exact absurd H (by simp)
     ·rw [if_neg c11] at H;exact absurd H (by simp)
    ·rw [if_neg c10] at H;have c10b0:decide (x12_1 < 6)=false:=decide_eq_false c10;clear c10;simp only [Option.some.injEq,Prod.mk.injEq] at H;obtain ⟨rfl,rfl⟩:=H;go_wp2
     go_ret2
     exact ⟨_,by first|rfl|(simp [errW_none,errW_some] <;> rfl)|(simp [*,errW_none,errW_some] <;> rfl),by (with_reducible repeat (first|apply Kd.S_alloc|apply Kd.S_drewN|apply Kd.S_drew));exact Kd.S_mono HO_4.out (fun _ hk=>trivial),by repeat (first|(with_reducible first|exact HB.out|apply qA|apply qD|apply qO|refine qS ?_ GE350.out)|exact HB.out)⟩
 ·replace c3:=Bool.eq_false_iff.mpr c3;subst c3;have H1:(some (([]:List (List Int)),false))=some (r1,r2):=by rw [if_neg (show ¬ (false=true) by decide)] at H;exact H
  clear H;have H:=H1;clear H1;simp only [Option.some.injEq,Prod.mk.injEq] at H;obtain ⟨rfl,rfl⟩:=H;go_enter Try.func15,Try.ntmps15
  go_wp2_with (first|((with_reducible refine gate_dst (N:=1) rfl ?_);refine box_event ?hg (N:=1) ?hd (cs:=#[.slice A0_0 l0_0.length c0_0,.slice A0_1 l0_1.length c0_1,.slice A0_2 l0_2.length c0_2,.slice A0_3 l0_3.length c0_3,.slice A0_4 l0_4.length c0_4]) (t:=31) ?hr ?_;(case hd=>rfl);(case hg=>rfl);(case hr=>(go_simp;try rfl));intro gb350 hg w19 hbox hb;have n0_:=qK (qT (by repeat (with_reducible first|exact HB.out|apply qA|apply qD|apply qO)) hb);have n1_:=qK (hbox);have n2_:=qK ((by rw [hg];exact (qZ (by repeat (with_reducible first|exact HB.out|apply qA|apply qD|apply qO))):w.heap.size≤gb350));have n3_:=qK ((by rw [hg];exact (qZ (by repeat (with_reducible first|exact HB.out|apply qA|apply qD|apply qO))):w.heap.size≤gb350));clear HB;have HB:=n0_;have BK350:=n1_;have GW350:=n2_;have GE350:=n3_;clear n0_ n1_ n2_ n3_;clear hb hbox hg;have hcz20_0:w19.cell? ⟨gb350,0,none⟩=some (.slice A0_0 l0_0.length c0_0):=(qC BK350.out 0).trans rfl;have hcz20_1:w19.cell? ⟨gb350,1,none⟩=some (.slice A0_1 l0_1.length c0_1):=(qC BK350.out 1).trans rfl;have hcz20_2:w19.cell? ⟨gb350,2,none⟩=some (.slice A0_2 l0_2.length c0_2):=(qC BK350.out 2).trans rfl;have hcz20_3:w19.cell? ⟨gb350,3,none⟩=some (.slice A0_3 l0_3.length c0_3):=(qC BK350.out 3).trans rfl;have hcz20_4:w19.cell? ⟨gb350,4,none⟩=some (.slice A0_4 l0_4.length c0_4):=(qC BK350.out 4).trans rfl;have hfz20_0:=qF BK350.out 0;have hfz20_1:=qF BK350.out 1;have hfz20_2:=qF BK350.out 2;have hfz20_3:=qF BK350.out 3;have hfz20_4:=qF BK350.out 4)|((with_reducible refine gate_callee (f:=25) rfl ?_);refine goesL_ (some 8) rfl rfl Try.func25 (by kernel_rfl) rfl #[.agg #[.slice A0_0 l0_0.length c0_0,.slice A0_1 l0_1.length c0_1,.slice A0_2 l0_2.length c0_2,.slice A0_3 l0_3.length c0_3,.slice A0_4 l0_4.length c0_4]] rfl (by (try simp only [mT,mC,mN]);first|done|rfl|(simp only [lD,lT];rfl)) ?_;(with_reducible refine (impl_GoodLocks.calls k _ _ l0_0 _ _ l0_1 _ _ l0_2 _ _ l0_3 _ _ l0_4 false _ ?side1 ?side2 ?side3 ?side4 ?side5 ?side6 ?side7 ?side8 ?side9 ?side10 A2.out).mono ?_);(case side1=>repeat (first|exact (cB HR0_0.out HB.out)|(with_reducible first|refine cL ?_ _|refine cN ?_ _|refine cW ?_)));(case side2=>exact HC0_0.out);(case side3=>repeat (first|exact (cB HR0_1.out HB.out)|(with_reducible first|refine cL ?_ _|refine cN ?_ _|refine cW ?_)));(case side4=>exact HC0_1.out);(case side5=>repeat (first|exact (cB HR0_2.out HB.out)|(with_reducible first|refine cL ?_ _|refine cN ?_ _|refine cW ?_)));(case side6=>exact HC0_2.out);(case side7=>repeat (first|exact (cB HR0_3.out HB.out)|(with_reducible first|refine cL ?_ _|refine cN ?_ _|refine cW ?_)));(case side8=>exact HC0_3.out);(case side9=>repeat (first|exact (cB HR0_4.out HB.out)|(with_reducible first|refine cL ?_ _|refine cN ?_ _|refine cW ?_)));(case side10=>exact HC0_4.out);rintro e w21 ⟨rfl,hb⟩;refine ⟨_,rfl,?_⟩;have n0_:=qK (qB (g:=gb350) (o:=_) (by (with_reducible repeat (first|refine qN ?_ _|refine qW ?_|refine qL ?_ _));exact BK350.out) hb);have n1_:=qK (qT (by repeat (with_reducible first|exact HB.out|apply qA|apply qD|apply qO|refine qS ?_ GE350.out)) hb);clear BK350;clear HB;have BK350:=n0_;have HB:=n1_;clear n0_ n1_;(try clear hb)))
  go_ret2
  exact ⟨_,by first|rfl|(simp [errW_none,errW_some] <;> rfl)|(simp [*,errW_none,errW_some] <;> rfl),by first|exact Kd.S_nil _ _ _ _ _|exact Kd.N_nil _ _ _ _ _|exact Kd.V_nil _ _ _ _ _|exact Kd.Q_nil _ _ _ _ _|exact Kd.R_nil _ _ _ _ _,by repeat (first|(with_reducible first|exact HB.out|apply qA|apply qD|apply qO|refine qS ?_ GE350.out)|exact HB.out)⟩

/-! ### laws_eqIntSS: function 16 -/
def laws_eqIntSS.l0 : Nat→List (List Int)→List (List Int)→Int→Option (Bool)
 | 0,_,_,_=>none
 | k + 1,x0,x1,x5=>if x5 < (x0.length:Int) then (if 0≤x5 then (if x5 < (x1.length:Int) then ((laws_eqIntS.f k (rd_L3 x0 x5) (rd_L3 x1 x5)).bind fun t364=>(if t364=true then (laws_eqIntSS.l0 k x0 x1 (wrap64 (x5 + 1))) else (none))) else (none)) else (none)) else (some true)
def laws_eqIntSS.f (k:Nat) (l0:List (List Int)) (l1:List (List Int)):Option (Bool):=if (l0.length:Int)=(l1.length:Int) then (laws_eqIntSS.l0 k l0 l1 0) else (none)
theorem laws_eqIntSS.mono_l : ∀ k,(∀ y0 y1 y2,LeO (laws_eqIntSS.l0 k y0 y1 y2) (laws_eqIntSS.l0 (k + 1) y0 y1 y2))
 | 0=>fun _ _ _ r h=>by simp [laws_eqIntSS.l0] at h
 | k + 1=>by
  have ih0:=laws_eqIntSS.mono_l k
  ·intro y0 y1 y2;unfold laws_eqIntSS.l0
   repeat' first
   | (with_reducible exact ih0 _ _ _)
   | (with_reducible exact laws_eqIntS.mono _ _ _)
   | (with_reducible exact LeO.refl _)
   | (with_reducible exact LeO.none _)
   | (with_reducible refine LeO.ite ?_ ?_)
   | (with_reducible refine LeO.bind ?_ (fun _=>?_))
   | exact ih0 _ _ _
   | exact laws_eqIntS.mono _ _ _
   | exact LeO.none _
   | refine LeO.ite ?_ ?_
   | refine LeO.bind ?_ (fun _=>?_)
theorem laws_eqIntSS.mono : ∀ a0 a1 k,LeO (laws_eqIntSS.f k a0 a1) (laws_eqIntSS.f (k + 1) a0 a1):=by
 intro a0 a1 k;have ih0:=laws_eqIntSS.mono_l k;unfold laws_eqIntSS.f
 repeat' first
   | (with_reducible exact ih0 _ _ _)
   | (with_reducible exact laws_eqIntS.mono _ _ _)
   | (with_reducible exact LeO.refl _)
   | (with_reducible exact LeO.none _)
   | (with_reducible refine LeO.ite ?_ ?_)
   | (with_reducible refine LeO.bind ?_ (fun _=>?_))
   | exact ih0 _ _ _
   | exact laws_eqIntS.mono _ _ _
   | exact LeO.none _
   | refine LeO.ite ?_ ?_
   | refine LeO.bind ?_ (fun _=>?_)
set_option maxHeartbeats 8000000 in
set_option maxRecDepth 100000 in
theorem laws_eqIntSS.calls (k:Nat) (A0:Option Addr) (c0:Nat) (l0:List (List Int)) (A1:Option Addr) (c1:Nat) (l1:List (List Int)) (r:Bool) (w:World) (hr0:Kd.C (Kd.slice 3 (Kd.int .i64)) w A0 l0.length l0) (hc0:l0.length≤c0) (hr1:Kd.C (Kd.slice 3 (Kd.int .i64)) w A1 l1.length l1) (hc1:l1.length≤c1) (h:laws_eqIntSS.f k l0 l1=some r) :
  Calls Try.prog 16 #[.slice A0 l0.length c0,.slice A1 l1.length c1] w fun e w'=>e=.returned (.bool r)∧Drawn0 w w':=by
 have HR0:=qK hr0;have HC0:=qK hc0;clear hr0 hc0;have HR1:=qK hr1;have HC1:=qK hc1;clear hr1 hc1;have H:(if (l0.length:Int)=(l1.length:Int) then (laws_eqIntSS.l0 k l0 l1 0) else (none))=some r:=h;clear h;by_cases c3:(l0.length:Int)=(l1.length:Int)
 ·rw [if_pos c3] at H;have c3b0:((l0.length:Int) == (l1.length:Int))=true:=beq_iff_eq.mpr c3;have c3b1:((l0.length:Int) != (l1.length:Int))=false:=bne_eq_false_iff_eq.mpr c3;have c3b2:(l0.length == l1.length)=true:=by first|simpa using c3|(simp at c3 ⊢;omega)
  clear c3;have H':=qK H;clear H;go_enter Try.func16,Try.ntmps16
  go_wp2
  repeat (go_quiet (fail);try go_wp2)
  go_loopg [5] k (fun kq v5 w'=>∃ (x5_1:Int),v5=.int .i64 x5_1∧Aside0 (laws_eqIntSS.l0 kq l0 l1 x5_1=some r)∧Aside0 (kq≤k)∧Drawn0 w w')
  case atStart=>exact ⟨(0),(by first|rfl|(simp;done)|(simp [*];done)),H',⟨Nat.le_refl _⟩,by repeat (first|exact Drawn0.refl _|apply Drawn0.step)⟩
  case round =>
   clear H';try clear c1
   try clear p2
   try clear c3
   try clear c3b0
   try clear c3b1
   try clear c3b2
   obtain ⟨x5_1,rfl,HA,HK1,⟨m1,rfl⟩⟩:=hrel;cases gk with
   | zero=>exact absurd HA.out (by simp [laws_eqIntSS.l0])
   | succ k1 =>
    have H:=HA.out;clear HA;simp only [laws_eqIntSS.l0] at H;by_cases c4:x5_1 < (l0.length:Int)
    ·rw [if_pos c4] at H;have c4b0:decide (x5_1 < (l0.length:Int))=true:=decide_eq_true c4;clear c4;by_cases c5:0≤x5_1
     ·rw [if_pos c5] at H;have c5b0:decide (0≤x5_1)=true:=decide_eq_true c5;clear c5;by_cases c6:x5_1 < (l1.length:Int)
      ·rw [if_pos c6] at H;have c6b0:decide (x5_1 < (l1.length:Int))=true:=decide_eq_true c6;clear c6;replace H:=Option.bind_eq_some_iff.mp H;obtain ⟨t364,A70,H⟩:=H;replace H:(if t364=true then (laws_eqIntSS.l0 k1 l0 l1 (wrap64 (x5_1 + 1))) else (none))=some r:=H;have A7:=qK A70;clear A70;by_cases c8:t364=true
       ·subst c8;have H1:(laws_eqIntSS.l0 k1 l0 l1 (wrap64 (x5_1 + 1)))=some r:=by rw [if_pos rfl] at H;exact H
        clear H;have H:=H1;clear H1;have H':=qK H;clear H;have p362:0≤(x5_1:Int):=of_decide_eq_true (by first|(with_reducible assumption)|assumption);have q362:x5_1 < (l0.length:Int):=of_decide_eq_true (by first|(with_reducible assumption)|assumption);obtain ⟨ad362,A362_0,c362_0,e362,hx362_0,hl362_0,hi362_0⟩:=at_L3 HR0.out x5_1 p362 q362;cases e362
        have HR362_0:=qK hi362_0;have HC362_0:=qK hl362_0;clear hi362_0 hl362_0;replace p362:=eq_true p362;replace q362:=eq_true q362;have p363:0≤(x5_1:Int):=of_decide_eq_true (by first|(with_reducible assumption)|assumption);have q363:x5_1 < (l1.length:Int):=of_decide_eq_true (by first|(with_reducible assumption)|assumption);obtain ⟨ad363,A363_0,c363_0,e363,hx363_0,hl363_0,hi363_0⟩:=at_L3 HR1.out x5_1 p363 q363;cases e363
        have HR363_0:=qK hi363_0;have HC363_0:=qK hl363_0;clear hi363_0 hl363_0;replace p363:=eq_true p363;replace q363:=eq_true q363;go_wp2_with (first|(go_at_call 31;(with_reducible refine (laws_eqIntS.calls k1 _ _ (rd_L3 l0 x5_1) _ _ (rd_L3 l1 x5_1) true _ ?side1 ?side2 ?side3 ?side4 A7.out).mono ?_);(case side1=>repeat (first|exact HR362_0.out|(with_reducible first|refine cL ?_ _|refine cN ?_ _|refine cW ?_)));(case side2=>exact HC362_0.out);(case side3=>repeat (first|exact HR363_0.out|(with_reducible first|refine cL ?_ _|refine cN ?_ _|refine cW ?_)));(case side4=>exact HC363_0.out);rintro e w' ⟨rfl,⟨nd,rfl⟩⟩;(try first|exact ⟨rfl,_,World.drewN_drewN _ _ _⟩|exact ⟨rfl,_,Eq.trans (World.drewN_drewN _ _ _) (congrArg (World.drewN _) (Nat.add_assoc _ _ _))⟩)))
        repeat (go_quiet (first|(go_at_call 31;(with_reducible refine (laws_eqIntS.calls k1 _ _ (rd_L3 l0 x5_1) _ _ (rd_L3 l1 x5_1) true _ ?side1 ?side2 ?side3 ?side4 A7.out).mono ?_);(case side1=>repeat (first|exact HR362_0.out|(with_reducible first|refine cL ?_ _|refine cN ?_ _|refine cW ?_)));(case side2=>exact HC362_0.out);(case side3=>repeat (first|exact HR363_0.out|(with_reducible first|refine cL ?_ _|refine cN ?_ _|refine cW ?_)));(case side4=>exact HC363_0.out);rintro e w' ⟨rfl,⟨nd,rfl⟩⟩;(try first|exact ⟨rfl,_,World.drewN_drewN _ _ _⟩|exact ⟨rfl,_,Eq.trans (World.drewN_drewN _ _ _) (congrArg (World.drewN _) (Nat.add_assoc _ _ _))⟩)));try go_wp2_with (first|(go_at_call 31;(with_reducible refine (laws_eqIntS.calls k1 _ _ (rd_L3 l0 x5_1) _ _ (rd_L3 l1 x5_1) true _ ?side1 ?side2 ?side3 ?side4 A7.out).mono ?_);(case side1=>repeat (first|exact HR362_0.out|(with_reducible first|refine cL ?_ _|refine cN ?_ _|refine cW ?_)));(case side2=>exact HC362_0.out);(case side3=>repeat (first|exact HR363_0.out|(with_reducible first|refine cL ?_ _|refine cN ?_ _|refine cW ?_)));(case side4=>exact HC363_0.out);rintro e w' ⟨rfl,⟨nd,rfl⟩⟩;(try first|exact ⟨rfl,_,World.drewN_drewN _ _ _⟩|exact ⟨rfl,_,Eq.trans (World.drewN_drewN _ _ _) (congrArg (World.drewN _) (Nat.add_assoc _ _ _))⟩))))
        go_roundg k1
        case measure=>have:=HK1.out;omega
        case rel=>exact ⟨(wrap64 (x5_1 + 1)),(by first|rfl|(simp;done)|(simp [*];done)),H',⟨by have:=HK1.out;omega⟩,by repeat (first|exact Drawn0.refl _|apply Drawn0.step)⟩
       ·replace c8:=Bool.eq_false_iff.mpr c8;subst c8;have H1:(none)=some r:=by rw [if_neg (show ¬ (false=true) by decide)] at H;exact H
        clear H;have H:=H1;clear H1;exact absurd H (by simp)
      ·rw [if_neg c6] at H;exact absurd H (by simp)
     ·rw [if_neg c5] at H;exact absurd H (by simp)
    ·rw [if_neg c4] at H;have c4b0:decide (x5_1 < (l0.length:Int))=false:=decide_eq_false c4;clear c4;obtain rfl:=Option.some.inj H;go_wp2
     repeat (go_quiet (fail);try go_wp2)
     go_ret
     exact ⟨by first|rfl|(simp;done)|(simp [*];done),by repeat (first|exact Drawn0.refl _|apply Drawn0.step)⟩
 ·rw [if_neg c3] at H;exact absurd H (by simp)

/-! ### laws_markIntSS: function 17 -/
def laws_markIntSS.l0 : Nat → List (List Int) → Int → Int → Option (Int × List (List Int))
  | 0, _, _, _ => none
  | k + 1, x0, x1, x5 => if x5 < (x0.length : Int) then (if 0 ≤ x5 then ((laws_markIntS.f k (rdLL x0 x5) x1).bind fun m0 => laws_markIntSS.l0 k (x0.set (x5 : Int).toNat m0.2) m0.1 (wrap64 (x5 + 1))) else none) else some (x1, x0)
def laws_markIntSS.f (k : Nat) (l0 : List (List Int)) (a1 : Int) : Option (Int × List (List Int)) := laws_markIntSS.l0 k l0 a1 0
theorem laws_markIntSS.mono_l : ∀ k y0 y1 y2, LeO (laws_markIntSS.l0 k y0 y1 y2) (laws_markIntSS.l0 (k + 1) y0 y1 y2)
  | 0 => fun _ _ _ r h => by simp [laws_markIntSS.l0] at h
  | k + 1 => by
    intro y0 y1 y2
    unfold laws_markIntSS.l0
    exact LeO.ite (LeO.ite (LeO.bind (laws_markIntS.mono _ _ _) fun _ => laws_markIntSS.mono_l k _ _ _) (LeO.none _)) (LeO.refl _)
theorem laws_markIntSS.mono : ∀ a0 a1 k, LeO (laws_markIntSS.f k a0 a1) (laws_markIntSS.f (k + 1) a0 a1) := fun a0 a1 k => laws_markIntSS.mono_l k _ _ _
set_option maxHeartbeats 8000000 in
set_option maxRecDepth 100000 in
theorem laws_markIntSS.calls (k : Nat) (P0_ : Nat → Prop) (u9000_ : Value) (l0 : List (List Int)) (a1 : Int) (r1 : Int) (r2 : List (List Int)) (w0 w : World) (hB : Below w0.heap.size w0 w) (ho0 : Kd.S (Kd.slice 3 (Kd.int .i64)) 23 w w0.heap.size P0_ u9000_ l0) (h : laws_markIntSS.f k l0 a1 = some (r1, r2)) :
    Calls Try.prog 17 #[u9000_, .int .i64 a1] w fun e w' => e = .returned (.int .i64 r1) ∧ Kd.S (Kd.slice 3 (Kd.int .i64)) 23 w' w0.heap.size P0_ u9000_ r2 ∧ Below w0.heap.size w0 w' ∧ Kept w w' P0_ := by
  have HO_0 := Aside0.mk ho0
  have HK := Aside0.mk (Kept.refl w P0_)
  have HB := Aside0.mk hB
  clear hB ho0
  have H' := Aside0.mk (show laws_markIntSS.l0 k l0 a1 0 = some (r1, r2) from h)
  clear h
  go_enter Try.func17, Try.ntmps17
  go_wp2
  go_loopg [1, 5] k (fun kq v1 v5 w' => ∃ (x0_1 : List (List Int)) (x1_1 : Int) (x5_1 : Int), v1 = .int .i64 x1_1 ∧ v5 = .int .i64 x5_1 ∧ Aside0 (laws_markIntSS.l0 kq x0_1 x1_1 x5_1 = some (r1, r2)) ∧ Aside0 (kq ≤ k) ∧ Aside0 (Kd.S (Kd.slice 3 (Kd.int .i64)) 23 w' w0.heap.size P0_ u9000_ x0_1) ∧ Aside0 (Kept w w' P0_) ∧ Aside0 (Below w0.heap.size w0 w'))
  case atStart => exact ⟨l0, a1, 0, rfl, rfl, H', ⟨Nat.le_refl _⟩, HO_0, HK, HB⟩
  case round =>
    clear H' HO_0 HK HB
    obtain ⟨x0_1, x1_1, x5_1, rfl, rfl, HA, HK1, HO_0, HK, HB⟩ := hrel
    cases gk with
    | zero => exact absurd HA.out (by simp [laws_markIntSS.l0])
    | succ k1 =>
      have H := HA.out
      clear HA
      simp only [laws_markIntSS.l0] at H
      by_cases c3 : x5_1 < (x0_1.length : Int)
      · rw [if_pos c3] at H
        have c3b0 : decide (x5_1 < (x0_1.length : Int)) = true := decide_eq_true c3
        by_cases c4 : 0 ≤ x5_1
        · rw [if_pos c4] at H
          have c4b0 : decide (0 ≤ x5_1) = true := decide_eq_true c4
          have p5 := c4
          have q5 := c3
          clear c3 c4
          have L0 : x0_1.length = x0_1.length := rfl
          obtain ⟨Ao6, co6, eo6⟩ := Kd.S_slice HO_0.out
          subst eo6
          obtain ⟨go5, co5, eo5, gb5, gl5, cl5, HG5⟩ := Kd.S_form HO_0.out (by omega)
          (first | cases eo5 | (injection eo5 with ea_ en_ ec_; (first | subst ea_ | (injection ea_ with ea_; subst ea_)); subst ec_; clear en_))
          have GB5 := Aside0.mk gb5
          clear gb5 gl5 HG5 cl5
          obtain ⟨oki0, cs0, hcl0, hM0, hcc0, hfr0, hoki0, hH0⟩ := Kd.S_elem HO_0.out ([] : List Int) x5_1 p5 q5
          replace hM0 : (Kd.slice 3 (Kd.int .i64)).M wr w0.heap.size oki0 (rdLL x0_1 x5_1) cs0 := hM0
          obtain ⟨v0, rfl, g0⟩ := hM0
          have HI0 := Aside0.mk hoki0
          have HG0 := Aside0.mk g0
          have HH0 := Aside0.mk hH0
          have hx0_ : wr.cell? ⟨go5, x5_1.toNat, none⟩ = some v0 := by have h_ := hcc0 0 _ rfl; rwa [show (Kd.slice 3 (Kd.int .i64)).sz = 1 from rfl, Nat.mul_one, Nat.add_zero] at h_
          clear hcl0 hcc0 hfr0 hoki0 g0 hH0
          skip
          obtain ⟨⟨m0, z0⟩, A0, H⟩ := Option.bind_eq_some_iff.1 H
          have B0 := Aside0.mk (show laws_markIntS.f k1 (rdLL x0_1 x5_1) x1_1 = some (m0, z0) from A0)
          have H0' := Aside0.mk H
          clear H A0
          replace p5 := eq_true p5
          replace q5 := eq_true q5
          obtain ⟨Av0, cv0, ev0⟩ := Kd.R_slice HG0.out
          subst ev0
          go_upto_region 3 with (go_at_call 32; refine (laws_markIntS.calls k1 oki0 _ _ x1_1 m0 z0 w0 _ HB.out HG0.out B0.out).mono ?_; rintro e w0_ ⟨rfl, hr, hb, hk⟩)
          have HB0 := Aside0.mk hb
          have HR0 := Aside0.mk (R_again rfl HG0.out hr)
          have HHn0 := Kd.H_kept HH0.out hk (fun k_ _ hn_ h0_ => hn_ h0_)
          have HKq0 := Aside0.mk (HK.out.then_ hk (fun k_ h0_ => .inl (HI0.out k_ h0_).1))
          have ez0 : (rdLL x0_1 x5_1).length = z0.length := (Kd.R_reads' HR0.out).1
          have HO0 := Aside0.mk (Kd.H_back HHn0 (x' := z0) (okp := oki0) ⟨_, rfl, HR0.out⟩ (fun _ hk_ => hk_))
          clear hr hb hk hx0_ HHn0 HR0 HH0 HG0 HI0 ez0 HO_0 HK HB
          go_wp2
          go_roundg k1
          case measure => have := HK1.out; omega
          case rel => exact ⟨_, m0, _, rfl, rfl, H0', ⟨by have := HK1.out; omega⟩, HO0, HKq0, HB0⟩
        · rw [if_neg c4] at H
          exact absurd H (by simp)
      · rw [if_neg c3] at H
        have c3b0 : decide (x5_1 < (x0_1.length : Int)) = false := decide_eq_false c3
        simp only [Option.some.injEq, Prod.mk.injEq] at H
        obtain ⟨rfl, rfl⟩ := H
        obtain ⟨Ao9, co9, eo9⟩ := Kd.S_slice HO_0.out
        subst eo9
        go_wp2
        go_ret
        exact ⟨rfl, HO_0.out, HB.out, HK.out⟩

/-! ### laws_heldIntS: function 36 -/
def laws_heldIntS.l0 : Nat→List Int→Int→Int→Option (Int)
 | 0,_,_,_=>none
 | k + 1,x0,x1,x5=>if x5 < (x0.length:Int) then (if 0≤x5 then (if (rd x0 x5)=x1 then (laws_heldIntS.l0 k x0 (wrap64 (x1 + 1)) (wrap64 (x5 + 1))) else (none)) else (none)) else (some x1)
def laws_heldIntS.f (k:Nat) (l0:List Int) (a1:Int):Option (Int):=laws_heldIntS.l0 k l0 a1 0
theorem laws_heldIntS.mono_l : ∀ k,(∀ y0 y1 y2,LeO (laws_heldIntS.l0 k y0 y1 y2) (laws_heldIntS.l0 (k + 1) y0 y1 y2))
 | 0=>fun _ _ _ r h=>by simp [laws_heldIntS.l0] at h
 | k + 1=>by
  have ih0:=laws_heldIntS.mono_l k
  ·intro y0 y1 y2;unfold laws_heldIntS.l0
   repeat' first
   | (with_reducible exact ih0 _ _ _)
   | (with_reducible exact LeO.refl _)
   | (with_reducible exact LeO.none _)
   | (with_reducible refine LeO.ite ?_ ?_)
   | (with_reducible refine LeO.bind ?_ (fun _=>?_))
   | exact ih0 _ _ _
   | exact LeO.none _
   | refine LeO.ite ?_ ?_
   | refine LeO.bind ?_ (fun _=>?_)
theorem laws_heldIntS.mono : ∀ a0 a1 k,LeO (laws_heldIntS.f k a0 a1) (laws_heldIntS.f (k + 1) a0 a1):=by
 intro a0 a1 k;have ih0:=laws_heldIntS.mono_l k;unfold laws_heldIntS.f
 repeat' first
   | (with_reducible exact ih0 _ _ _)
   | (with_reducible exact LeO.refl _)
   | (with_reducible exact LeO.none _)
   | (with_reducible refine LeO.ite ?_ ?_)
   | (with_reducible refine LeO.bind ?_ (fun _=>?_))
   | exact ih0 _ _ _
   | exact LeO.none _
   | refine LeO.ite ?_ ?_
   | refine LeO.bind ?_ (fun _=>?_)
set_option maxHeartbeats 8000000 in
set_option maxRecDepth 100000 in
theorem laws_heldIntS.calls (k:Nat) (A0:Option Addr) (c0:Nat) (l0:List Int) (a1:Int) (r:Int) (w:World) (hr0:Kd.C (Kd.int .i64) w A0 l0.length l0) (hc0:l0.length≤c0) (h:laws_heldIntS.f k l0 a1=some r) :
  Calls Try.prog 36 #[.slice A0 l0.length c0,.int .i64 a1] w fun e w'=>e=.returned (.int .i64 r)∧Drawn0 w w':=by
 have HR0:=qK hr0;have HC0:=qK hc0;clear hr0 hc0;have H:(laws_heldIntS.l0 k l0 a1 0)=some r:=h;clear h;have H':=qK H;clear H;go_enter Try.func36,Try.ntmps36
 go_wp2
 go_loopg [1,5] k (fun kq v1 v5 w'=>∃ (x1_1:Int) (x5_1:Int),v1=.int .i64 x1_1∧v5=.int .i64 x5_1∧Aside0 (laws_heldIntS.l0 kq l0 x1_1 x5_1=some r)∧Aside0 (kq≤k)∧Drawn0 w w')
 case atStart=>exact ⟨(a1),(0),(by first|rfl|(simp;done)|(simp [*];done)),(by first|rfl|(simp;done)|(simp [*];done)),H',⟨Nat.le_refl _⟩,by repeat (first|exact Drawn0.refl _|apply Drawn0.step)⟩
 case round =>
  clear H';try clear p2
  obtain ⟨x1_1,x5_1,rfl,rfl,HA,HK1,⟨m1,rfl⟩⟩:=hrel;cases gk with
  | zero=>exact absurd HA.out (by simp [laws_heldIntS.l0])
  | succ k1 =>
   have H:=HA.out;clear HA;simp only [laws_heldIntS.l0] at H;by_cases c3:x5_1 < (l0.length:Int)
   ·rw [if_pos c3] at H;have c3b0:decide (x5_1 < (l0.length:Int))=true:=decide_eq_true c3;clear c3;by_cases c4:0≤x5_1
    ·rw [if_pos c4] at H;have c4b0:decide (0≤x5_1)=true:=decide_eq_true c4;clear c4;by_cases c5:(rd l0 x5_1)=x1_1
     ·rw [if_pos c5] at H;have c5b0:((rd l0 x5_1) == x1_1)=true:=beq_iff_eq.mpr c5;have c5b1:((rd l0 x5_1) != x1_1)=false:=bne_eq_false_iff_eq.mpr c5;clear c5;have H':=qK H;clear H;have p365:0≤(x5_1:Int):=of_decide_eq_true (by first|(with_reducible assumption)|assumption);have q365:x5_1 < (l0.length:Int):=of_decide_eq_true (by first|(with_reducible assumption)|assumption);obtain ⟨ad365,e365,hx365_0⟩:=Kd.at_int HR0.out x5_1 p365 q365;cases e365
      replace p365:=eq_true p365;replace q365:=eq_true q365;go_wp2
      go_roundg k1
      case measure=>have:=HK1.out;omega
      case rel=>exact ⟨(wrap64 (x1_1 + 1)),(wrap64 (x5_1 + 1)),(by first|rfl|(simp;done)|(simp [*];done)),(by first|rfl|(simp;done)|(simp [*];done)),H',⟨by have:=HK1.out;omega⟩,by repeat (first|exact Drawn0.refl _|apply Drawn0.step)⟩
     ·rw [if_neg c5] at H;exact absurd H (by simp)
    ·rw [if_neg c4] at H;exact absurd H (by simp)
   ·rw [if_neg c3] at H;have c3b0:decide (x5_1 < (l0.length:Int))=false:=decide_eq_false c3;clear c3;obtain rfl:=Option.some.inj H;go_wp2
    go_ret
    exact ⟨by first|rfl|(simp;done)|(simp [*];done),by repeat (first|exact Drawn0.refl _|apply Drawn0.step)⟩

/-! ### laws_heldIntSS: function 18 -/
def laws_heldIntSS.l0 : Nat→List (List Int)→Int→Int→Option (Int)
 | 0,_,_,_=>none
 | k + 1,x0,x1,x5=>if x5 < (x0.length:Int) then (if 0≤x5 then ((laws_heldIntS.f k (rd_L3 x0 x5) x1).bind fun t367=>(if t367 < 0 then (none) else (laws_heldIntSS.l0 k x0 t367 (wrap64 (x5 + 1))))) else (none)) else (some x1)
def laws_heldIntSS.f (k:Nat) (l0:List (List Int)) (a1:Int):Option (Int):=laws_heldIntSS.l0 k l0 a1 0
theorem laws_heldIntSS.mono_l : ∀ k,(∀ y0 y1 y2,LeO (laws_heldIntSS.l0 k y0 y1 y2) (laws_heldIntSS.l0 (k + 1) y0 y1 y2))
 | 0=>fun _ _ _ r h=>by simp [laws_heldIntSS.l0] at h
 | k + 1=>by
  have ih0:=laws_heldIntSS.mono_l k
  ·intro y0 y1 y2;unfold laws_heldIntSS.l0
   repeat' first
   | (with_reducible exact ih0 _ _ _)
   | (with_reducible exact laws_heldIntS.mono _ _ _)
   | (with_reducible exact LeO.refl _)
   | (with_reducible exact LeO.none _)
   | (with_reducible refine LeO.ite ?_ ?_)
   | (with_reducible refine LeO.bind ?_ (fun _=>?_))
   | exact ih0 _ _ _
   | exact laws_heldIntS.mono _ _ _
   | exact LeO.none _
   | refine LeO.ite ?_ ?_
   | refine LeO.bind ?_ (fun _=>?_)
theorem laws_heldIntSS.mono : ∀ a0 a1 k,LeO (laws_heldIntSS.f k a0 a1) (laws_heldIntSS.f (k + 1) a0 a1):=by
 intro a0 a1 k;have ih0:=laws_heldIntSS.mono_l k;unfold laws_heldIntSS.f
 repeat' first
   | (with_reducible exact ih0 _ _ _)
   | (with_reducible exact laws_heldIntS.mono _ _ _)
   | (with_reducible exact LeO.refl _)
   | (with_reducible exact LeO.none _)
   | (with_reducible refine LeO.ite ?_ ?_)
   | (with_reducible refine LeO.bind ?_ (fun _=>?_))
   | exact ih0 _ _ _
   | exact laws_heldIntS.mono _ _ _
   | exact LeO.none _
   | refine LeO.ite ?_ ?_
   | refine LeO.bind ?_ (fun _=>?_)
set_option maxHeartbeats 8000000 in
set_option maxRecDepth 100000 in
theorem laws_heldIntSS.calls (k:Nat) (A0:Option Addr) (c0:Nat) (l0:List (List Int)) (a1:Int) (r:Int) (w:World) (hr0:Kd.C (Kd.slice 3 (Kd.int .i64)) w A0 l0.length l0) (hc0:l0.length≤c0) (h:laws_heldIntSS.f k l0 a1=some r) :
  Calls Try.prog 18 #[.slice A0 l0.length c0,.int .i64 a1] w fun e w'=>e=.returned (.int .i64 r)∧Drawn0 w w':=by
 have HR0:=qK hr0;have HC0:=qK hc0;clear hr0 hc0;have H:(laws_heldIntSS.l0 k l0 a1 0)=some r:=h;clear h;have H':=qK H;clear H;go_enter Try.func18,Try.ntmps18
 go_wp2
 go_loopg [1,5] k (fun kq v1 v5 w'=>∃ (x1_1:Int) (x5_1:Int),v1=.int .i64 x1_1∧v5=.int .i64 x5_1∧Aside0 (laws_heldIntSS.l0 kq l0 x1_1 x5_1=some r)∧Aside0 (kq≤k)∧Drawn0 w w')
 case atStart=>exact ⟨(a1),(0),(by first|rfl|(simp;done)|(simp [*];done)),(by first|rfl|(simp;done)|(simp [*];done)),H',⟨Nat.le_refl _⟩,by repeat (first|exact Drawn0.refl _|apply Drawn0.step)⟩
 case round =>
  clear H';try clear c1
  try clear p2
  obtain ⟨x1_1,x5_1,rfl,rfl,HA,HK1,⟨m1,rfl⟩⟩:=hrel;cases gk with
  | zero=>exact absurd HA.out (by simp [laws_heldIntSS.l0])
  | succ k1 =>
   have H:=HA.out;clear HA;simp only [laws_heldIntSS.l0] at H;by_cases c3:x5_1 < (l0.length:Int)
   ·rw [if_pos c3] at H;have c3b0:decide (x5_1 < (l0.length:Int))=true:=decide_eq_true c3;clear c3;by_cases c4:0≤x5_1
    ·rw [if_pos c4] at H;have c4b0:decide (0≤x5_1)=true:=decide_eq_true c4;clear c4;replace H:=Option.bind_eq_some_iff.mp H;obtain ⟨t367,A50,H⟩:=H;replace H:(if t367 < 0 then (none) else (laws_heldIntSS.l0 k1 l0 t367 (wrap64 (x5_1 + 1))))=some r:=H;have A5:=qK A50;clear A50;by_cases c6:t367 < 0
     ·rw [if_pos c6] at H;exact absurd H (by simp)
     ·rw [if_neg c6] at H;have c6b0:decide (t367 < 0)=false:=decide_eq_false c6;clear c6;have H':=qK H;clear H;have p366:0≤(x5_1:Int):=of_decide_eq_true (by first|(with_reducible assumption)|assumption);have q366:x5_1 < (l0.length:Int):=of_decide_eq_true (by first|(with_reducible assumption)|assumption);obtain ⟨ad366,A366_0,c366_0,e366,hx366_0,hl366_0,hi366_0⟩:=at_L3 HR0.out x5_1 p366 q366;cases e366
      have HR366_0:=qK hi366_0;have HC366_0:=qK hl366_0;clear hi366_0 hl366_0;replace p366:=eq_true p366;replace q366:=eq_true q366;go_wp2_with (first|((with_reducible refine gate_callee (f:=36) rfl ?_);refine goesL_ (some 17) rfl rfl Try.func36 (by kernel_rfl) rfl #[.slice A366_0 (rd_L3 l0 x5_1).length c366_0,.int .i64 x1_1] rfl (by (try simp only [mT,mC,mN]);first|done|rfl|(simp only [lD,lT];rfl)) ?_;(with_reducible refine (laws_heldIntS.calls k1 _ _ (rd_L3 l0 x5_1) x1_1 t367 _ ?side1 ?side2 A5.out).mono ?_);(case side1=>repeat (first|exact HR366_0.out|(with_reducible first|refine cL ?_ _|refine cN ?_ _|refine cW ?_)));(case side2=>exact HC366_0.out);rintro e w' ⟨rfl,⟨nd,rfl⟩⟩;refine ⟨_,rfl,?_⟩))
      go_roundg k1
      case measure=>have:=HK1.out;omega
      case rel=>exact ⟨(t367),(wrap64 (x5_1 + 1)),(by first|rfl|(simp;done)|(simp [*];done)),(by first|rfl|(simp;done)|(simp [*];done)),H',⟨by have:=HK1.out;omega⟩,by repeat (first|exact Drawn0.refl _|apply Drawn0.step)⟩
    ·rw [if_neg c4] at H;exact absurd H (by simp)
   ·rw [if_neg c3] at H;have c3b0:decide (x5_1 < (l0.length:Int))=false:=decide_eq_false c3;clear c3;obtain rfl:=Option.some.inj H;go_wp2
    go_ret
    exact ⟨by first|rfl|(simp;done)|(simp [*];done),by repeat (first|exact Drawn0.refl _|apply Drawn0.step)⟩

end Go.Proofs.Ytfnaclgiggkbmaa.PFnExactWaitsFor
