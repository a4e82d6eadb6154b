/-
  'clear' of the end of a row of structs of numbers: words of this claim's own, over any program.
-/
import Derived.Test.YtfnaclgiggkbmaaWWords
import Derived.Test.YtfnaclgiggkbmaaWMore
import Derived.Laws.IdiomCopy
import Derived.Lib.SliceRun
set_option linter.unusedSimpArgs false
namespace Go.Proofs.YtfnaclgiggkbmaaW.PrintMore
open Go.RowKit Go.Lib Go.Proofs.YtfnaclgiggkbmaaW.PrintWords
theorem clear_R {P : Program} {α : Type} {d : Kd α} {t e ty : TypeId} {z : Value} (ht : P.underlying t = some (.slice e)) (hv : ∀ w, (zeroValue e).run P w = .ok z w) (hz : z.cells.size = d.sz) (h1 : ∀ u ∈ z.cells.toList, u.oneCell' = true) (hsz : 0 < d.sz)
    {w : World} {base b n cap i : Nat} {ok : Nat → Prop} {xs : List α} (flat : ∀ {W W' : World} {ok1 : Nat → Prop} {x : α} {cs : List Value}, d.M W base ok1 x cs → d.M W' base ok1 x cs)
    (h : Kd.R d e w base ok (.slice (some ⟨b, 0, none⟩) n cap) xs) (hi : i < n) (hn : n = xs.length) :
    ∃ w', (Builtin.clear_ #[t] ty #[.slice (some ⟨b, i * d.sz, none⟩) (n - i) (cap - i)]).run P w = .ok (.tuple #[]) w' ∧ Kd.R d e w' base ok (.slice (some ⟨b, 0, none⟩) i cap) (xs.take i) ∧ w.grownBy w' (some b) := by
  have hcap : n ≤ cap := hn ▸ (Kd.R_reads' h).2.1
  obtain ⟨h0, inner, ho, hr⟩ := Kd.R_take (m := i) h (by omega)
  have hlt : (xs.take i).length = i := by rw [List.length_take]; omega
  rw [hlt] at ho
  rcases ho.2 with ⟨e0, _⟩ | ⟨g, cap', cur, e0, hb, hg, hnc, hm, hs, hti⟩
  · cases e0
  injection e0 with e1 _ e3
  injection e1 with e1
  injection e1 with e1
  subst e1; subst e3
  obtain ⟨zs, hzs⟩ : ∃ zs, zs = (Builtin.zeroCells z.cells (n - i)).toList := ⟨_, rfl⟩
  have hzl : zs.length = (n - i) * d.sz := by rw [hzs]; simp [Builtin.zeroCells, hz]
  have hz1 : ∀ u ∈ zs, u.oneCell' = true := by
    intro u hu
    rw [hzs] at hu
    simp only [Builtin.zeroCells, Array.toList_map, List.mem_map] at hu
    obtain ⟨q, _, rfl⟩ := hu
    have hq : q % z.cells.size < z.cells.size := Nat.mod_lt _ (by omega)
    rw [getElem!_pos z.cells _ hq]
    exact h1 _ (by simp)
  have e1 : i * d.sz + zs.length = n * d.sz := by rw [hzl, ← Nat.add_mul]; congr 1; omega
  have e2 : n * d.sz ≤ cur.size := by rw [hs]; exact Nat.mul_le_mul_right _ hcap
  have hst := run_storeCells_cells (P := P) b (i * d.sz) zs 0 w (fun j hj => by simp [World.cell?, hg]; omega) (fun j hj => by simp [World.frozen?, hg]) hz1
  simp only [Nat.add_zero] at hst
  obtain ⟨cur', h3, h4, h5⟩ := setCells_row zs (i * d.sz) w cur hg (by omega)
  obtain ⟨g1, g2, g3, g4⟩ := setCells_same b zs (i * d.sz) w
  obtain ⟨m, hmm⟩ : ∃ m, n - i = m + 1 := ⟨n - i - 1, by omega⟩
  refine ⟨w.setCells b (i * d.sz) zs, ?_, ⟨h0, inner, ?_, hr.imp_ (fun _ _ h => flat h)⟩, ⟨g1, g2, g3, by rw [g4]; exact Nat.le_refl _, fun k hk hne => setCells_far zs (i * d.sz) k (fun e => hne (by rw [e]))⟩⟩
  · rw [hmm] at hzs ⊢
    simp [Builtin.clear_, run_underlying ht, hv, ← hzs, hst]
  · rw [hlt]
    refine ⟨ho.1, .inr ⟨b, cap, cur', rfl, hb, h3, hnc, hm, by rw [h4]; exact hs, ?_⟩⟩
    rw [h5, List.append_assoc, List.take_append_of_le_length (by simp; omega), List.take_take, Nat.min_self]
    exact hti
end Go.Proofs.YtfnaclgiggkbmaaW.PrintMore
