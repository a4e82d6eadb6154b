/-
  Rows of structs of numbers alone: cloned (slices.Clone), and one element cut out (slices.Delete): words of this claim's own, over any program.
-/
import Derived.Test.YtfnaclgiggkbmaaWWords
import Derived.Test.YtfnaclgiggkbmaaWMore
import Derived.Test.YtfnaclgiggkbmaaWKept
import Derived.Shelf.SlicesE.Clone
namespace Go.Proofs.YtfnaclgiggkbmaaW.PrintMore
open Go.RowKit Go.Shelf Go.Lib Go.Proofs.YtfnaclgiggkbmaaW.PrintWords
theorem clone_R {P : Program} {ρ : Ren} {α : Type} (d : Kd α) (flat : ∀ {w W : World} {base : Nat} {ok : Nat → Prop} {x : α} {cs : List Value}, d.K w x cs → d.M W base ok x cs) (L : Go.Proofs.SlLaysE0.n41 P ρ) (i0 : TypeInfo) (z : Value) (bytes : Nat) (hi : P.info? (ρ.t 23) = some i0) (hz0 : i0.zero = some z) (hz1 : i0.size = d.sz) (hz2 : i0.bytes = bytes) (hzs : z.cells.size = d.sz) (hsz : 0 < d.sz) (hby : 0 < bytes)
    (z23 : ∀ w, (Go.sizeOf (ρ.t 23)).run P w = .ok d.sz w) {A : Option Addr} {c : Nat} {xs : List α} {w : World} (hF : Kd.C d w A xs.length xs) (hp : 0 < xs.length) (hl : xs.length * bytes ≤ 140737488355328) :
    Calls P (ρ.f 41) #[.slice A xs.length c] w fun e w' => ∃ v0, e = .returned v0 ∧ Kd.R d (ρ.t 23) w' w.heap.size (fun _ => True) v0 xs ∧ Below w.heap.size w w' := by
  have fin : ∀ (b off : Nat) (inner : List Value), Reps (d.K w) d.sz xs inner → (∀ j u, inner[j]? = some u → w.cell? ⟨b, off + j, none⟩ = some u) →
      Calls P (ρ.f 41) #[.slice (some ⟨b, off, none⟩) xs.length c] w fun e w' => ∃ v0, e = .returned v0 ∧ Kd.R d (ρ.t 23) w' w.heap.size (fun _ => True) v0 xs ∧ Below w.heap.size w w' := fun b off inner hr hc => by
    have h1 : ∀ u ∈ inner, u.oneCell' = true := fun u hu => by
      obtain ⟨q, hq, rfl⟩ := List.mem_iff_getElem.1 hu
      have hql : q / d.sz < xs.length := by
        rw [Nat.div_lt_iff_lt_mul hsz, ← hr.1]
        exact hq
      refine d.K_one (hr.2 (q / d.sz) _ (List.getElem?_eq_getElem hql)) _ ?_
      rw [List.mem_iff_getElem?]
      refine ⟨q % d.sz, ?_⟩
      rw [List.getElem?_take, if_pos (Nat.mod_lt _ hsz), List.getElem?_drop, Nat.mul_comm, Nat.div_add_mod, List.getElem?_eq_getElem hq]
    have hn : xs.length ≤ maxLen := by
      have := Nat.le_mul_of_pos_right xs.length hby
      simp only [maxLen]
      omega
    refine (Go.Proofs.AnyE.slices_Clone L i0 z d.sz bytes hi hz0 hz1 hz2 hzs hsz z23 b off xs.length c inner w hr.1 hn hl hc h1).mono ?_
    rintro e w' ⟨v, rfl, ho, _, hb⟩
    exact ⟨v, rfl, ⟨fun _ _ => trivial, inner, ho, hr.imp_ (fun _ _ h => flat h)⟩, hb⟩
  obtain ⟨ad, rfl, _⟩ := hF.2.2 hp
  obtain ⟨inner, hr, hc⟩ := ReadsRow.inner_ hF
  obtain ⟨b, off, spot⟩ := ad
  have hlt : 0 < inner.length := by
    rw [hr.1]
    exact Nat.mul_pos hp hsz
  cases spot with
  | none => exact fin b off inner hr (fun j u hu => by rw [← Addr.add_lit]; exact hc j u hu)
  | some s =>
    have hc0 := hc 0 _ (List.getElem?_eq_getElem hlt)
    simp [World.cell?, Addr.add] at hc0
    split at hc0 <;> cases hc0
theorem reps_cut {α : Type} {R : α → List Value → Prop} {size : Nat} {ps : List α} {cs : List Value} {i : Nat} (h : Reps R size ps cs) (hi : i < ps.length) : Reps R size (ps.eraseIdx i) (cs.take (i * size) ++ cs.drop ((i + 1) * size)) := by
  have hl := h.1
  have e1 : (i + 1) * size = i * size + size := Nat.succ_mul _ _
  have e2 : (i + 1) * size ≤ ps.length * size := Nat.mul_le_mul_right _ hi
  refine ⟨?_, fun j p hj => ?_⟩
  · rw [List.length_append, List.length_take, List.length_drop, List.length_eraseIdx_of_lt hi, Nat.sub_mul, Nat.one_mul]
    omega
  · rw [List.getElem?_eraseIdx] at hj
    by_cases hji : j < i
    · rw [if_pos hji] at hj
      have e3 : (j + 1) * size ≤ i * size := Nat.mul_le_mul_right _ hji
      rw [Nat.succ_mul] at e3
      have := h.2 j p hj
      rw [List.drop_append_of_le_length (by rw [List.length_take]; omega), List.take_append_of_le_length (by rw [List.length_drop, List.length_take]; omega), List.drop_take, List.take_take, Nat.min_eq_left (by omega)]
      exact this
    · rw [if_neg hji] at hj
      have := h.2 (j + 1) p hj
      have e3 : i * size ≤ j * size := Nat.mul_le_mul_right _ (by omega)
      rw [List.drop_append, List.drop_of_length_le (by rw [List.length_take]; omega), List.nil_append, List.length_take, List.drop_drop]
      rw [show (i + 1) * size + (j * size - min (i * size) cs.length) = (j + 1) * size by rw [Nat.succ_mul j]; omega]
      exact this
/-- One element cut out of a row of one's own: from the cells to the row. -/
theorem del_R {P : Program} {α : Type} (d : Kd α) {f : FuncId} {e : Nat} {w : World} {base : Nat} {ok : Nat → Prop} {A : Option Addr} {c : Nat} {xs : List α} {i : Nat} {rest : Array Value}
    (flat : ∀ {w W : World} {base : Nat} {ok : Nat → Prop} {x : α} {cs : List Value}, d.K w x cs → d.M W base ok x cs)
    (raw : ∀ (g : Nat) (inner : List Value), w.ownsRow base e d.sz (.slice (some ⟨g, 0, none⟩) xs.length c) xs.length inner → (∀ u ∈ inner, u.oneCell' = true) →
      Calls P f (#[.slice (some ⟨g, 0, none⟩) xs.length c] ++ rest) w fun e_ w' => e_ = .returned (.slice (some ⟨g, 0, none⟩) (xs.length - 1) c) ∧ w'.ownsRow base e d.sz (.slice (some ⟨g, 0, none⟩) (xs.length - 1) c) (xs.length - 1) (inner.take (i * d.sz) ++ inner.drop ((i + 1) * d.sz)) ∧ w.grownBy w' (some g))
    (h : Kd.R d e w base ok (.slice A xs.length c) xs) (hi : i < xs.length) (hsz : 0 < d.sz) :
    Calls P f (#[.slice A xs.length c] ++ rest) w fun e_ w' => ∃ v0, e_ = .returned v0 ∧ Kd.R d e w' base ok v0 (xs.eraseIdx i) ∧ w.grownBy w' (Value.slice A xs.length c).ownBlock ∧ v0.ownBlock = (Value.slice A xs.length c).ownBlock := by
  obtain ⟨g, cap, hv, _⟩ := Kd.R_form h (by omega)
  injection hv with hA _ hc
  subst hA; subst hc
  obtain ⟨hown, inner, ho, hr⟩ := h
  have h1 : ∀ u ∈ inner, u.oneCell' = true := fun u hu => by
    obtain ⟨q, hq, rfl⟩ := List.mem_iff_getElem.1 hu
    have hql : q / d.sz < xs.length := by
      rw [Nat.div_lt_iff_lt_mul hsz, ← hr.1]
      exact hq
    refine d.K_one (d.K_of_M (hr.2 (q / d.sz) _ (List.getElem?_eq_getElem hql))) _ ?_
    rw [List.mem_iff_getElem?]
    refine ⟨q % d.sz, ?_⟩
    rw [List.getElem?_take, if_pos (Nat.mod_lt _ hsz), List.getElem?_drop, Nat.mul_comm, Nat.div_add_mod, List.getElem?_eq_getElem hq]
  refine (raw g inner ho h1).mono ?_
  rintro e_ w' ⟨rfl, ho2, hg⟩
  have hel : (xs.eraseIdx i).length = xs.length - 1 := List.length_eraseIdx_of_lt hi
  refine ⟨_, rfl, ⟨fun k hk => hown k (by simpa [Value.ownBlock] using hk), _, by rw [hel]; exact ho2, (reps_cut hr hi).imp_ (fun _ _ hp => flat (d.K_of_M hp))⟩, by simpa [Value.ownBlock] using hg, by simp [Value.ownBlock]⟩
theorem kept_grown {w w' : World} {row : Option Nat} {S : Nat → Prop} (hg : w.grownBy w' row) (h : ∀ k, row = some k → S k) : Kept w w' S := by
  refine ⟨hg.size, fun i hi hn => hg.block i hi (fun e => hn (h i e.symm))⟩
end Go.Proofs.YtfnaclgiggkbmaaW.PrintMore
