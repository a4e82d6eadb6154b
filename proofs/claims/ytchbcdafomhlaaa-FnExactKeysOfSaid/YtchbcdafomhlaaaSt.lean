/-
  slices.SortFunc at a row of sets (0 to 63) that the call owns, by a function that makes memory of its own and turns nothing: words of this claim's own, over any program (the shelf's contract, said of the print's rows); growth of a world that also counts the draws.
-/
import Derived.Test.YtchbcdafomhlaaaWWords
import Derived.Test.YtchbcdafomhlaaaWKept
import Derived.Test.YtchbcdafomhlaaaWMore
import Derived.Laws.AppendOwn
import Derived.Lib.QuietBelow
import Derived.Lib.OwnBridge
import Derived.Laws.OwnMore
import Derived.Shelf.SlSortCmp.NoneTotal
import Derived.Ground.SlsfProg
set_option linter.unusedSimpArgs false
set_option linter.unusedVariables false
namespace Go.Proofs.YtchbcdafomhlaaaW.PrintMore
open Go.RowKit Go.Shelf Go.Lib Go.Sort Go.Proofs.YtchbcdafomhlaaaW.PrintWords
/-- The world has grown, and has drawn as often or more. -/
def BelD (B : Nat) (w W : World) : Prop := Below B w W ∧ w.drawn ≤ W.drawn
theorem BelD.refl (B : Nat) (w : World) : BelD B w w := ⟨Below.refl _ _, Nat.le_refl _⟩
theorem beld_alloc {w W : World} (h : BelD w.heap.size w W) (o : Obj) : BelD w.heap.size w (W.alloc o) := ⟨below_alloc h.1 o, h.2⟩
theorem beld_drewN {B : Nat} {w W : World} (h : BelD B w W) (n : Nat) : BelD B w (W.drewN n) := ⟨pw_below_drewN h.1 n, Nat.le_trans h.2 (Nat.le_add_right _ _)⟩
theorem beld_drew1 {B : Nat} {w W : World} (h : BelD B w W) : BelD B w W.drew := ⟨⟨h.1.os, h.1.tape, h.1.output, h.1.size, h.1.block⟩, Nat.le_succ_of_le h.2⟩
theorem beld_step {w W W2 : World} (h : BelD w.heap.size w W) (h2 : BelD W.heap.size W W2) : BelD w.heap.size w W2 := ⟨below_step h.1 h2.1, Nat.le_trans h.2 h2.2⟩
theorem beld_size {B : Nat} {w W : World} (h : BelD B w W) : w.heap.size ≤ W.heap.size := h.1.size
theorem append_drawn {P : Program} {w w1 : World} {base t ty e : Nat} {i : TypeInfo} {z v v1 : Value} {n : Nat} {xs : List Value} (ht : P.underlying t = some (.slice e)) (hi : P.info? e = some i) (hz : i.zero = some z) (hs : i.size = 1)
    (hown : w.ownsRow base e 1 v n xs) (a : Addr) (u : Value) (hnews : ∀ j x, ([u] : List Value)[j]? = some x → w.cell? (a.add j) = some x) (h1 : u.oneCell' = true) (hb : (n + 1) * i.bytes ≤ 140737488355328) (hb0 : 0 < i.bytes)
    (h : (Builtin.append_ #[t, t] ty #[v, .slice (some a) 1 1]).run P w = .ok v1 w1) : w.drawn ≤ w1.drawn := by
  have hn : n + 1 ≤ 140737488355328 := Nat.le_trans (Nat.le_mul_of_pos_right _ hb0) hb
  have hl : ([u] : List Value).length = 1 * i.size := by rw [hs]; rfl
  rcases hown.2 with ⟨rfl, rfl⟩ | ⟨g, cap, cur, rfl, hbg, hg, hnc, hcm, hcs, htake⟩
  · have hr := run_append_nil (P := P) w t ty e i z ht hi hz a 1 1 [u] hl hnews (by omega) (by omega) (by omega)
    rw [hr] at h
    injection h with _ h
    rw [← h]
    simp
  · by_cases hroom : n + 1 ≤ cap
    · have hr := run_append_room (P := P) w t ty e i ht hi g n cap cur hg a 1 1 [u] hl hnews (by simpa using h1) hroom (by rw [hs, hcs]; simp; omega)
      rw [hr] at h
      injection h with _ h
      rw [← h]
      simp
    · have hr := run_append_grow (P := P) w t ty e i z ht hi hz ⟨g, 0, none⟩ n cap xs (by rw [hs]; exact hown.1) (hown.cells (g := g) rfl) a 1 1 [u] hl hnews (by omega) (by omega) (growslice_fits (by omega) hb)
      rw [hr] at h
      injection h with _ h
      rw [← h]
      simp
section
variable {P : Program} {ops : Array Oper} {rest : List Oper} {o : Oper} {a : Act} {Q : Exit → Act → World → Prop}
theorem appD {w0 W : World} (base : Nat) (hgd : o.guard = none) (s x : Operand) (t e : TypeId) (z : Value) (bytes : Nat)
    (ho : o.op = .call { callee := .builtin .append, args := #[s, x], argTypes := #[t, t] })
    (ht : P.underlying t = some (.slice e)) (hinfo : (P.info? e).map (fun i => (i.zero, i.size, i.bytes)) = some (some z, 1, bytes)) (hz : z.cells.size = 1) (hb0 : 0 < bytes)
    (v : Value) (xs : List Int) (p : Int) (hs : a.eval s = v) (hx : a.eval x = .slice (some ⟨W.heap.size, 0, none⟩) 1 1)
    (HO : (Kd.int .i64).R e W base (fun _ => True) v xs) (HB : BelD base w0 W) (hbase : base ≤ W.heap.size) (hl : (xs.length + 1) * bytes ≤ 140737488355328)
    (h : ∀ v1 w1, (Kd.int .i64).R e w1 base (fun _ => True) v1 (xs ++ [p]) → BelD base w0 w1 → wpList P ops Q rest (a.put o.dst v1) w1) :
    wpList P ops Q (o :: rest) a (W.alloc (.cells #[.int .i64 p] e)) := by
  obtain ⟨i0, hi, hzz⟩ := Option.map_eq_some_iff.1 hinfo
  simp only [Prod.mk.injEq] at hzz
  obtain ⟨hz0, hz1, hz2⟩ := hzz
  have hlen : xs.length + 1 ≤ 140737488355328 := Nat.le_trans (Nat.le_mul_of_pos_right _ hb0) hl
  have hown := (Kd.own_of_R HO).alloc (.cells #[.int .i64 p] e)
  have hnews : ∀ j x, ([.int .i64 p] : List Value)[j]? = some x → (W.alloc (.cells #[.int .i64 p] e)).cell? ((⟨W.heap.size, 0, none⟩ : Addr).add j) = some x := by
    simpa using World.news_of_block (cs := #[.int .i64 p]) (t := e) (fr := (0, 0)) (heap_alloc_new W (.cells #[.int .i64 p] e))
  obtain ⟨v1, w1, hr, hown1, hg, _⟩ := run_append_own (P := P) (W.alloc (.cells #[.int .i64 p] e)) base t o.type e i0 z 1 bytes ht hi hz0 hz1 hz2 hz (by omega) v xs.length _ hown ⟨W.heap.size, 0, none⟩ 1 1 [.int .i64 p] (by simp)
    hnews (by simp [Value.oneCell']) (by simp only [maxLen]; omega) hl (by simp; omega)
  have hd := append_drawn ht hi hz0 hz1 hown ⟨W.heap.size, 0, none⟩ (.int .i64 p) hnews rfl (by rw [hz2]; exact hl) (by rw [hz2]; exact hb0) hr
  refine Kd.event_run hgd (v := v1) (w1 := w1) ?_ (h v1 w1 ?_ ⟨?_, Nat.le_trans HB.2 hd⟩)
  · unfold execOp
    simp only [ho, resolve, invoke, builtin, Sem.run_bind, Sem.run_pure, Result.andThen_ok, List.map_toArray, List.map_cons, List.map_nil, hs, hx, hr]
  · refine Kd.R_of_own ?_ (fun _ _ => trivial)
    simpa [encs] using hown1
  · exact (HB.1.alloc hbase _).grown hg (by simp; omega) (own_base (Kd.own_of_R HO))
theorem litD {w0 W : World} (base e : Nat) (hgd : o.guard = none) {N : Tmp} (_hd : o.dst = some N) {xs : List Int} {inner : List Value} {ok : Nat → Prop}
    (hrun : (execOp a.eval o).run P W = .ok (.value (.slice (some ⟨W.heap.size, 0, none⟩) xs.length xs.length)) (W.alloc (.cells inner.toArray e)))
    (hin : inner = encs (Value.int .i64) xs) (hfresh : ok W.heap.size) (HB : BelD base w0 W) (hbase : base ≤ W.heap.size) (hm : xs.length ≤ 9223372036854775807)
    (h : ∀ v1 w1, (Kd.int .i64).R e w1 base ok v1 xs → BelD base w0 w1 → W.grownBy w1 none → (∃ b, v1.ownBlock = some b ∧ W.heap.size ≤ b) → wpList P ops Q rest (a.put o.dst v1) w1) : wpList P ops Q (o :: rest) a W := by
  refine Kd.event_run hgd hrun (h _ _ (Kd.R_of_own ?_ ?_) ⟨HB.1.alloc hbase _, HB.2⟩ (World.grownBy_alloc W _ none) ⟨W.heap.size, by simp [Value.ownBlock], Nat.le_refl _⟩)
  · have h2 := World.ownsRow_lit (base := base) (e := e) (size := 1) W inner.toArray xs.length hbase (by simpa [maxLen] using hm) (by rw [hin]; simp [encs])
    simpa [hin] using h2
  · intro k hk
    have : W.heap.size = k := by simpa [Value.ownBlock] using hk
    subst this
    exact hfresh
end
/-! ### the sort -/
def setV (x : Fin 64) : Value := .int .i64 (x.val : Int)
def toF (x : Int) : Fin 64 := Fin.ofNat 64 x.toNat
theorem toF_val {x : Int} (h0 : 0 ≤ x) (h1 : x < 64) : ((toF x).val : Int) = x := by
  unfold toF
  simp only [Fin.ofNat]
  omega
theorem map_toF {l : List Int} (h : ∀ x ∈ l, 0 ≤ x ∧ x < 64) : (l.map toF).map setV = l.map (Value.int .i64) := by
  rw [List.map_map]
  apply List.map_congr_left
  intro x hx
  show Value.int .i64 ((toF x).val : Int) = _
  rw [toF_val (h x hx).1 (h x hx).2]
def sortS (cf : Fin 64 → Fin 64 → Int) (l : List Int) : List Int := ((l.map toF).mergeSort fun x y => !(ltOf cf) y x).map fun x => (x.val : Int)
theorem sortS_perm (cf : Fin 64 → Fin 64 → Int) {l : List Int} (h : ∀ x ∈ l, 0 ≤ x ∧ x < 64) : (sortS cf l).Perm l := by
  unfold sortS
  have h1 := (List.mergeSort_perm (l.map toF) fun x y => !(ltOf cf) y x).map fun x : Fin 64 => (x.val : Int)
  refine h1.trans ?_
  rw [List.map_map]
  have : l.map ((fun x : Fin 64 => (x.val : Int)) ∘ toF) = l.map id := List.map_congr_left fun x hx => toF_val (h x hx).1 (h x hx).2
  rw [this, List.map_id]
theorem lays_of_belD {P : Program} {g : Nat} {cf : Fin 64 → Fin 64 → Int} {blk size : Nat} {w : World}
    (hc : ∀ (W : World) (x y : Fin 64), Calls P g #[setV x, setV y] W fun e w' => e = .returned (.int .i64 (cf x y)) ∧ BelD W.heap.size W w') : CmpLays1 P g #[] setV cf blk 0 size w := by
  intro m os dk _ x y
  refine (hc _ x y).mono ?_
  rintro e w' ⟨rfl, hb, hd⟩
  obtain ⟨p, hp⟩ := regrown_of_below hb
  refine ⟨rfl, p.d - (sortWorld setV w blk 0 m dk os).drawn, p.os, ?_⟩
  have hle : (sortWorld setV w blk 0 m dk os).drawn ≤ p.d := by rw [hp] at hd; exact hd
  rw [hp]
  generalize sortWorld setV w blk 0 m dk os = W at *
  show grow { W with drawn := p.d } p.os = grow { W with drawn := W.drawn + (p.d - W.drawn) } p.os
  rw [Nat.add_sub_cancel' hle]
theorem sort_R {P : Program} {ρ : Ren} (L : Go.Proofs.SlLaysF.n6 P ρ) (cf : Fin 64 → Fin 64 → Int) (hO : SWO (ltOf cf)) (hT : ∀ x y, (ltOf cf) x y = false → (ltOf cf) y x = false → x = y) (g : Nat) (eg : ∀ args w, (callFunc g args).run P w = .ok (.enter g args) w)
    (hc : ∀ (W : World) (x y : Fin 64), Calls P g #[setV x, setV y] W fun e w' => e = .returned (.int .i64 (cf x y)) ∧ BelD W.heap.size W w')
    {e base : Nat} {w0 w : World} {u : Value} {l : List Int} (h : (Kd.int .i64).R e w base (fun _ => True) u l) (hpos : 0 < l.length) (hlen : l.length < 4611686018427387904) (hr : ∀ x ∈ l, 0 ≤ x ∧ x < 64) (hB : Below base w0 w) :
    Calls P (ρ.f 6) #[u, .func (.func g) #[] #[]] w fun e' w' => e' = .returned (.tuple #[]) ∧ (Kd.int .i64).R e w' base (fun _ => True) u (sortS cf l) ∧ Below base w0 w' := by
  obtain ⟨b, cap, rfl, hb, hlt, _⟩ := Kd.R_form h hpos
  have hown := Kd.own_of_R h
  have hown2 : w.ownsRow base e 1 (.slice (some ⟨b, 0, none⟩) l.length cap) l.length ((l.map toF).map setV) := by rw [map_toF hr]; simpa [encs] using hown
  obtain ⟨b', cap', he, _, _, hcap, hmax, _, hH⟩ := Go.Lib.holds_of_ownsRow (enc := setV) (zs := l.map toF) hown2 (by simp)
  cases he
  have hsz : (l.map toF).toArray.size = l.length := by simp
  have hcon := Go.Proofs.Any.slices_SortFunc_total L setV (fun _ => rfl) cf hO g #[] b 0 cap (l.map toF).toArray w eg (lays_of_belD hc) hH hlt (by rw [hsz]; exact hlen) hT
  rw [hsz] at hcon
  refine hcon.mono ?_
  rintro e' w' ⟨rfl, n, os, rfl⟩
  have hg : (putRow setV (Sort.ahead w n) b 0 ((l.map toF).mergeSort fun x y => !(ltOf cf) y x).toArray).grownBy (sortWorld setV w b 0 n ((l.map toF).mergeSort fun x y => !(ltOf cf) y x).toArray os) none :=
    ⟨rfl, rfl, rfl, by simp [sortWorld, grow], fun k hk _ => by show ((putRow setV (Sort.ahead w n) b 0 _).heap ++ os)[k]? = _; rw [Array.getElem?_append_left hk]⟩
  refine ⟨rfl, ?_, (Go.Lib.below_putRow hB hb).grown hg ?_ (fun k hk => by cases hk)⟩
  · have hl2 : ((l.map toF).mergeSort fun x y => !(ltOf cf) y x).length = l.length := by rw [List.length_mergeSort, List.length_map]
    have h2 := Go.Lib.ownsRow_putRow (enc := setV) (q := n) (k := l.length) (ys := (l.map toF).mergeSort fun x y => !(ltOf cf) y x) hown2 hl2 (Nat.le_refl _)
    rw [List.take_of_length_le (by omega)] at h2
    have hls : (sortS cf l).length = l.length := by unfold sortS; rw [List.length_map, hl2]
    have h3 := h2.kept hg (.inr (by simp [Value.ownBlock]))
    refine Kd.R_of_own ?_ (fun _ _ => trivial)
    rw [hls]
    have he2 : encs (Value.int .i64) (sortS cf l) = ((l.map toF).mergeSort fun x y => !(ltOf cf) y x).map setV := by
      unfold sortS
      simp only [encs, List.map_map]
      rfl
    rw [he2]
    exact h3
  · simp [putRow, mapBlock, Sort.ahead]
    omega
end Go.Proofs.YtchbcdafomhlaaaW.PrintMore
