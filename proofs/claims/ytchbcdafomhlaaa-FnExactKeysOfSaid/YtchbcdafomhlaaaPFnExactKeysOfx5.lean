/-
  A text of this claim's own, printed by a program of the session (wip/tools/xprint.py): functions of the program as Lean functions, each with what its call comes to.
-/
import Derived.Test.YtchbcdafomhlaaaPFnExactKeysOfx0
import Derived.Test.YtchbcdafomhlaaaPFnExactKeysOfx2
import Derived.Test.YtchbcdafomhlaaaPFnExactKeysOfx3
import Derived.Test.YtchbcdafomhlaaaPFnExactKeysOfx4
namespace Go.Proofs.Ytchbcdafomhlaaa.PFnExactKeysOf
open Go.Proofs.YtchbcdafomhlaaaW.PrintWords renaming pw_below_drewN → qD, blk_cell → qC, below_drew1 → qO, below_alloc → qA, blk_frozen → qF, below_set → qS, blk_drewN → qN, blk_alloc → qL, blk_drew → qW, below_size → qZ, below_step → qT, blk_below → qB, blk_far → qR, blk_put → qP
open Go.Proofs.YtchbcdafomhlaaaW.PrintWords.Aside0 renaming mk → qK
open Bool renaming true → Y, false → Z
open List renaming setIfInBounds_toArray → sIb, set_cons_zero → sZ, set_cons_succ → sS, map_toArray → mT, map_cons → mC, map_nil → mN, length_drop → lD, length_take → lT
open Go.Proofs.YtchbcdafomhlaaaW.PrintWords.Kd renaming C_alloc → cL, C_drewN → cN, C_drew → cW, C_below → cB, R_alloc → rL, R_drewN → rN, R_drew → rW, R_below → rB
open Go.RowKit Go.Proofs.YtchbcdafomhlaaaW.PrintWords Go.Proofs.YtchbcdafomhlaaaW.PrintLast Go.Proofs.YtchbcdafomhlaaaW.PrintMore
attribute [local go_sem] max2_int min2_int max_two min_two max_three min_three max_four min_four   -- for this text's walks alone
set_option linter.unusedVariables false
set_option linter.unusedSimpArgs false

/-! ### laws_heldIntSS: function 24 -/
def laws_heldIntSS.l0 : Nat→List (List Int)→Int→Int→Option (Int)
 | 0,_,_,_=>none
 | k + 1,x0,x1,x5=>if x5 < (x0.length:Int) then (if 0≤x5 then ((laws_heldIntS.f k (rd_L1 x0 x5) x1).bind fun t305=>(if t305 < 0 then (none) else (laws_heldIntSS.l0 k x0 t305 (wrap64 (x5 + 1))))) else (none)) else (some x1)
def laws_heldIntSS.f (k:Nat) (l0:List (List Int)) (a1:Int):Option (Int):=laws_heldIntSS.l0 k l0 a1 0
theorem laws_heldIntSS.mono_l : ∀ k,(∀ y0 y1 y2,LeO (laws_heldIntSS.l0 k y0 y1 y2) (laws_heldIntSS.l0 (k + 1) y0 y1 y2))
 | 0=>fun _ _ _ r h=>by simp [laws_heldIntSS.l0] at h
 | k + 1=>by
  have ih0:=laws_heldIntSS.mono_l k
  ·intro y0 y1 y2;unfold laws_heldIntSS.l0
   repeat' first
   | (with_reducible exact ih0 _ _ _)
   | (with_reducible exact laws_heldIntS.mono _ _ _)
   | (with_reducible exact LeO.refl _)
   | (with_reducible exact LeO.none _)
   | (with_reducible refine LeO.ite ?_ ?_)
   | (with_reducible refine LeO.bind ?_ (fun _=>?_))
   | exact ih0 _ _ _
   | exact laws_heldIntS.mono _ _ _
   | exact LeO.none _
   | refine LeO.ite ?_ ?_
   | refine LeO.bind ?_ (fun _=>?_)
theorem laws_heldIntSS.mono : ∀ a0 a1 k,LeO (laws_heldIntSS.f k a0 a1) (laws_heldIntSS.f (k + 1) a0 a1):=by
 intro a0 a1 k;have ih0:=laws_heldIntSS.mono_l k;unfold laws_heldIntSS.f
 repeat' first
   | (with_reducible exact ih0 _ _ _)
   | (with_reducible exact laws_heldIntS.mono _ _ _)
   | (with_reducible exact LeO.refl _)
   | (with_reducible exact LeO.none _)
   | (with_reducible refine LeO.ite ?_ ?_)
   | (with_reducible refine LeO.bind ?_ (fun _=>?_))
   | exact ih0 _ _ _
   | exact laws_heldIntS.mono _ _ _
   | exact LeO.none _
   | refine LeO.ite ?_ ?_
   | refine LeO.bind ?_ (fun _=>?_)
set_option maxHeartbeats 8000000 in
set_option maxRecDepth 100000 in
theorem laws_heldIntSS.calls (k:Nat) (A0:Option Addr) (c0:Nat) (l0:List (List Int)) (a1:Int) (r:Int) (w:World) (hr0:Kd.C (Kd.slice 3 (Kd.int .i64)) w A0 l0.length l0) (hc0:l0.length≤c0) (h:laws_heldIntSS.f k l0 a1=some r) :
  Calls Try.prog 24 #[.slice A0 l0.length c0,.int .i64 a1] w fun e w'=>e=.returned (.int .i64 r)∧Drawn0 w w':=by
 have HR0:=qK hr0;have HC0:=qK hc0;clear hr0 hc0;have H:(laws_heldIntSS.l0 k l0 a1 0)=some r:=h;clear h;have H':=qK H;clear H;go_enter Try.func24,Try.ntmps24
 go_wp2
 go_loopg [1,5] k (fun kq v1 v5 w'=>∃ (x1_1:Int) (x5_1:Int),v1=.int .i64 x1_1∧v5=.int .i64 x5_1∧Aside0 (laws_heldIntSS.l0 kq l0 x1_1 x5_1=some r)∧Aside0 (kq≤k)∧Drawn0 w w')
 case atStart=>exact ⟨(a1),(0),(by first|rfl|(simp;done)|(simp [*];done)),(by first|rfl|(simp;done)|(simp [*];done)),H',⟨Nat.le_refl _⟩,by repeat (first|exact Drawn0.refl _|apply Drawn0.step)⟩
 case round =>
  clear H';try clear c2
  try clear p2
  obtain ⟨x1_1,x5_1,rfl,rfl,HA,HK1,⟨m1,rfl⟩⟩:=hrel;cases gk with
  | zero=>exact absurd HA.out (by simp [laws_heldIntSS.l0])
  | succ k1 =>
   have H:=HA.out;clear HA;simp only [laws_heldIntSS.l0] at H;by_cases c3:x5_1 < (l0.length:Int)
   ·rw [if_pos c3] at H;have c3b0:decide (x5_1 < (l0.length:Int))=true:=decide_eq_true c3;clear c3;by_cases c4:0≤x5_1
    ·rw [if_pos c4] at H;have c4b0:decide (0≤x5_1)=true:=decide_eq_true c4;clear c4;replace H:=Option.bind_eq_some_iff.mp H;obtain ⟨t305,A50,H⟩:=H;replace H:(if t305 < 0 then (none) else (laws_heldIntSS.l0 k1 l0 t305 (wrap64 (x5_1 + 1))))=some r:=H;have A5:=qK A50;clear A50;by_cases c6:t305 < 0
     ·rw [if_pos c6] at H;exact absurd H (by simp)
     ·rw [if_neg c6] at H;have c6b0:decide (t305 < 0)=false:=decide_eq_false c6;clear c6;have H':=qK H;clear H;have p304:0≤(x5_1:Int):=of_decide_eq_true (by first|(with_reducible assumption)|assumption);have q304:x5_1 < (l0.length:Int):=of_decide_eq_true (by first|(with_reducible assumption)|assumption);obtain ⟨ad304,A304_0,c304_0,e304,hx304_0,hl304_0,hi304_0⟩:=at_L1 HR0.out x5_1 p304 q304;cases e304
      have HR304_0:=qK hi304_0;have HC304_0:=qK hl304_0;clear hi304_0 hl304_0;replace p304:=eq_true p304;replace q304:=eq_true q304;go_wp2_with (first|((with_reducible refine gate_callee (f:=58) rfl ?_);refine goesL_ (some 17) rfl rfl Try.func58 (by kernel_rfl) rfl #[.slice A304_0 (rd_L1 l0 x5_1).length c304_0,.int .i64 x1_1] rfl (by (try simp only [mT,mC,mN]);first|done|rfl|(simp only [lD,lT];rfl)) ?_;(with_reducible refine (laws_heldIntS.calls k1 _ _ (rd_L1 l0 x5_1) x1_1 t305 _ ?side1 ?side2 A5.out).mono ?_);(case side1=>repeat (first|exact HR304_0.out|(with_reducible first|refine cL ?_ _|refine cN ?_ _|refine cW ?_)));(case side2=>exact HC304_0.out);rintro e w' ⟨rfl,⟨nd,rfl⟩⟩;refine ⟨_,rfl,?_⟩))
      go_roundg k1
      case measure=>have:=HK1.out;omega
      case rel=>exact ⟨(t305),(wrap64 (x5_1 + 1)),(by first|rfl|(simp;done)|(simp [*];done)),(by first|rfl|(simp;done)|(simp [*];done)),H',⟨by have:=HK1.out;omega⟩,by repeat (first|exact Drawn0.refl _|apply Drawn0.step)⟩
    ·rw [if_neg c4] at H;exact absurd H (by simp)
   ·rw [if_neg c3] at H;have c3b0:decide (x5_1 < (l0.length:Int))=false:=decide_eq_false c3;clear c3;obtain rfl:=Option.some.inj H;go_wp2
    go_ret
    exact ⟨by first|rfl|(simp;done)|(simp [*];done),by repeat (first|exact Drawn0.refl _|apply Drawn0.step)⟩

/-! ### laws_FnExactKeysOf: function 4 -/
theorem laws_szIntS_some (l : List Int) (a : Int) (h0 : 0 ≤ a) (h1 : a ≤ 1048576) (hl : l.length ≤ maxLen) : laws_szIntS.f l a = some (if a < (l.length : Int) then -1 else a - (l.length : Int)) := by
  unfold maxLen at hl
  unfold laws_szIntS.f
  rw [wrap_id (by omega) (by omega)]
  by_cases h : a < (l.length : Int)
  · rw [if_pos (by omega), if_pos h]
  · rw [if_neg (by omega), if_neg h]
theorem toIntS_ev (l : List Int) (hl : l.length ≤ 1048576) : Ev (fun k => laws_toIntS.f k l) l := by
  have loop := loop_up (n := l.length) (P := fun i => ∀ x : List Int, x.length = l.length → x.take i = l.take i → Ev (fun k => laws_toIntS.l0 k l x (i : Int)) l) ?_ ?_
  · unfold laws_toIntS.f
    refine Ev.pos (by omega) (Ev.pos (by omega) ?_)
    exact loop 0 (Nat.zero_le _) (List.replicate _ 0) (by simp) (by simp)
  · intro x hx ht
    refine Ev.succ ?_
    simp only [laws_toIntS.l0]
    refine Ev.neg (by omega) (Ev.const ?_)
    rw [List.take_of_length_le (by omega), List.take_of_length_le (by omega)] at ht
    rw [ht]
  · intro i hi ih x hx ht
    refine Ev.succ ?_
    simp only [laws_toIntS.l0]
    refine Ev.pos (by omega) (Ev.pos (by omega) (Ev.pos (by omega) ?_))
    rw [wrap_add (by omega) (by omega), rd_nat hi]
    refine ih _ (by simp [hx]) ?_
    rw [List.take_succ_eq_append_getElem (by simp [hx]; omega), List.take_succ_eq_append_getElem hi]
    simp only [Int.toNat_natCast, List.getElem_set_self]
    rw [List.take_set_of_le (by omega), ht]
theorem laws_toIntS_x (l : List Int) (hl : l.length ≤ 1048576) : ∃ k, laws_toIntS.f k l = some l := (toIntS_ev l hl).rounds
theorem eqIntS_ev (l : List Int) (hl : l.length ≤ 1048576) : Ev (fun k => laws_eqIntS.f k l l) true := by
  have loop := loop_up (n := l.length) (P := fun i => Ev (fun k => laws_eqIntS.l0 k l l (i : Int)) true) ?_ ?_
  · unfold laws_eqIntS.f
    exact Ev.pos rfl (loop 0 (Nat.zero_le _))
  · refine Ev.succ ?_
    simp only [laws_eqIntS.l0]
    exact Ev.neg (by omega) (Ev.const rfl)
  · intro i hi ih
    refine Ev.succ ?_
    simp only [laws_eqIntS.l0]
    refine Ev.pos (by omega) (Ev.pos (by omega) (Ev.pos (by omega) (Ev.pos trivial ?_)))
    rw [wrap_add (by omega) (by omega)]
    exact ih
theorem laws_eqIntS_x (l : List Int) (hl : l.length ≤ 1048576) : ∃ k, laws_eqIntS.f k l l = some true := (eqIntS_ev l hl).rounds
def markedIntS (n : Nat) (a : Int) : List Int := (List.range n).map (fun (j : Nat) => a + (j : Int))
def cntIntS (l : List Int) : Int := (l.length : Int)
theorem markIntS_ev (l : List Int) (a : Int) (hl : l.length ≤ 1048576) (h0 : 0 ≤ a) (h1 : a ≤ 1099511627776) : Ev (fun k => laws_markIntS.f k l a) (a + (l.length : Int), markedIntS l.length a) := by
  unfold markedIntS
  have loop := loop_up (n := l.length) (P := fun i => ∀ x : List Int, x.length = l.length → x.take i = (List.range i).map (fun (j : Nat) => a + (j : Int)) → Ev (fun k => laws_markIntS.l0 k x (a + (i : Int)) (i : Int)) (a + (l.length : Int), (List.range l.length).map (fun (j : Nat) => a + (j : Int)))) ?_ ?_
  · unfold laws_markIntS.f
    have := loop 0 (Nat.zero_le _) l rfl (by simp)
    rwa [show a + ((0 : Nat) : Int) = a by omega] at this
  · intro x hx ht
    refine Ev.succ ?_
    simp only [laws_markIntS.l0]
    refine Ev.neg (by omega) (Ev.const ?_)
    rw [List.take_of_length_le (by omega)] at ht
    rw [ht]
  · intro i hi ih x hx ht
    have h2 : wrap64 ((i : Int) + 1) = ((i + 1 : Nat) : Int) := by unfold wrap64; omega
    have h3 : wrap64 (a + (i : Int) + 1) = a + ((i + 1 : Nat) : Int) := by unfold wrap64; omega
    refine Ev.succ ?_
    simp only [laws_markIntS.l0]
    refine Ev.pos (by omega) (Ev.pos (by omega) ?_)
    rw [h3, h2]
    refine ih _ (by simp [hx]) ?_
    rw [List.take_succ_eq_append_getElem (by simp [hx]; omega), List.range_succ, List.map_append]
    simp only [Int.toNat_natCast, List.getElem_set_self]
    rw [List.take_set_of_le (by omega), ht]
    rfl
theorem laws_markIntS_x (l : List Int) (a : Int) (hl : l.length ≤ 1048576) (h0 : 0 ≤ a) (h1 : a ≤ 1099511627776) : ∃ k, laws_markIntS.f k l a = some (a + cntIntS l, markedIntS l.length a) := (markIntS_ev l a hl h0 h1).rounds
theorem cntIntS_ok (l : List Int) (hl : l.length ≤ 1048576) : 0 ≤ cntIntS l ∧ cntIntS l ≤ 16777216 := by unfold cntIntS; omega
theorem cntIntS_le (l : List Int) (hl : l.length ≤ 1048576) : 0 ≤ cntIntS l ∧ cntIntS l ≤ 16777216 := by unfold cntIntS; omega
theorem heldIntS_ev (n : Nat) (a : Int) (hn : n ≤ 1048576) (h0 : 0 ≤ a) (h1 : a ≤ 1099511627776) : Ev (fun k => laws_heldIntS.f k (markedIntS n a) a) (a + (n : Int)) := by
  unfold markedIntS
  have loop := loop_up (n := n) (P := fun i => Ev (fun k => laws_heldIntS.l0 k ((List.range n).map (fun (j : Nat) => a + (j : Int))) (a + (i : Int)) (i : Int)) (a + (n : Int))) ?_ ?_
  · unfold laws_heldIntS.f
    have := loop 0 (Nat.zero_le _)
    rwa [show a + ((0 : Nat) : Int) = a by omega] at this
  · refine Ev.succ ?_
    simp only [laws_heldIntS.l0]
    exact Ev.neg (by simp) (Ev.const rfl)
  · intro i hi ih
    have h2 : wrap64 ((i : Int) + 1) = ((i + 1 : Nat) : Int) := by unfold wrap64; omega
    have h3 : wrap64 (a + (i : Int) + 1) = a + ((i + 1 : Nat) : Int) := by unfold wrap64; omega
    refine Ev.succ ?_
    simp only [laws_heldIntS.l0]
    refine Ev.pos (by simp; omega) (Ev.pos (by omega) (Ev.pos (by rw [rd_nat (by simpa using hi)]; simp) ?_))
    rw [h3, h2]
    exact ih
theorem laws_heldIntS_x (l : List Int) (a : Int) (hl : l.length ≤ 1048576) (h0 : 0 ≤ a) (h1 : a ≤ 1099511627776) : ∃ k, laws_heldIntS.f k (markedIntS l.length a) a = some (a + cntIntS l) := (heldIntS_ev l.length a hl h0 h1).rounds
def okIntSS (l : List (List Int)) : Prop := l.length ≤ 1048576 ∧ (∀ x ∈ l, x.length ≤ 1048576) ∧ (l.map List.length).sum ≤ 1048576
theorem laws_eqIntSS_x (l : List (List Int)) (h : okIntSS l) : ∃ k, laws_eqIntSS.f k l l = some true := by
  obtain ⟨hl, hx, _⟩ := h
  have loop := loop_up (n := l.length) (P := fun i => Ev (fun k => laws_eqIntSS.l0 k l l (i : Int)) true) ?_ ?_
  · refine Ev.rounds ?_
    unfold laws_eqIntSS.f
    exact Ev.pos rfl (loop 0 (Nat.zero_le _))
  · refine Ev.succ ?_
    simp only [laws_eqIntSS.l0]
    exact Ev.neg (by omega) (Ev.const rfl)
  · intro i hi ih
    refine Ev.succ ?_
    simp only [laws_eqIntSS.l0]
    have hr : rd_L1 l (i : Int) = l[i] := by simp [rd_L1, hi]
    rw [hr, wrap_add (by omega) (by omega)]
    exact Ev.pos (by omega) (Ev.pos (by omega) (Ev.pos (by omega) (Ev.bind (eqIntS_ev _ (hx _ (List.getElem_mem hi))) (Ev.pos rfl ih))))
def cntIntSS (l : List (List Int)) : Int := (((l.map List.length).sum : Nat) : Int)
def markedIntSS : List (List Int) → Int → List (List Int)
  | [], _ => []
  | x :: l, a => markedIntS x.length a :: markedIntSS l (a + (x.length : Int))
theorem cntIntSS_ok (l : List (List Int)) (h : okIntSS l) : 0 ≤ cntIntSS l ∧ cntIntSS l ≤ 16777216 := by have := h.2.2; unfold cntIntSS; omega
theorem markIntSS_ev (l : List (List Int)) (a : Int) (hl : l.length ≤ 1048576) (hx : ∀ x ∈ l, x.length ≤ 1048576) (h0 : 0 ≤ a) (h1 : a + cntIntSS l ≤ 1099511627776) :
    Ev (fun k => laws_markIntSS.f k l a) (a + cntIntSS l, markedIntSS l a) := by
  have key : ∀ (d : Nat) (x : List (List Int)) (i : Nat) (p q : List (List Int)) (b : Int), x = p ++ q → p.length = i → q.length = d → x.length ≤ 1048576 → (∀ z ∈ q, z.length ≤ 1048576) → 0 ≤ b → b + cntIntSS q ≤ 1099511627776 →
      Ev (fun k => laws_markIntSS.l0 k x b (i : Int)) (b + cntIntSS q, p ++ markedIntSS q b) := by
    intro d
    induction d with
    | zero =>
      intro x i p q b hxe hp hq hxl _ _ _
      obtain rfl := List.length_eq_zero_iff.1 hq
      refine Ev.succ ?_
      simp only [laws_markIntSS.l0]
      refine Ev.neg (by rw [hxe]; simp [hp]) (Ev.const ?_)
      simp [cntIntSS, markedIntSS, hxe]
    | succ d ih =>
      intro x i p q b hxe hp hq hxl hb b0 b1
      obtain ⟨z, q, rfl⟩ : ∃ z t, q = z :: t := by cases q with
        | nil => simp at hq
        | cons z t => exact ⟨z, t, rfl⟩
      have hlen : x.length = i + (d + 1) := by rw [hxe, List.length_append, hp, hq]
      have hr : rdLL x (i : Int) = z := by rw [hxe]; simp [rdLL, ← hp]
      have c0 := hb z List.mem_cons_self
      have hc : cntIntSS (z :: q) = (z.length : Int) + cntIntSS q := by unfold cntIntSS; rw [List.map_cons, List.sum_cons]; omega
      have hn : 0 ≤ cntIntSS q := by unfold cntIntSS; omega
      rw [hc] at b1
      refine Ev.succ ?_
      simp only [laws_markIntSS.l0]
      rw [hr, wrap_add (by omega) (by omega)]
      refine Ev.pos (by omega) (Ev.pos (by omega) (Ev.bind (markIntS_ev _ b c0 b0 (by omega)) ?_))
      have hset : x.set (i : Int).toNat (markedIntS z.length b) = (p ++ [markedIntS z.length b]) ++ q := by rw [hxe, Int.toNat_natCast, ← hp]; simp
      rw [hset]
      have := ih _ (i + 1) (p ++ [markedIntS z.length b]) q (b + (z.length : Int)) rfl (by simp [hp]) (by simpa using hq) (by simp at hlen hq ⊢; omega) (fun y hy => hb y (List.mem_cons_of_mem _ hy)) (by omega) (by omega)
      have e1 : b + (z.length : Int) + cntIntSS q = b + cntIntSS (z :: q) := by rw [hc]; omega
      rw [e1] at this
      simpa [markedIntSS, List.append_assoc] using this
  exact key l.length l 0 [] l a rfl rfl rfl hl hx h0 h1
theorem laws_markIntSS_x (l : List (List Int)) (a : Int) (h : okIntSS l) (h0 : 0 ≤ a) (h1 : a + cntIntSS l ≤ 1099511627776) : ∃ k, laws_markIntSS.f k l a = some (a + cntIntSS l, markedIntSS l a) := (markIntSS_ev l a h.1 h.2.1 h0 h1).rounds
theorem markedIntSS_len : ∀ (l : List (List Int)) (a : Int), (markedIntSS l a).length = l.length
  | [], _ => rfl
  | x :: l, a => by simp [markedIntSS, markedIntSS_len l]
theorem heldIntSS_ev (l : List (List Int)) (a : Int) (hl : l.length ≤ 1048576) (hx : ∀ x ∈ l, x.length ≤ 1048576) (h0 : 0 ≤ a) (h1 : a + cntIntSS l ≤ 1099511627776) : Ev (fun k => laws_heldIntSS.f k (markedIntSS l a) a) (a + cntIntSS l) := by
  have key : ∀ (d : Nat) (x : List (List Int)) (i : Nat) (p : List (List Int)) (q : List (List Int)) (b : Int), x = p ++ markedIntSS q b → p.length = i → q.length = d → x.length ≤ 1048576 → (∀ z ∈ q, z.length ≤ 1048576) → 0 ≤ b → b + cntIntSS q ≤ 1099511627776 →
      Ev (fun k => laws_heldIntSS.l0 k x b (i : Int)) (b + cntIntSS q) := by
    intro d
    induction d with
    | zero =>
      intro x i p q b hxe hp hq hxl _ _ _
      obtain rfl := List.length_eq_zero_iff.1 hq
      refine Ev.succ ?_
      simp only [laws_heldIntSS.l0]
      refine Ev.neg (by rw [hxe]; simp [hp, markedIntSS]) (Ev.const ?_)
      simp [cntIntSS]
    | succ d ih =>
      intro x i p q b hxe hp hq hxl hb b0 b1
      obtain ⟨z, q, rfl⟩ : ∃ z t, q = z :: t := by cases q with
        | nil => simp at hq
        | cons z t => exact ⟨z, t, rfl⟩
      have hlen : x.length = i + (d + 1) := by rw [hxe, List.length_append, hp, markedIntSS_len, hq]
      have hr : rd_L1 x (i : Int) = markedIntS z.length b := by rw [hxe]; simp [rd_L1, ← hp, markedIntSS]
      have c0 := hb z List.mem_cons_self
      have hc : cntIntSS (z :: q) = (z.length : Int) + cntIntSS q := by unfold cntIntSS; rw [List.map_cons, List.sum_cons]; omega
      have hn : 0 ≤ cntIntSS q := by unfold cntIntSS; omega
      rw [hc] at b1
      refine Ev.succ ?_
      simp only [laws_heldIntSS.l0]
      rw [hr, wrap_add (by omega) (by omega)]
      refine Ev.pos (by omega) (Ev.pos (by omega) (Ev.bind (heldIntS_ev z.length b c0 b0 (by omega)) (Ev.neg (by omega) ?_)))
      have := ih x (i + 1) (p ++ [markedIntS z.length b]) q (b + (z.length : Int)) (by rw [hxe]; simp [markedIntSS]) (by simp [hp]) (by simpa using hq) hxl (fun y hy => hb y (List.mem_cons_of_mem _ hy)) (by omega) (by omega)
      have e1 : b + (z.length : Int) + cntIntSS q = b + cntIntSS (z :: q) := by rw [hc]; omega
      rw [e1] at this
      exact this
  exact key l.length _ 0 [] l a rfl rfl rfl (by rw [markedIntSS_len]; exact hl) hx h0 h1
theorem laws_heldIntSS_x (l : List (List Int)) (a : Int) (h : okIntSS l) (h0 : 0 ≤ a) (h1 : a + cntIntSS l ≤ 1099511627776) : ∃ k, laws_heldIntSS.f k (markedIntSS l a) a = some (a + cntIntSS l) := (heldIntSS_ev l a h.1 h.2.1 h0 h1).rounds
def wtD (x : S78) : Nat := x.f0.length + x.f1.length
theorem sum_ge : ∀ {l : List Nat} {x : Nat}, x ∈ l → x ≤ l.sum
  | a :: l, x, h => by
    rw [List.sum_cons]
    rcases List.mem_cons.1 h with rfl | h
    · omega
    · have := sum_ge h; omega
def szOk_laws_szDependS (l : List S78) : Prop := l.length + (l.map wtD).sum ≤ 1048576
theorem laws_szDependS_x (l : List S78) (a : Int) (h0 : 0 ≤ a) (h1 : a ≤ 1048576) (hl : l.length ≤ maxLen ∧ ∀ x, x ∈ l → (x.f0.length ≤ maxLen ∧ ∀ y, y ∈ x.f0 → (Lit.int .i64 y).wf = true) ∧ (x.f1.length ≤ maxLen ∧ ∀ y, y ∈ x.f1 → (Lit.int .i64 y).wf = true)) :
    ∃ s, (∃ k, laws_szDependS.f k l a = some s) ∧ (s < 0 ∨ szOk_laws_szDependS l ∧ 0 ≤ s ∧ s ≤ 1048576) := by
  have hm : l.length ≤ 9223372036854775807 := by have := hl.1; unfold maxLen at this; omega
  have loop := loop_up (n := l.length) (P := fun i => ∀ b : Int, 0 ≤ b → b ≤ 1048576 → ∃ s, Ev (fun k => laws_szDependS.l0 k l b (i : Int)) s ∧ (s < 0 ∨ (((l.drop i).map wtD).sum : Nat) ≤ b ∧ 0 ≤ s ∧ s ≤ b)) ?_ ?_
  · unfold laws_szDependS.f
    rw [wrap_id (by omega) (by omega)]
    by_cases h : a - (l.length : Int) < 0
    · exact ⟨-1, (Ev.pos h (Ev.const rfl)).rounds, .inl (by omega)⟩
    · obtain ⟨s, hs, hq⟩ := loop 0 (Nat.zero_le _) (a - (l.length : Int)) (by omega) (by omega)
      refine ⟨s, (Ev.neg h hs).rounds, ?_⟩
      rcases hq with hq | ⟨q1, q2, q3⟩
      · exact .inl hq
      · refine .inr ⟨?_, q2, by omega⟩
        unfold szOk_laws_szDependS
        simp only [List.drop_zero] at q1
        omega
  · intro b b0 b1
    refine ⟨b, Ev.succ ?_, .inr ⟨by simp; omega, b0, by omega⟩⟩
    simp only [laws_szDependS.l0]
    exact Ev.neg (by omega) (Ev.const rfl)
  · intro i hi ih b b0 b1
    have hx := hl.2 l[i] (List.getElem_mem hi)
    have hr : rd_T78 l (i : Int) = l[i] := by simp [rd_T78, hi]
    have hd : ((l.drop i).map wtD).sum = wtD l[i] + ((l.drop (i + 1)).map wtD).sum := by rw [List.drop_eq_getElem_cons hi, List.map_cons, List.sum_cons]
    have e1 := laws_szIntS_some l[i].f0 b b0 b1 hx.1.1
    by_cases c1 : b < (l[i].f0.length : Int)
    · rw [if_pos c1] at e1
      refine ⟨-1, Ev.succ ?_, .inl (by omega)⟩
      simp only [laws_szDependS.l0]
      rw [hr]
      refine Ev.pos (by omega) (Ev.pos (by omega) (Ev.bind (Ev.const (by unfold laws_szDepend.f; rw [e1]; simp; rfl)) (Ev.pos (by omega) (Ev.const rfl))))
    rw [if_neg c1] at e1
    have e2 := laws_szIntS_some l[i].f1 (b - (l[i].f0.length : Int)) (by omega) (by omega) hx.2.1
    by_cases c2 : b - (l[i].f0.length : Int) < (l[i].f1.length : Int)
    · rw [if_pos c2] at e2
      refine ⟨-1, Ev.succ ?_, .inl (by omega)⟩
      simp only [laws_szDependS.l0]
      rw [hr]
      refine Ev.pos (by omega) (Ev.pos (by omega) (Ev.bind (Ev.const (by unfold laws_szDepend.f; rw [e1]; simp only [Option.bind_some]; rw [if_neg (by omega), e2]; simp; rfl)) (Ev.pos (by omega) (Ev.const rfl))))
    rw [if_neg c2] at e2
    obtain ⟨s, hs, hq⟩ := ih (b - (l[i].f0.length : Int) - (l[i].f1.length : Int)) (by omega) (by omega)
    refine ⟨s, Ev.succ ?_, ?_⟩
    · simp only [laws_szDependS.l0]
      rw [hr, wrap_add (by omega) (by omega)]
      exact Ev.pos (by omega) (Ev.pos (by omega) (Ev.bind (Ev.const (by unfold laws_szDepend.f; rw [e1]; simp only [Option.bind_some]; rw [if_neg (by omega), e2]; simp only [Option.bind_some]; rw [if_neg (by omega)])) (Ev.neg (by omega) hs)))
    · rcases hq with hq | ⟨q1, q2, q3⟩
      · exact .inl hq
      · rw [hd]; unfold wtD at *; exact .inr ⟨by omega, q2, by omega⟩
def cvD (x : S78) : S68 := ⟨x.f0, x.f1⟩
def cvDependS (l : List S78) : List S68 := l.map cvD
theorem wtD_le {l : List S78} (h : szOk_laws_szDependS l) : l.length ≤ 1048576 ∧ ∀ x ∈ l, x.f0.length ≤ 1048576 ∧ x.f1.length ≤ 1048576 := by
  unfold szOk_laws_szDependS at h
  refine ⟨by omega, fun x hx => ?_⟩
  have := sum_ge (List.mem_map_of_mem (f := wtD) hx)
  unfold wtD at *
  omega
theorem laws_toDependS_x (l : List S78) (h : szOk_laws_szDependS l) : ∃ k, laws_toDependS.f k l = some (cvDependS l) := by
  obtain ⟨hl, hx⟩ := wtD_le h
  unfold cvDependS
  have loop := loop_up (n := l.length) (P := fun i => ∀ x : List S68, x.length = l.length → x.take i = (l.map cvD).take i → Ev (fun k => laws_toDependS.l0 k l x (i : Int)) (l.map cvD)) ?_ ?_
  · refine Ev.rounds ?_
    unfold laws_toDependS.f
    refine Ev.pos (by omega) (Ev.pos (by omega) ?_)
    exact loop 0 (Nat.zero_le _) (List.replicate _ z68) (by simp) (by simp)
  · intro x hx2 ht
    refine Ev.succ ?_
    simp only [laws_toDependS.l0]
    refine Ev.neg (by omega) (Ev.const ?_)
    rw [List.take_of_length_le (by omega), List.take_of_length_le (by simp)] at ht
    rw [ht]
  · intro i hi ih x hx2 ht
    have hr : rd_T78 l (i : Int) = l[i] := by simp [rd_T78, hi]
    obtain ⟨b0, b1⟩ := hx l[i] (List.getElem_mem hi)
    refine Ev.succ ?_
    simp only [laws_toDependS.l0]
    rw [hr]
    refine Ev.pos (by omega) (Ev.pos (by omega) (Ev.bind (a := (l[i].f0, l[i].f1)) ?_ (Ev.pos (by omega) ?_)))
    · unfold laws_toDepend.f
      exact Ev.bind (toIntS_ev _ b0) (Ev.bind (toIntS_ev _ b1) (Ev.const rfl))
    rw [wrap_add (by omega) (by omega)]
    refine ih _ (by simp [hx2]) ?_
    rw [List.take_succ_eq_append_getElem (by simp [hx2]; omega), List.take_succ_eq_append_getElem (by simpa using hi)]
    simp only [Int.toNat_natCast, List.getElem_set_self, List.getElem_map]
    rw [List.take_set_of_le (by omega), ht]
    rfl
def okDependS (l : List S68) : Prop := (l.length ≤ 1048576 ∧ ∀ x ∈ l, x.f0.length ≤ 1048576 ∧ x.f1.length ≤ 1048576) ∧ (l.map fun x => x.f0.length + x.f1.length).sum ≤ 16777216
theorem okDependS_cv {l : List S78} (h : szOk_laws_szDependS l) : okDependS (cvDependS l) := by
  obtain ⟨hl, hx⟩ := wtD_le h
  refine ⟨⟨by unfold cvDependS; simpa using hl, fun x hx2 => ?_⟩, ?_⟩
  · obtain ⟨y, hy, rfl⟩ := List.mem_map.1 hx2
    exact hx y hy
  · unfold szOk_laws_szDependS at h
    have : ((cvDependS l).map fun x => x.f0.length + x.f1.length).sum = (l.map wtD).sum := by
      unfold cvDependS
      rw [List.map_map]; rfl
    omega
theorem laws_eqDependS_x (l : List S68) (h : okDependS l) : ∃ k, laws_eqDependS.f k l l = some true := by
  obtain ⟨⟨hl, hx⟩, _⟩ := h
  have loop := loop_up (n := l.length) (P := fun i => Ev (fun k => laws_eqDependS.l0 k l l (i : Int)) true) ?_ ?_
  · refine Ev.rounds ?_
    unfold laws_eqDependS.f
    exact Ev.pos rfl (loop 0 (Nat.zero_le _))
  · refine Ev.succ ?_
    simp only [laws_eqDependS.l0]
    exact Ev.neg (by omega) (Ev.const rfl)
  · intro i hi ih
    have hr : rd_T68 l (i : Int) = l[i] := by simp [rd_T68, hi]
    obtain ⟨b0, b1⟩ := hx l[i] (List.getElem_mem hi)
    refine Ev.succ ?_
    simp only [laws_eqDependS.l0]
    rw [hr, wrap_add (by omega) (by omega)]
    refine Ev.pos (by omega) (Ev.pos (by omega) (Ev.pos (by omega) (Ev.bind (a := true) ?_ (Ev.pos rfl ih))))
    unfold laws_eqDepend.f
    exact Ev.bind (eqIntS_ev _ b0) (Ev.pos rfl (Ev.bind (eqIntS_ev _ b1) (Ev.pos rfl (Ev.const rfl))))
def cntDependS (l : List S68) : Int := (((l.map fun x => x.f0.length + x.f1.length).sum : Nat) : Int)
def markedDependS : List S68 → Int → List S68
  | [], _ => []
  | x :: l, a => ⟨markedIntS x.f0.length a, markedIntS x.f1.length (a + (x.f0.length : Int))⟩ :: markedDependS l (a + (x.f0.length : Int) + (x.f1.length : Int))
theorem markDependS_ev (l : List S68) (a : Int) (hl : l.length ≤ 1048576) (hx : ∀ x ∈ l, x.f0.length ≤ 1048576 ∧ x.f1.length ≤ 1048576) (h0 : 0 ≤ a) (h1 : a + cntDependS l ≤ 1099511627776) :
    Ev (fun k => laws_markDependS.f k l a) (a + cntDependS l, markedDependS l a) := by
  have key : ∀ (d : Nat) (x : List S68) (i : Nat) (p q : List S68) (b : Int), x = p ++ q → p.length = i → q.length = d → x.length ≤ 1048576 → (∀ z ∈ q, z.f0.length ≤ 1048576 ∧ z.f1.length ≤ 1048576) → 0 ≤ b → b + cntDependS q ≤ 1099511627776 →
      Ev (fun k => laws_markDependS.l0 k x b (i : Int)) (b + cntDependS q, p ++ markedDependS q b) := by
    intro d
    induction d with
    | zero =>
      intro x i p q b hxe hp hq hxl _ _ _
      obtain rfl := List.length_eq_zero_iff.1 hq
      refine Ev.succ ?_
      simp only [laws_markDependS.l0]
      refine Ev.neg (by rw [hxe]; simp [hp]) (Ev.const ?_)
      simp [cntDependS, markedDependS, hxe]
    | succ d ih =>
      intro x i p q b hxe hp hq hxl hb b0 b1
      obtain ⟨z, q, rfl⟩ : ∃ z t, q = z :: t := by cases q with
        | nil => simp at hq
        | cons z t => exact ⟨z, t, rfl⟩
      have hlen : x.length = i + (d + 1) := by rw [hxe, List.length_append, hp, hq]
      have hr : rd_T68 x (i : Int) = z := by rw [hxe]; simp [rd_T68, ← hp]
      obtain ⟨c0, c1⟩ := hb z List.mem_cons_self
      have hc : cntDependS (z :: q) = (z.f0.length : Int) + (z.f1.length : Int) + cntDependS q := by unfold cntDependS; rw [List.map_cons, List.sum_cons]; omega
      have hn : 0 ≤ cntDependS q := by unfold cntDependS; omega
      rw [hc] at b1
      refine Ev.succ ?_
      simp only [laws_markDependS.l0]
      rw [hr, wrap_add (by omega) (by omega)]
      refine Ev.pos (by omega) (Ev.pos (by omega) (Ev.bind (markIntS_ev _ b c0 b0 (by omega)) (Ev.bind (markIntS_ev _ (b + (z.f0.length : Int)) c1 (by omega) (by omega)) ?_)))
      have hset : x.set (i : Int).toNat ⟨markedIntS z.f0.length b, markedIntS z.f1.length (b + (z.f0.length : Int))⟩ = (p ++ [⟨markedIntS z.f0.length b, markedIntS z.f1.length (b + (z.f0.length : Int))⟩]) ++ q := by
        rw [hxe, Int.toNat_natCast, ← hp]; simp
      rw [hset]
      have := ih _ (i + 1) (p ++ [⟨markedIntS z.f0.length b, markedIntS z.f1.length (b + (z.f0.length : Int))⟩]) q (b + (z.f0.length : Int) + (z.f1.length : Int)) rfl (by simp [hp]) (by simpa using hq) (by simp at hlen hq ⊢; omega) (fun y hy => hb y (List.mem_cons_of_mem _ hy)) (by omega) (by omega)
      have e1 : b + (z.f0.length : Int) + (z.f1.length : Int) + cntDependS q = b + cntDependS (z :: q) := by rw [hc]; omega
      rw [e1] at this
      simpa [markedDependS, List.append_assoc] using this
  exact key l.length l 0 [] l a rfl rfl rfl hl hx h0 h1
theorem cntDependS_ok (l : List S68) (h : okDependS l) : 0 ≤ cntDependS l ∧ cntDependS l ≤ 16777216 := by
  have := h.2
  unfold cntDependS; omega
theorem cntDependS_sz {l : List S78} (h : szOk_laws_szDependS l) : 0 ≤ cntDependS (cvDependS l) ∧ cntDependS (cvDependS l) ≤ 16777216 := by
  unfold szOk_laws_szDependS at h
  have : cntDependS (cvDependS l) = (((l.map wtD).sum : Nat) : Int) := by
    unfold cntDependS cvDependS
    rw [List.map_map]; rfl
  rw [this]; omega
theorem laws_markDependS_x (l : List S68) (a : Int) (h : okDependS l) (h0 : 0 ≤ a) (h1 : a + cntDependS l ≤ 1099511627776) : ∃ k, laws_markDependS.f k l a = some (a + cntDependS l, markedDependS l a) := (markDependS_ev l a h.1.1 h.1.2 h0 h1).rounds
/-- THE ONE PURE STATEMENT of laws_FnExactKeysOf: what the reference tells, the program tells. -/
def laws_FnExactKeysOf.Pure : Prop := ∀ (l0 : List (S78)) (a1 : Int), (l0.length ≤ maxLen ∧ ∀ x_, x_ ∈ l0 → (x_.f0.length ≤ maxLen ∧ ∀ x__, x__ ∈ x_.f0 → (Lit.int .i64 x__).wf = true) ∧ (x_.f1.length ≤ maxLen ∧ ∀ x__, x__ ∈ x_.f1 → (Lit.int .i64 x__).wf = true)) → ((Lit.int .i64 a1).wf = true) → szOk_laws_szDependS l0 → ∃ (k : Nat) (r : (List (List Int)) × Bool), spec_KeysOf.f k (cvDependS l0) a1 = some r ∧ impl_KeysOf.f k (cvDependS l0) a1 = some r ∧ okIntSS r.1
set_option maxHeartbeats 16000000 in
set_option maxRecDepth 100000 in
theorem laws_FnExactKeysOf.walk (P:laws_FnExactKeysOf.Pure) (A0:Option Addr) (c0:Nat) (l0:List (S78)) (a1:Int) (w:World) (hr0:Kd.C k78 w A0 l0.length l0) (hc0:l0.length≤c0) (wq0:l0.length≤maxLen∧∀ x_,x_ ∈ l0→(x_.f0.length≤maxLen∧∀ x__,x__ ∈ x_.f0→(Lit.int .i64 x__).wf=true)∧(x_.f1.length≤maxLen∧∀ x__,x__ ∈ x_.f1→(Lit.int .i64 x__).wf=true)) (wq1:(Lit.int .i64 a1).wf=true) :
  Calls Try.prog 4 #[.slice A0 l0.length c0,.int .i64 a1] w fun e w'=>e=.returned (.bool true)∧Below w.heap.size w w':=by
 have HR0:=qK hr0;have HC0:=qK hc0;clear hr0 hc0;have HB:=qK (Below.refl w.heap.size w);obtain ⟨s1_,Nr1_,q1_⟩:=laws_szDependS_x l0 1048576 (by omega) (by omega) wq0;obtain ⟨kz1_,Nr1_⟩:=Nr1_;have N1:=qK Nr1_;clear Nr1_;by_cases g0_:s1_ < 0
 ·have g0_b:decide (s1_ < 0)=true:=decide_eq_true g0_;clear g0_ q1_;go_enter Try.func4,Try.ntmps4
  go_wp2_with (first|((with_reducible refine gate_callee (f:=18) rfl ?_);refine goesL_ (some 18) rfl rfl Try.func18 (by kernel_rfl) rfl #[.slice A0 l0.length c0,.int .i64 1048576] rfl (by (try simp only [mT,mC,mN]);first|done|rfl|(simp only [lD,lT];rfl)) ?_;(with_reducible refine (laws_szDependS.calls (hr0:=cB HR0.out HB.out) (hc0:=HC0.out) (h:=N1.out)).mono ?_);rintro e w1 ⟨rfl,hb⟩;have HST:=qK (hb);have HB1:=qK (qT HB.out HST.out);have HS1:=qK (show w.heap.size≤w1.heap.size from HST.out.size);clear hb HST;refine ⟨_,rfl,?_⟩))
  go_ret
  exact ⟨rfl,HB1.out⟩
 have g0_b:decide (s1_ < 0)=false:=decide_eq_false g0_;have hz1_:szOk_laws_szDependS l0:=by rcases q1_ with h_|h_;exact absurd h_ g0_;exact h_.1
 have hs1_:0≤s1_∧s1_≤1048576:=by rcases q1_ with h_|h_;exact absurd h_ g0_;exact h_.2
 clear q1_;obtain ⟨k_,⟨o0_,o1_⟩,P1,P2,P3⟩:=P l0 a1 wq0 wq1 hz1_;replace P3:okIntSS o0_:=P3;obtain ⟨k2_,Nr2_⟩:=laws_toDependS_x l0 hz1_;have Nr3_:=P1;obtain ⟨k4_,Nr4_⟩:=laws_toDependS_x l0 hz1_;have Nr5_:=P2;obtain ⟨k6_,Nr6_⟩:=laws_eqIntSS_x o0_ P3;obtain ⟨k7_,Nr7_⟩:=laws_toDependS_x l0 hz1_;obtain ⟨k8_,Nr8_⟩:=laws_eqDependS_x (cvDependS l0) (okDependS_cv hz1_);have hb9_:=cntDependS_sz hz1_;obtain ⟨k9_,Nr9_⟩:=laws_markDependS_x (cvDependS l0) 1 (okDependS_cv hz1_) (by omega) (by omega);obtain ⟨m9_,hm9_⟩:∃ z_,z_=1 + cntDependS (cvDependS l0):=⟨_,rfl⟩;rw [← hm9_] at Nr9_;obtain ⟨y9_0,hy9_0⟩:∃ z_,z_=markedDependS (cvDependS l0) 1:=⟨_,rfl⟩;rw [← hy9_0] at Nr9_;clear hy9_0;obtain ⟨k10_,Nr10_⟩:=laws_eqIntSS_x o0_ P3;have hb11_:=cntIntSS_ok _ P3;obtain ⟨k11_,Nr11_⟩:=laws_markIntSS_x o0_ 1 P3 (by omega) (by omega);obtain ⟨k12_,Nr12_⟩:=laws_heldIntSS_x o0_ 1 P3 (by omega) (by omega);obtain ⟨m11_,hm11_⟩:∃ z_,z_=1 + cntIntSS o0_:=⟨_,rfl⟩;rw [← hm11_] at Nr11_ Nr12_;obtain ⟨y11_0,hy11_0⟩:∃ z_,z_=markedIntSS o0_ 1:=⟨_,rfl⟩;rw [← hy11_0] at Nr11_ Nr12_;clear hy11_0;have Nr16_:=Nr12_;obtain ⟨k13_,Nr13_⟩:=laws_toDependS_x l0 hz1_;have Nr14_:=P2;obtain ⟨k15_,Nr15_⟩:=laws_eqIntSS_x o0_ P3;have N2:=qK Nr2_;have N3:=qK Nr3_;have N4:=qK Nr4_;have N5:=qK Nr5_;have N6:=qK Nr6_;have N7:=qK Nr7_;have N8:=qK Nr8_;have N9:=qK Nr9_;have N10:=qK Nr10_;have N11:=qK Nr11_;have N12:=qK Nr12_;have N13:=qK Nr13_;have N14:=qK Nr14_;have N15:=qK Nr15_;have N16:=qK Nr16_;have cdm11_:decide (m11_ < 0)=false:=decide_eq_false (by omega);have cdm9_:decide (m9_ < 0)=false:=decide_eq_false (by omega);have cnm11_:(m11_ != m11_)=false:=bne_self_eq_false _;have cno1_:(o1_ != o1_)=false:=bne_self_eq_false _;clear P1 P2 P3 Nr2_ Nr3_ Nr4_ Nr5_ Nr6_ Nr7_ Nr8_ Nr9_ Nr10_ Nr11_ Nr12_ Nr13_ Nr14_ Nr15_ Nr16_ hm9_ hb9_ hm11_ hb11_;clear P g0_ hz1_ hs1_ wq0 wq1;go_enter Try.func4,Try.ntmps4
 go_upto_region 3 with (first|((with_reducible refine gate_callee (f:=18) rfl ?_);refine goesL_ (some 18) rfl rfl Try.func18 (by kernel_rfl) rfl #[.slice A0 l0.length c0,.int .i64 1048576] rfl (by (try simp only [mT,mC,mN]);first|done|rfl|(simp only [lD,lT];rfl)) ?_;(with_reducible refine (laws_szDependS.calls (hr0:=cB HR0.out HB.out) (hc0:=HC0.out) (h:=N1.out)).mono ?_);rintro e w1 ⟨rfl,hb⟩;have HST:=qK (hb);have HB1:=qK (qT HB.out HST.out);have HS1:=qK (show w.heap.size≤w1.heap.size from HST.out.size);clear hb HST;refine ⟨_,rfl,?_⟩))
 go_upto_region 6 with (first|((with_reducible refine gate_callee (f:=19) rfl ?_);refine goesL_ (some 23) rfl rfl Try.func19 (by kernel_rfl) rfl #[.slice A0 l0.length c0] rfl (by (try simp only [mT,mC,mN]);first|done|rfl|(simp only [lD,lT];rfl)) ?_;(with_reducible refine (laws_toDependS.calls (hr0:=cB HR0.out HB1.out) (hc0:=HC0.out) (h:=N2.out)).mono ?_);rintro e w2 ⟨v0_,rfl,ho0,hb⟩;have HST:=qK (hb);have HB2:=qK (qT HB1.out HST.out);have HS2:=qK (show w1.heap.size≤w2.heap.size from HST.out.size);obtain ⟨Af1,cf1,ef1⟩:=Kd.S_slice ho0;subst ef1;have F1:=qK (show Kd.S k68 68 w2 w.heap.size (fun k_=>w1.heap.size≤k_∧k_ < w2.heap.size) (.slice Af1 (cvDependS l0).length cf1) (cvDependS l0) from Kd.S_lower (Kd.S_mono (Kd.S_bound ho0) (fun k_ hk_=>⟨hk_.2.1,hk_.2.2.1⟩)) (qZ HB1.out));clear hb HST ho0;clear HB1;refine ⟨_,rfl,?_⟩)|((with_reducible refine gate_callee (f:=16) rfl ?_);refine goesL_ (some 25) rfl rfl Try.func16 (by kernel_rfl) rfl #[.slice Af1 (cvDependS l0).length cf1,.int .i64 a1] rfl (by (try simp only [mT,mC,mN]);first|done|rfl|(simp only [lD,lT];rfl)) ?_;(with_reducible refine (spec_KeysOf.calls (hr0:=(Kd.S_reads' F1.out).2.2) (hc0:=(Kd.S_reads' F1.out).2.1) (h:=N3.out)).mono ?_);rintro e w3 ⟨v0_,rfl,ho0,hb⟩;have HST:=qK (hb);have HB3:=qK (qT HB2.out HST.out);have HS3:=qK (show w2.heap.size≤w3.heap.size from HST.out.size);replace ho0:=Kd.N_V (base':=w2.heap.size) ho0;obtain ⟨Af2,cf2,ef2⟩:=Kd.V_slice ho0;subst ef2;have F2:=qK (show Kd.V (Kd.slice 3 (Kd.int .i64)) 24 w3 w.heap.size (fun k_=>w2.heap.size≤k_∧k_ < w3.heap.size) (.slice Af2 o0_.length cf2) o0_ from Kd.V_lower (Kd.V_mono (Kd.V_bound ho0) (fun k_ hk_=>⟨(by have h_:=hk_.1;first|exact h_|exact h_.1),hk_.2⟩)) (qZ HB2.out));clear F1;clear hb HST ho0;clear HB2;refine ⟨_,rfl,?_⟩))
 go_upto_region 7 with (first|((with_reducible refine gate_callee (f:=19) rfl ?_);refine goesL_ (some 29) rfl rfl Try.func19 (by kernel_rfl) rfl #[.slice A0 l0.length c0] rfl (by (try simp only [mT,mC,mN]);first|done|rfl|(simp only [lD,lT];rfl)) ?_;(with_reducible refine (laws_toDependS.calls (hr0:=cB HR0.out HB3.out) (hc0:=HC0.out) (h:=N4.out)).mono ?_);rintro e w4 ⟨v0_,rfl,ho0,hb⟩;have HST:=qK (hb);have HB4:=qK (qT HB3.out HST.out);have HS4:=qK (show w3.heap.size≤w4.heap.size from HST.out.size);obtain ⟨Af3,cf3,ef3⟩:=Kd.S_slice ho0;subst ef3;have F3:=qK (show Kd.S k68 68 w4 w.heap.size (fun k_=>w3.heap.size≤k_∧k_ < w4.heap.size) (.slice Af3 (cvDependS l0).length cf3) (cvDependS l0) from Kd.S_lower (Kd.S_mono (Kd.S_bound ho0) (fun k_ hk_=>⟨hk_.2.1,hk_.2.2.1⟩)) (qZ HB3.out));have F2_:=qK (Kd.V_below F2.out HST.out);clear F2;have F2:=F2_;clear F2_;clear hb HST ho0;clear HB3;refine ⟨_,rfl,?_⟩))
 go_upto_region 8 with (first|((with_reducible refine gate_callee (f:=15) rfl ?_);refine goesL_ (some 33) rfl rfl Try.func15 (by kernel_rfl) rfl #[.slice Af3 (cvDependS l0).length cf3,.int .i64 a1] rfl (by (try simp only [mT,mC,mN]);first|done|rfl|(simp only [lD,lT];rfl)) ?_;(with_reducible refine (impl_KeysOf.calls (hr0:=(Kd.S_reads' F3.out).2.2) (hc0:=(Kd.S_reads' F3.out).2.1) (h:=N5.out)).mono ?_);rintro e w5 ⟨v0_,rfl,ho0,hb⟩;have HST:=qK (hb);have HB5:=qK (qT HB4.out HST.out);have HS5:=qK (show w4.heap.size≤w5.heap.size from HST.out.size);obtain ⟨Af4,cf4,ef4⟩:=Kd.S_slice ho0;subst ef4;have F4:=qK (show Kd.S (Kd.slice 3 (Kd.int .i64)) 24 w5 w.heap.size (fun k_=>w4.heap.size≤k_∧k_ < w5.heap.size) (.slice Af4 o0_.length cf4) o0_ from Kd.S_lower (Kd.S_mono (Kd.S_bound ho0) (fun k_ hk_=>⟨hk_.2.1,hk_.2.2.1⟩)) (qZ HB4.out));have F2_:=qK (Kd.V_below F2.out HST.out);clear F2;have F2:=F2_;clear F2_;have F3_:=qK (Kd.S_below F3.out HST.out);clear F3;have F3:=F3_;clear F3_;clear hb HST ho0;clear HB4;refine ⟨_,rfl,?_⟩))
 go_upto_region 10 with (first|((with_reducible refine gate_callee (f:=20) rfl ?_);refine goesL_ (some 38) rfl rfl Try.func20 (by kernel_rfl) rfl #[.slice Af4 o0_.length cf4,.slice Af2 o0_.length cf2] rfl (by (try simp only [mT,mC,mN]);first|done|rfl|(simp only [lD,lT];rfl)) ?_;(with_reducible refine (laws_eqIntSS.calls (hr0:=(Kd.S_reads' F4.out).2.2) (hc0:=(Kd.S_reads' F4.out).2.1) (hr1:=(Kd.V_reads' F2.out).2.2) (hc1:=(Kd.V_reads' F2.out).2.1) (h:=N6.out)).mono ?_);rintro e w6 ⟨rfl,hdr⟩;have HST:=qK (hdr.below);have HB6:=qK (qT HB5.out HST.out);have HS6:=qK (show w5.heap.size≤w6.heap.size from HST.out.size);have F2_:=qK (Kd.V_below F2.out HST.out);clear F2;have F2:=F2_;clear F2_;have F3_:=qK (Kd.S_below F3.out HST.out);clear F3;have F3:=F3_;clear F3_;have F4_:=qK (Kd.S_below F4.out HST.out);clear F4;have F4:=F4_;clear F4_;clear hdr HST;clear HB5;refine ⟨_,rfl,?_⟩))
 go_upto_region 12 with (first|((with_reducible refine gate_callee (f:=19) rfl ?_);refine goesL_ (some 47) rfl rfl Try.func19 (by kernel_rfl) rfl #[.slice A0 l0.length c0] rfl (by (try simp only [mT,mC,mN]);first|done|rfl|(simp only [lD,lT];rfl)) ?_;(with_reducible refine (laws_toDependS.calls (hr0:=cB HR0.out HB6.out) (hc0:=HC0.out) (h:=N7.out)).mono ?_);rintro e w7 ⟨v0_,rfl,ho0,hb⟩;have HST:=qK (hb);have HB7:=qK (qT HB6.out HST.out);have HS7:=qK (show w6.heap.size≤w7.heap.size from HST.out.size);obtain ⟨Af5,cf5,ef5⟩:=Kd.S_slice ho0;subst ef5;have F5:=qK (show Kd.S k68 68 w7 w.heap.size (fun k_=>w6.heap.size≤k_∧k_ < w7.heap.size) (.slice Af5 (cvDependS l0).length cf5) (cvDependS l0) from Kd.S_lower (Kd.S_mono (Kd.S_bound ho0) (fun k_ hk_=>⟨hk_.2.1,hk_.2.2.1⟩)) (qZ HB6.out));have F2_:=qK (Kd.V_below F2.out HST.out);clear F2;have F2:=F2_;clear F2_;have F3_:=qK (Kd.S_below F3.out HST.out);clear F3;have F3:=F3_;clear F3_;have F4_:=qK (Kd.S_below F4.out HST.out);clear F4;have F4:=F4_;clear F4_;clear hb HST ho0;clear HB6;refine ⟨_,rfl,?_⟩)|((with_reducible refine gate_callee (f:=21) rfl ?_);refine goesL_ (some 48) rfl rfl Try.func21 (by kernel_rfl) rfl #[.slice Af3 (cvDependS l0).length cf3,.slice Af5 (cvDependS l0).length cf5] rfl (by (try simp only [mT,mC,mN]);first|done|rfl|(simp only [lD,lT];rfl)) ?_;(with_reducible refine (laws_eqDependS.calls (hr0:=(Kd.S_reads' F3.out).2.2) (hc0:=(Kd.S_reads' F3.out).2.1) (hr1:=(Kd.S_reads' F5.out).2.2) (hc1:=(Kd.S_reads' F5.out).2.1) (h:=N8.out)).mono ?_);rintro e w8 ⟨rfl,hb⟩;have HST:=qK (hb);have HB8:=qK (qT HB7.out HST.out);have HS8:=qK (show w7.heap.size≤w8.heap.size from HST.out.size);have F2_:=qK (Kd.V_below F2.out HST.out);clear F2;have F2:=F2_;clear F2_;have F3_:=qK (Kd.S_below F3.out HST.out);clear F3;have F3:=F3_;clear F3_;have F4_:=qK (Kd.S_below F4.out HST.out);clear F4;have F4:=F4_;clear F4_;clear F5;clear hb HST;clear HB7;refine ⟨_,rfl,?_⟩))
 go_upto_region 14 with (first|((with_reducible refine gate_callee (f:=22) rfl ?_);refine goesL_ (some 52) rfl rfl Try.func22 (by kernel_rfl) rfl #[.slice Af3 (cvDependS l0).length cf3,.int .i64 1] rfl (by (try simp only [mT,mC,mN]);first|done|rfl|(simp only [lD,lT];rfl)) ?_;have C_:=(laws_markDependS.calls (w0:=w) (hB:=HB8.out) (ho0:=F3.out) (h:=N9.out));refine C_.mono ?_;clear C_;rintro e w9 ⟨rfl,hy0,hb,hk⟩;have HB9:=qK hb;have HKK:=qK hk;have HS9:=qK (show w8.heap.size≤w9.heap.size from hk.1);have HEy9_0:=qK (show (cvDependS l0).length=y9_0.length from (Kd.S_reads' hy0).1);have F3_:=qK (show Kd.S k68 68 w9 w.heap.size (fun k_=>w3.heap.size≤k_∧k_ < w4.heap.size) (.slice Af3 y9_0.length cf3) y9_0 from by have hz_:=hy0;have he_:(cvDependS l0).length=y9_0.length:=(by have:=(Kd.S_reads' hz_).1;omega);rw [← he_];exact hz_);have F2_:=qK (Kd.V_kept F2.out HKK.out (fun k_ h1_=>by intro h2_;exact (fun k_ h1_ h2_=>by have h3_:=h1_.1;have h4_:=h1_.2;have h5_:=h2_.1;have h6_:=h2_.2;skip;omega) k_ h1_ h2_));clear F2;have F2:=F2_;clear F2_;clear F3 F3_;have F4_:=qK (Kd.S_kept F4.out HKK.out (fun k_ h1_=>by intro h2_;exact (fun k_ h1_ h2_=>by have h3_:=h1_.1;have h4_:=h1_.2;have h5_:=h2_.1;have h6_:=h2_.2;skip;omega) k_ h1_ h2_));clear F4;have F4:=F4_;clear F4_;clear hb hk HKK hy0;clear HB8;refine ⟨_,rfl,?_⟩))
 go_upto_region 16 with (first|(go_at_call 20;(with_reducible refine (laws_eqIntSS.calls (hr0:=(Kd.S_reads' F4.out).2.2) (hc0:=(Kd.S_reads' F4.out).2.1) (hr1:=(Kd.V_reads' F2.out).2.2) (hc1:=(Kd.V_reads' F2.out).2.1) (h:=N10.out)).mono ?_);rintro e w10 ⟨rfl,hdr⟩;have HST:=qK (hdr.below);have HB10:=qK (qT HB9.out HST.out);have HS10:=qK (show w9.heap.size≤w10.heap.size from HST.out.size);have F2_:=qK (Kd.V_below F2.out HST.out);clear F2;have F2:=F2_;clear F2_;have F4_:=qK (Kd.S_below F4.out HST.out);clear F4;have F4:=F4_;clear F4_;clear hdr HST;clear HB9))
 go_upto_region 18 with (first|((with_reducible refine gate_callee (f:=23) rfl ?_);refine goesL_ (some 68) rfl rfl Try.func23 (by kernel_rfl) rfl #[.slice Af4 o0_.length cf4,.int .i64 1] rfl (by (try simp only [mT,mC,mN]);first|done|rfl|(simp only [lD,lT];rfl)) ?_;have C_:=(laws_markIntSS.calls (w0:=w) (hB:=HB10.out) (ho0:=F4.out) (h:=N11.out));refine C_.mono ?_;clear C_;rintro e w11 ⟨rfl,hy0,hb,hk⟩;have HB11:=qK hb;have HKK:=qK hk;have HS11:=qK (show w10.heap.size≤w11.heap.size from hk.1);have HEy11_0:=qK (show o0_.length=y11_0.length from (Kd.S_reads' hy0).1);have F4_:=qK (show Kd.S (Kd.slice 3 (Kd.int .i64)) 24 w11 w.heap.size (fun k_=>w4.heap.size≤k_∧k_ < w5.heap.size) (.slice Af4 y11_0.length cf4) y11_0 from by have hz_:=hy0;have he_:o0_.length=y11_0.length:=(by have:=(Kd.S_reads' hz_).1;omega);rw [← he_];exact hz_);have F2_:=qK (Kd.V_kept F2.out HKK.out (fun k_ h1_=>by intro h2_;exact (fun k_ h1_ h2_=>by have h3_:=h1_.1;have h4_:=h1_.2;have h5_:=h2_.1;have h6_:=h2_.2;have z4_:=HS4.out;omega) k_ h1_ h2_));clear F2;have F2:=F2_;clear F2_;clear F4;have F4:=F4_;clear F4_;clear hb hk HKK hy0;clear HB10;refine ⟨_,rfl,?_⟩))
 go_upto_region 20 with (first|((with_reducible refine gate_callee (f:=24) rfl ?_);refine goesL_ (some 71) rfl rfl Try.func24 (by kernel_rfl) rfl #[.slice Af4 o0_.length cf4,.int .i64 1] rfl (by (try simp only [mT,mC,mN]);first|done|rfl|(simp only [lD,lT];rfl)) ?_;refine calls_of_args (args':=#[.slice Af4 y11_0.length cf4,.int .i64 1]) (by rw [HEy11_0.out]) ?_;(with_reducible refine (laws_heldIntSS.calls (hr0:=(Kd.S_reads' F4.out).2.2) (hc0:=(Kd.S_reads' F4.out).2.1) (h:=N12.out)).mono ?_);rintro e w12 ⟨rfl,hdr⟩;have HST:=qK (hdr.below);have HB12:=qK (qT HB11.out HST.out);have HS12:=qK (show w11.heap.size≤w12.heap.size from HST.out.size);have F2_:=qK (Kd.V_below F2.out HST.out);clear F2;have F2:=F2_;clear F2_;have F4_:=qK (Kd.S_below F4.out HST.out);clear F4;have F4:=F4_;clear F4_;clear hdr HST;clear HB11;refine ⟨_,rfl,?_⟩))
 go_upto_region 25 with (first|((with_reducible refine gate_callee (f:=19) rfl ?_);refine goesL_ (some 79) rfl rfl Try.func19 (by kernel_rfl) rfl #[.slice A0 l0.length c0] rfl (by (try simp only [mT,mC,mN]);first|done|rfl|(simp only [lD,lT];rfl)) ?_;(with_reducible refine (laws_toDependS.calls (hr0:=cB HR0.out HB12.out) (hc0:=HC0.out) (h:=N13.out)).mono ?_);rintro e w13 ⟨v0_,rfl,ho0,hb⟩;have HST:=qK (hb);have HB13:=qK (qT HB12.out HST.out);have HS13:=qK (show w12.heap.size≤w13.heap.size from HST.out.size);obtain ⟨Af6,cf6,ef6⟩:=Kd.S_slice ho0;subst ef6;have F6:=qK (show Kd.S k68 68 w13 w.heap.size (fun k_=>w12.heap.size≤k_∧k_ < w13.heap.size) (.slice Af6 (cvDependS l0).length cf6) (cvDependS l0) from Kd.S_lower (Kd.S_mono (Kd.S_bound ho0) (fun k_ hk_=>⟨hk_.2.1,hk_.2.2.1⟩)) (qZ HB12.out));have F2_:=qK (Kd.V_below F2.out HST.out);clear F2;have F2:=F2_;clear F2_;have F4_:=qK (Kd.S_below F4.out HST.out);clear F4;have F4:=F4_;clear F4_;clear hb HST ho0;clear HB12;refine ⟨_,rfl,?_⟩)|((with_reducible refine gate_callee (f:=15) rfl ?_);refine goesL_ (some 81) rfl rfl Try.func15 (by kernel_rfl) rfl #[.slice Af6 (cvDependS l0).length cf6,.int .i64 a1] rfl (by (try simp only [mT,mC,mN]);first|done|rfl|(simp only [lD,lT];rfl)) ?_;(with_reducible refine (impl_KeysOf.calls (hr0:=(Kd.S_reads' F6.out).2.2) (hc0:=(Kd.S_reads' F6.out).2.1) (h:=N14.out)).mono ?_);rintro e w14 ⟨v0_,rfl,ho0,hb⟩;have HST:=qK (hb);have HB14:=qK (qT HB13.out HST.out);have HS14:=qK (show w13.heap.size≤w14.heap.size from HST.out.size);obtain ⟨Af7,cf7,ef7⟩:=Kd.S_slice ho0;subst ef7;have F7:=qK (show Kd.S (Kd.slice 3 (Kd.int .i64)) 24 w14 w.heap.size (fun k_=>w13.heap.size≤k_∧k_ < w14.heap.size) (.slice Af7 o0_.length cf7) o0_ from Kd.S_lower (Kd.S_mono (Kd.S_bound ho0) (fun k_ hk_=>⟨hk_.2.1,hk_.2.2.1⟩)) (qZ HB13.out));have F2_:=qK (Kd.V_below F2.out HST.out);clear F2;have F2:=F2_;clear F2_;have F4_:=qK (Kd.S_below F4.out HST.out);clear F4;have F4:=F4_;clear F4_;clear F6;clear hb HST ho0;clear HB13;refine ⟨_,rfl,?_⟩))
 go_upto_region 27 with (first|((with_reducible refine gate_callee (f:=20) rfl ?_);refine goesL_ (some 86) rfl rfl Try.func20 (by kernel_rfl) rfl #[.slice Af7 o0_.length cf7,.slice Af2 o0_.length cf2] rfl (by (try simp only [mT,mC,mN]);first|done|rfl|(simp only [lD,lT];rfl)) ?_;(with_reducible refine (laws_eqIntSS.calls (hr0:=(Kd.S_reads' F7.out).2.2) (hc0:=(Kd.S_reads' F7.out).2.1) (hr1:=(Kd.V_reads' F2.out).2.2) (hc1:=(Kd.V_reads' F2.out).2.1) (h:=N15.out)).mono ?_);rintro e w15 ⟨rfl,hdr⟩;have HST:=qK (hdr.below);have HB15:=qK (qT HB14.out HST.out);have HS15:=qK (show w14.heap.size≤w15.heap.size from HST.out.size);clear F2;have F4_:=qK (Kd.S_below F4.out HST.out);clear F4;have F4:=F4_;clear F4_;clear F7;clear hdr HST;clear HB14;refine ⟨_,rfl,?_⟩))
 go_upto_region 29 with (first|((with_reducible refine gate_callee (f:=24) rfl ?_);refine goesL_ (some 95) rfl rfl Try.func24 (by kernel_rfl) rfl #[.slice Af4 o0_.length cf4,.int .i64 1] rfl (by (try simp only [mT,mC,mN]);first|done|rfl|(simp only [lD,lT];rfl)) ?_;refine calls_of_args (args':=#[.slice Af4 y11_0.length cf4,.int .i64 1]) (by rw [HEy11_0.out]) ?_;(with_reducible refine (laws_heldIntSS.calls (hr0:=(Kd.S_reads' F4.out).2.2) (hc0:=(Kd.S_reads' F4.out).2.1) (h:=N16.out)).mono ?_);rintro e w16 ⟨rfl,hdr⟩;have HST:=qK (hdr.below);have HB16:=qK (qT HB15.out HST.out);have HS16:=qK (show w15.heap.size≤w16.heap.size from HST.out.size);clear F4;clear hdr HST;clear HB15;refine ⟨_,rfl,?_⟩))
 go_wp2
 go_ret
 exact ⟨rfl,HB16.out⟩

end Go.Proofs.Ytchbcdafomhlaaa.PFnExactKeysOf
