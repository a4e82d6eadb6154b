/-
  A text of this claim's own, printed by a program of the session (wip/tools/xprint.py): functions of the program as Lean functions, each with what its call comes to.
-/
import Derived.Test.YtboligpcbndkjaaPFnExactIsTreex0
import Derived.Test.YtboligpcbndkjaaPFnExactIsTreex1
import Derived.Test.YtboligpcbndkjaaPFnExactIsTreex3
import Derived.Test.YtboligpcbndkjaaPFnExactIsTreex4
import Derived.Test.YtboligpcbndkjaaPFnExactIsTreex5
namespace Go.Proofs.Ytboligpcbndkjaa.PFnExactIsTree
open Go.Proofs.YtboligpcbndkjaaW.PrintWords renaming pw_below_drewN → qD, blk_cell → qC, below_drew1 → qO, below_alloc → qA, blk_frozen → qF, below_set → qS, blk_drewN → qN, blk_alloc → qL, blk_drew → qW, below_size → qZ, below_step → qT, blk_below → qB, blk_far → qR, blk_put → qP
open Go.Proofs.YtboligpcbndkjaaW.PrintWords.Aside0 renaming mk → qK
open Bool renaming true → Y, false → Z
open List renaming setIfInBounds_toArray → sIb, set_cons_zero → sZ, set_cons_succ → sS, map_toArray → mT, map_cons → mC, map_nil → mN, length_drop → lD, length_take → lT
open Go.Proofs.YtboligpcbndkjaaW.PrintWords.Kd renaming C_alloc → cL, C_drewN → cN, C_drew → cW, C_below → cB, R_alloc → rL, R_drewN → rN, R_drew → rW, R_below → rB
open Go.RowKit Go.Proofs.YtboligpcbndkjaaW.PrintWords Go.Proofs.YtboligpcbndkjaaW.PrintLast Go.Proofs.YtboligpcbndkjaaW.PrintMore
attribute [local go_sem] max2_int min2_int max_two min_two max_three min_three max_four min_four   -- for this text's walks alone
set_option linter.unusedVariables false
set_option linter.unusedSimpArgs false

/-! ### laws_eqEarS: function 30 -/
def laws_eqEarS.l0 : Nat→List (S106)→List (S106)→Int→Option (Bool)
 | 0,_,_,_=>none
 | k + 1,x0,x1,x5=>if x5 < (x0.length:Int) then (if 0≤x5 then (if x5 < (x1.length:Int) then ((laws_eqEar.f ((rd_T106 x0 x5).f0) ((rd_T106 x0 x5).f1) ((rd_T106 x1 x5).f0) ((rd_T106 x1 x5).f1)).bind fun t311=>(if t311=true then (laws_eqEarS.l0 k x0 x1 (wrap64 (x5 + 1))) else (none))) else (none)) else (none)) else (some true)
def laws_eqEarS.f (k:Nat) (l0:List (S106)) (l1:List (S106)):Option (Bool):=if (l0.length:Int)=(l1.length:Int) then (laws_eqEarS.l0 k l0 l1 0) else (none)
theorem laws_eqEarS.mono_l : ∀ k,(∀ y0 y1 y2,LeO (laws_eqEarS.l0 k y0 y1 y2) (laws_eqEarS.l0 (k + 1) y0 y1 y2))
 | 0=>fun _ _ _ r h=>by simp [laws_eqEarS.l0] at h
 | k + 1=>by
  have ih0:=laws_eqEarS.mono_l k
  ·intro y0 y1 y2;unfold laws_eqEarS.l0
   repeat' first
   | (with_reducible exact ih0 _ _ _)
   | (with_reducible exact LeO.refl _)
   | (with_reducible exact LeO.none _)
   | (with_reducible refine LeO.ite ?_ ?_)
   | (with_reducible refine LeO.bind ?_ (fun _=>?_))
   | exact ih0 _ _ _
   | exact LeO.none _
   | refine LeO.ite ?_ ?_
   | refine LeO.bind ?_ (fun _=>?_)
theorem laws_eqEarS.mono : ∀ a0 a1 k,LeO (laws_eqEarS.f k a0 a1) (laws_eqEarS.f (k + 1) a0 a1):=by
 intro a0 a1 k;have ih0:=laws_eqEarS.mono_l k;unfold laws_eqEarS.f
 repeat' first
   | (with_reducible exact ih0 _ _ _)
   | (with_reducible exact LeO.refl _)
   | (with_reducible exact LeO.none _)
   | (with_reducible refine LeO.ite ?_ ?_)
   | (with_reducible refine LeO.bind ?_ (fun _=>?_))
   | exact ih0 _ _ _
   | exact LeO.none _
   | refine LeO.ite ?_ ?_
   | refine LeO.bind ?_ (fun _=>?_)
def laws_eqEarS.T6 : Bool × List (List Nat × List Nat):=(true,[([],[]),([],[]),([0,1],[0,1]),([2],[2]),([],[]),([],[]),([4,5],[4,5]),([6],[6]),([3,7],[3,7]),([8],[8])])
def laws_eqEarS.B6 : List Nat:=[0,0,3,7,0,0,48,112,255,511]
theorem laws_eqEarS.tab6 : rtab .any (opsOf Try.f30 6)=laws_eqEarS.T6:=by kernel_rfl
theorem laws_eqEarS.bits6 : waitsOk laws_eqEarS.T6.2 laws_eqEarS.B6=true:=by kernel_rfl
set_option maxHeartbeats 8000000 in
set_option maxRecDepth 100000 in
theorem laws_eqEarS.calls (k:Nat) (A0:Option Addr) (c0:Nat) (l0:List (S106)) (A1:Option Addr) (c1:Nat) (l1:List (S106)) (r:Bool) (w:World) (hr0:Kd.C k106 w A0 l0.length l0) (hc0:l0.length≤c0) (hr1:Kd.C k106 w A1 l1.length l1) (hc1:l1.length≤c1) (h:laws_eqEarS.f k l0 l1=some r) :
  Calls Try.prog 30 #[.slice A0 l0.length c0,.slice A1 l1.length c1] w fun e w'=>e=.returned (.bool r)∧Below w.heap.size w w':=by
 have hu106:=Try.underlying106;have HR0:=qK hr0;have HC0:=qK hc0;clear hr0 hc0;have HR1:=qK hr1;have HC1:=qK hc1;clear hr1 hc1;have HB:=qK (Below.refl w.heap.size w);have H:(if (l0.length:Int)=(l1.length:Int) then (laws_eqEarS.l0 k l0 l1 0) else (none))=some r:=h;clear h;by_cases c3:(l0.length:Int)=(l1.length:Int)
 ·rw [if_pos c3] at H;have c3b0:((l0.length:Int) == (l1.length:Int))=true:=beq_iff_eq.mpr c3;have c3b1:((l0.length:Int) != (l1.length:Int))=false:=bne_eq_false_iff_eq.mpr c3;have c3b2:(l0.length == l1.length)=true:=by first|simpa using c3|(simp at c3 ⊢;omega)
  clear c3;have H':=qK H;clear H;go_enter Try.func30,Try.ntmps30
  go_wp2
  go_loopg [5] k (fun kq v5 w'=>∃ (x5_1:Int),v5=.int .i64 x5_1∧Aside0 (laws_eqEarS.l0 kq l0 l1 x5_1=some r)∧Aside0 (kq≤k)∧Aside0 (Below w.heap.size w w'))
  case atStart=>exact ⟨(0),(by first|rfl|(simp;done)|(simp [*];done)),H',⟨Nat.le_refl _⟩,⟨by repeat (first|(with_reducible first|exact HB.out|apply qA|apply qD|apply qO)|exact HB.out)⟩⟩
  case round =>
   clear H';try clear c1
   try clear p2
   try clear c3
   try clear c3b0
   try clear c3b1
   try clear c3b2
   obtain ⟨x5_1,rfl,HA,HK1,HB⟩:=hrel;cases gk with
   | zero=>exact absurd HA.out (by simp [laws_eqEarS.l0])
   | succ k1 =>
    have H:=HA.out;clear HA;simp only [laws_eqEarS.l0] at H;by_cases c4:x5_1 < (l0.length:Int)
    ·rw [if_pos c4] at H;have c4b0:decide (x5_1 < (l0.length:Int))=true:=decide_eq_true c4;clear c4;by_cases c5:0≤x5_1
     ·rw [if_pos c5] at H;have c5b0:decide (0≤x5_1)=true:=decide_eq_true c5;clear c5;by_cases c6:x5_1 < (l1.length:Int)
      ·rw [if_pos c6] at H;have c6b0:decide (x5_1 < (l1.length:Int))=true:=decide_eq_true c6;clear c6;replace H:=Option.bind_eq_some_iff.mp H;obtain ⟨t311,A70,H⟩:=H;replace H:(if t311=true then (laws_eqEarS.l0 k1 l0 l1 (wrap64 (x5_1 + 1))) else (none))=some r:=H;have A7:=qK A70;clear A70;by_cases c8:t311=true
       ·subst c8;have H1:(laws_eqEarS.l0 k1 l0 l1 (wrap64 (x5_1 + 1)))=some r:=by rw [if_pos rfl] at H;exact H
        clear H;have H:=H1;clear H1;have H':=qK H;clear H;try go_wp2
        (try (rw [drewN_self wr];generalize hq_:World.drewN wr _=wr;have n0_:Aside0 (Below w.heap.size w wr):=⟨by rw [← hq_];exact (by repeat (with_reducible first|exact HB.out|apply qA|apply qD|apply qO))⟩;clear HB hq_;have HB:=n0_;clear n0_));have n0_:=qK (qO HB.out);clear HB;have HB:=n0_;clear n0_;have p309:0≤(x5_1:Int):=of_decide_eq_true (by first|(with_reducible assumption)|assumption);have q309:x5_1 < (l0.length:Int):=of_decide_eq_true (by first|(with_reducible assumption)|assumption);obtain ⟨ad309,e309,hx309_0,hx309_1⟩:=at_T106 HR0.out x5_1 p309 q309;have hw309_1:=hx309_1;have hw309_0:=hx309_0;cases e309
        replace hx309_0:=(HB.out.cell (World.block_lt_of_cell? w _ hx309_0)).trans hx309_0;replace hx309_1:=(HB.out.cell (World.block_lt_of_cell? w _ hx309_1)).trans hx309_1;replace p309:=eq_true p309;replace q309:=eq_true q309;have p310:0≤(x5_1:Int):=of_decide_eq_true (by first|(with_reducible assumption)|assumption);have q310:x5_1 < (l1.length:Int):=of_decide_eq_true (by first|(with_reducible assumption)|assumption);obtain ⟨ad310,e310,hx310_0,hx310_1⟩:=at_T106 HR1.out x5_1 p310 q310;have hw310_1:=hx310_1;have hw310_0:=hx310_0;cases e310
        replace hx310_0:=(HB.out.cell (World.block_lt_of_cell? w _ hx310_0)).trans hx310_0;replace hx310_1:=(HB.out.cell (World.block_lt_of_cell? w _ hx310_1)).trans hx310_1;replace p310:=eq_true p310;replace q310:=eq_true q310;refine start_ (n:=10) (S:=fun w'=>w'.cell? (ad309.add ((x5_1).toNat * 2))=some (.int .i64 ((rd_T106 l0 x5_1).f0))∧w'.cell? ⟨(ad309.add ((x5_1).toNat * 2)).block,(ad309.add ((x5_1).toNat * 2)).off + 1,none⟩=some (.int .i64 ((rd_T106 l0 x5_1).f1))∧w'.cell? (ad310.add ((x5_1).toNat * 2))=some (.int .i64 ((rd_T106 l1 x5_1).f0))∧w'.cell? ⟨(ad310.add ((x5_1).toNat * 2)).block,(ad310.add ((x5_1).toNat * 2)).off + 1,none⟩=some (.int .i64 ((rd_T106 l1 x5_1).f1))) (ds:=[]) #[Z,Z,Z,Z,Z,Z,Z,Z,Z,Z] (by kernel_rfl) rfl rfl ⟨((HB.out.cell (World.block_lt_of_cell? w _ hw309_0)).trans hw309_0),((HB.out.cell (World.block_lt_of_cell? w _ hw309_1)).trans hw309_1),((HB.out.cell (World.block_lt_of_cell? w _ hw310_0)).trans hw310_0),((HB.out.cell (World.block_lt_of_cell? w _ hw310_1)).trans hw310_1)⟩ (fun hHeld=>?_);refine with_tabW laws_eqEarS.tab6 laws_eqEarS.bits6 (fun HT_ HW_=>?_);generalize wr.drew=w9 at HB hx309_0 hx309_1 hx310_0 hx310_1 hHeld ⊢
        refine pure_ (i:=0) (N:=some 17) (v:=?_) (a':=?_) #[Y,Z,Z,Z,Z,Z,Z,Z,Z,Z] rfl rfl (any_of HT_.out (by kernel_rfl)) (fun _ _ _ h=>h) (Or.inl ⟨by rfl,?_⟩) ?_ ?_;rotate_left
        ·intro w';go_simp;with_reducible rfl
        rotate_left
        ·simp only [Act.put,sIb,sZ,sS,i64_w,i32_w];rfl
        refine pure_ (i:=1) (N:=some 18) (v:=?_) (a':=?_) #[Y,Y,Z,Z,Z,Z,Z,Z,Z,Z] rfl rfl (any_of HT_.out (by kernel_rfl)) (fun _ _ _ h=>h) (Or.inl ⟨by rfl,?_⟩) ?_ ?_;rotate_left
        ·intro w';go_simp;with_reducible rfl
        rotate_left
        ·simp only [Act.put,sIb,sZ,sS,i64_w,i32_w];rfl
        refine pure_ (i:=2) (N:=some 19) (v:=?_) (a':=?_) #[Y,Y,Y,Z,Z,Z,Z,Z,Z,Z] rfl rfl (any_of HT_.out (by kernel_rfl)) (fun _ _ _ h=>h) (Or.inl ⟨by rfl,?_⟩) ?_ ?_;rotate_left
        ·intro w';go_simp;with_reducible rfl
        rotate_left
        ·simp only [Act.put,sIb,sZ,sS,i64_w,i32_w];rfl
        refine pure_ (i:=4) (N:=some 21) (v:=?_) (a':=?_) #[Y,Y,Y,Z,Y,Z,Z,Z,Z,Z] rfl rfl (any_of HT_.out (by kernel_rfl)) (fun _ _ _ h=>h) (Or.inl ⟨by rfl,?_⟩) ?_ ?_;rotate_left
        ·intro w';go_simp;with_reducible rfl
        rotate_left
        ·simp only [Act.put,sIb,sZ,sS,i64_w,i32_w];rfl
        refine pure_ (i:=5) (N:=some 22) (v:=?_) (a':=?_) #[Y,Y,Y,Z,Y,Y,Z,Z,Z,Z] rfl rfl (any_of HT_.out (by kernel_rfl)) (fun _ _ _ h=>h) (Or.inl ⟨by rfl,?_⟩) ?_ ?_;rotate_left
        ·intro w';go_simp;with_reducible rfl
        rotate_left
        ·simp only [Act.put,sIb,sZ,sS,i64_w,i32_w];rfl
        refine pure_ (i:=6) (N:=some 23) (v:=?_) (a':=?_) #[Y,Y,Y,Z,Y,Y,Y,Z,Z,Z] rfl rfl (any_of HT_.out (by kernel_rfl)) (fun _ _ _ h=>h) (Or.inl ⟨by rfl,?_⟩) ?_ ?_;rotate_left
        ·intro w';go_simp;with_reducible rfl
        rotate_left
        ·simp only [Act.put,sIb,sZ,sS,i64_w,i32_w];rfl
        refine take_ (i:=3) (N:=some 20) (v:=?_) (a':=?_) #[Y,Y,Y,Y,Y,Y,Y,Z,Z,Z] rfl rfl (take_ofW HT_.out HW_.out (by kernel_rfl)) (fun _ _ _ h=>h) (Or.inl ⟨by rfl,?_⟩) hHeld ?_ ?_;rotate_left
        ·rintro w' ⟨s0,s1,s2,s3⟩;go_simp;with_reducible rfl
        rotate_left
        ·simp only [Act.put,sIb,sZ,sS,i64_w,i32_w];rfl
        refine take_ (i:=7) (N:=some 24) (v:=?_) (a':=?_) #[Y,Y,Y,Y,Y,Y,Y,Y,Z,Z] rfl rfl (take_ofW HT_.out HW_.out (by kernel_rfl)) (fun _ _ _ h=>h) (Or.inl ⟨by rfl,?_⟩) hHeld ?_ ?_;rotate_left
        ·rintro w' ⟨s0,s1,s2,s3⟩;go_simp;with_reducible rfl
        rotate_left
        ·simp only [Act.put,sIb,sZ,sS,i64_w,i32_w];rfl
        refine one_ (i:=8) (N:=some 25) #[Y,Y,Y,Y,Y,Y,Y,Y,Y,Z] rfl rfl (one_of HT_.out (by kernel_rfl)) (by decide) (fun K hK=>?_);refine goes_ Try.func88 (by kernel_rfl) rfl #[.agg #[.int .i64 ((rd_T106 l0 x5_1).f0),.int .i64 ((rd_T106 l0 x5_1).f1)],.agg #[.int .i64 ((rd_T106 l1 x5_1).f0),.int .i64 ((rd_T106 l1 x5_1).f1)]] (by rfl) rfl rfl (by (try simp only [mT,mC,mN]);first|done|rfl|(simp only [lD,lT];rfl)) ?_;with_reducible refine (laws_eqEar.calls ((rd_T106 l0 x5_1).f0) ((rd_T106 l0 x5_1).f1) ((rd_T106 l1 x5_1).f0) ((rd_T106 l1 x5_1).f1) true _ A7.out).mono ?_
        rintro e w10 ⟨rfl,hb⟩;refine ⟨_,rfl,?_⟩;have n0_:=qK (qT (by repeat (with_reducible first|exact HB.out|apply qA|apply qD|apply qO)) hb);clear HB;have HB:=n0_;clear n0_;(try clear hb);refine hK.out _ _ ⟨((HB.out.cell (World.block_lt_of_cell? w _ hw309_0)).trans hw309_0),((HB.out.cell (World.block_lt_of_cell? w _ hw309_1)).trans hw309_1),((HB.out.cell (World.block_lt_of_cell? w _ hw310_0)).trans hw310_0),((HB.out.cell (World.block_lt_of_cell? w _ hw310_1)).trans hw310_1)⟩ (fun hHeld=>?_);clear hK K;refine norm_ (a':=?_) ?_ ?_;rotate_left
        ·show Act.put _ (some 25) _=_
         simp only [Act.put,sIb,sZ,sS,i64_w,i32_w];rfl
        refine pure_ (i:=9) (N:=some 26) (v:=?_) (a':=?_) #[Y,Y,Y,Y,Y,Y,Y,Y,Y,Y] rfl rfl (any_of HT_.out (by kernel_rfl)) (fun _ _ _ h=>h) (Or.inl ⟨by rfl,?_⟩) ?_ ?_;rotate_left
        ·intro w';go_simp;with_reducible rfl
        rotate_left
        ·simp only [Act.put,sIb,sZ,sS,i64_w,i32_w];rfl
        refine done_ (done_of HT_.out (by kernel_rfl)) ?_;try go_wp2
        go_roundg k1
        case measure=>have:=HK1.out;omega
        case rel=>exact ⟨(wrap64 (x5_1 + 1)),(by first|rfl|(simp;done)|(simp [*];done)),H',⟨by have:=HK1.out;omega⟩,⟨by repeat (first|(with_reducible first|exact HB.out|apply qA|apply qD|apply qO)|exact HB.out)⟩⟩
       ·replace c8:=Bool.eq_false_iff.mpr c8;subst c8;have H1:(none)=some r:=by rw [if_neg (show ¬ (false=true) by decide)] at H;exact H
        clear H;have H:=H1;clear H1;exact absurd H (by simp)
      ·rw [if_neg c6] at H;exact absurd H (by simp)
     ·rw [if_neg c5] at H;exact absurd H (by simp)
    ·rw [if_neg c4] at H;have c4b0:decide (x5_1 < (l0.length:Int))=false:=decide_eq_false c4;clear c4;obtain rfl:=Option.some.inj H;go_wp2
     go_ret
     exact ⟨by first|rfl|(simp [errW_none,errW_some] <;> rfl)|(simp [*,errW_none,errW_some] <;> rfl),by repeat (first|(with_reducible first|exact HB.out|apply qA|apply qD|apply qO)|exact HB.out)⟩
 ·rw [if_neg c3] at H;exact absurd H (by simp)

/-! ### laws_FnExactIsTree: function 4 -/
theorem laws_szIntS_some (l : List Int) (a : Int) (h0 : 0 ≤ a) (h1 : a ≤ 1048576) (hl : l.length ≤ maxLen) : laws_szIntS.f l a = some (if a < (l.length : Int) then -1 else a - (l.length : Int)) := by
  unfold maxLen at hl
  unfold laws_szIntS.f
  rw [wrap_id (by omega) (by omega)]
  by_cases h : a < (l.length : Int)
  · rw [if_pos (by omega), if_pos h]
  · rw [if_neg (by omega), if_neg h]
theorem toIntS_ev (l : List Int) (hl : l.length ≤ 1048576) : Ev (fun k => laws_toIntS.f k l) l := by
  have loop := loop_up (n := l.length) (P := fun i => ∀ x : List Int, x.length = l.length → x.take i = l.take i → Ev (fun k => laws_toIntS.l0 k l x (i : Int)) l) ?_ ?_
  · unfold laws_toIntS.f
    refine Ev.pos (by omega) (Ev.pos (by omega) ?_)
    exact loop 0 (Nat.zero_le _) (List.replicate _ 0) (by simp) (by simp)
  · intro x hx ht
    refine Ev.succ ?_
    simp only [laws_toIntS.l0]
    refine Ev.neg (by omega) (Ev.const ?_)
    rw [List.take_of_length_le (by omega), List.take_of_length_le (by omega)] at ht
    rw [ht]
  · intro i hi ih x hx ht
    refine Ev.succ ?_
    simp only [laws_toIntS.l0]
    refine Ev.pos (by omega) (Ev.pos (by omega) (Ev.pos (by omega) ?_))
    rw [wrap_add (by omega) (by omega), rd_nat hi]
    refine ih _ (by simp [hx]) ?_
    rw [List.take_succ_eq_append_getElem (by simp [hx]; omega), List.take_succ_eq_append_getElem hi]
    simp only [Int.toNat_natCast, List.getElem_set_self]
    rw [List.take_set_of_le (by omega), ht]
theorem laws_toIntS_x (l : List Int) (hl : l.length ≤ 1048576) : ∃ k, laws_toIntS.f k l = some l := (toIntS_ev l hl).rounds
theorem eqIntS_ev (l : List Int) (hl : l.length ≤ 1048576) : Ev (fun k => laws_eqIntS.f k l l) true := by
  have loop := loop_up (n := l.length) (P := fun i => Ev (fun k => laws_eqIntS.l0 k l l (i : Int)) true) ?_ ?_
  · unfold laws_eqIntS.f
    exact Ev.pos rfl (loop 0 (Nat.zero_le _))
  · refine Ev.succ ?_
    simp only [laws_eqIntS.l0]
    exact Ev.neg (by omega) (Ev.const rfl)
  · intro i hi ih
    refine Ev.succ ?_
    simp only [laws_eqIntS.l0]
    refine Ev.pos (by omega) (Ev.pos (by omega) (Ev.pos (by omega) (Ev.pos trivial ?_)))
    rw [wrap_add (by omega) (by omega)]
    exact ih
theorem laws_eqIntS_x (l : List Int) (hl : l.length ≤ 1048576) : ∃ k, laws_eqIntS.f k l l = some true := (eqIntS_ev l hl).rounds
def szOk_laws_szEarS (l : List S110) : Prop := l.length ≤ 1048576
theorem laws_szEarS_x (l : List S110) (a : Int) (h0 : 0 ≤ a) (h1 : a ≤ 1048576) (hl : l.length ≤ maxLen ∧ ∀ x, x ∈ l → (Lit.int .i64 x.f0).wf = true ∧ (Lit.int .i64 x.f1).wf = true) :
    ∃ s, laws_szEarS.f l a = some s ∧ (s < 0 ∨ szOk_laws_szEarS l ∧ 0 ≤ s ∧ s ≤ 1048576) := by
  have hm : l.length ≤ 9223372036854775807 := by have := hl.1; unfold maxLen at this; omega
  unfold laws_szEarS.f szOk_laws_szEarS
  rw [wrap_id (by omega) (by omega)]
  by_cases h : a - (l.length : Int) < 0
  · exact ⟨-1, if_pos h, .inl (by omega)⟩
  · exact ⟨_, if_neg h, .inr ⟨by omega, by omega, by omega⟩⟩
def cvE (x : S110) : S106 := ⟨x.f0, x.f1⟩
def cvEarS (l : List S110) : List S106 := l.map cvE
theorem laws_toEarS_x (l : List S110) (h : szOk_laws_szEarS l) : ∃ k, laws_toEarS.f k l = some (cvEarS l) := by
  have hl : l.length ≤ 1048576 := h
  unfold cvEarS
  have loop := loop_up (n := l.length) (P := fun i => ∀ x : List S106, x.length = l.length → x.take i = (l.map cvE).take i → Ev (fun k => laws_toEarS.l0 k l x (i : Int)) (l.map cvE)) ?_ ?_
  · refine Ev.rounds ?_
    unfold laws_toEarS.f
    refine Ev.pos (by omega) (Ev.pos (by omega) ?_)
    exact loop 0 (Nat.zero_le _) (List.replicate _ z106) (by simp) (by simp)
  · intro x hx2 ht
    refine Ev.succ ?_
    simp only [laws_toEarS.l0]
    refine Ev.neg (by omega) (Ev.const ?_)
    rw [List.take_of_length_le (by omega), List.take_of_length_le (by simp)] at ht
    rw [ht]
  · intro i hi ih x hx2 ht
    have hr : rd_T110 l (i : Int) = l[i] := by simp [rd_T110, hi]
    refine Ev.succ ?_
    simp only [laws_toEarS.l0]
    rw [hr]
    refine Ev.pos (by omega) (Ev.pos (by omega) (Ev.bind (a := (l[i].f0, l[i].f1)) (Ev.const rfl) (Ev.pos (by omega) ?_)))
    rw [wrap_add (by omega) (by omega)]
    refine ih _ (by simp [hx2]) ?_
    rw [List.take_succ_eq_append_getElem (by simp [hx2]; omega), List.take_succ_eq_append_getElem (by simpa using hi)]
    simp only [Int.toNat_natCast, List.getElem_set_self, List.getElem_map]
    rw [List.take_set_of_le (by omega), ht]
    rfl
def okEarS (l : List S106) : Prop := l.length ≤ 1048576
theorem okEarS_cv {l : List S110} (h : szOk_laws_szEarS l) : okEarS (cvEarS l) := by
  unfold okEarS cvEarS; simpa using (show l.length ≤ 1048576 from h)
theorem laws_eqEarS_x (l : List S106) (h : okEarS l) : ∃ k, laws_eqEarS.f k l l = some true := by
  have hl : l.length ≤ 1048576 := h
  have loop := loop_up (n := l.length) (P := fun i => Ev (fun k => laws_eqEarS.l0 k l l (i : Int)) true) ?_ ?_
  · refine Ev.rounds ?_
    unfold laws_eqEarS.f
    exact Ev.pos rfl (loop 0 (Nat.zero_le _))
  · refine Ev.succ ?_
    simp only [laws_eqEarS.l0]
    exact Ev.neg (by omega) (Ev.const rfl)
  · intro i hi ih
    refine Ev.succ ?_
    simp only [laws_eqEarS.l0]
    rw [wrap_add (by omega) (by omega)]
    refine Ev.pos (by omega) (Ev.pos (by omega) (Ev.pos (by omega) (Ev.bind (a := true) (Ev.const ?_) (Ev.pos rfl ih))))
    unfold laws_eqEar.f
    rw [if_pos rfl, if_pos rfl]
theorem sum_ge : ∀ {l : List Nat} {x : Nat}, x ∈ l → x ≤ l.sum
  | a :: l, x, h => by
    rw [List.sum_cons]
    rcases List.mem_cons.1 h with rfl | h
    · omega
    · have := sum_ge h; omega
def wtA (x : S158) : Nat := x.f1.length
def szOk_laws_szQuery (l0 : List Int) (l : List S158) : Prop := l0.length + l.length + (l.map wtA).sum ≤ 1048576
theorem szAtomS_ev (l : List S158) (a : Int) (h0 : 0 ≤ a) (h1 : a ≤ 1048576) (hm : l.length ≤ 9223372036854775807) (hl : ∀ x, x ∈ l → x.f1.length ≤ maxLen) :
    ∃ s, Ev (fun k => laws_szAtomS.f k l a) s ∧ (s < 0 ∨ ((l.length + (l.map wtA).sum : Nat) : Int) ≤ a ∧ 0 ≤ s ∧ s ≤ a) := by
  have loop := loop_up (n := l.length) (P := fun i => ∀ b : Int, 0 ≤ b → b ≤ 1048576 → ∃ s, Ev (fun k => laws_szAtomS.l0 k l b (i : Int)) s ∧ (s < 0 ∨ (((l.drop i).map wtA).sum : Nat) ≤ b ∧ 0 ≤ s ∧ s ≤ b)) ?_ ?_
  · unfold laws_szAtomS.f
    rw [wrap_id (by omega) (by omega)]
    by_cases h : a - (l.length : Int) < 0
    · exact ⟨-1, Ev.pos h (Ev.const rfl), .inl (by omega)⟩
    · obtain ⟨s, hs, hq⟩ := loop 0 (Nat.zero_le _) (a - (l.length : Int)) (by omega) (by omega)
      refine ⟨s, Ev.neg h hs, ?_⟩
      rcases hq with hq | ⟨q1, q2, q3⟩
      · exact .inl hq
      · simp only [List.drop_zero] at q1
        exact .inr ⟨by omega, q2, by omega⟩
  · intro b b0 b1
    refine ⟨b, Ev.succ ?_, .inr ⟨by simp; omega, b0, by omega⟩⟩
    simp only [laws_szAtomS.l0]
    exact Ev.neg (by omega) (Ev.const rfl)
  · intro i hi ih b b0 b1
    have hx := hl l[i] (List.getElem_mem hi)
    have hr : rd_T158 l (i : Int) = l[i] := by simp [rd_T158, hi]
    have hd : ((l.drop i).map wtA).sum = wtA l[i] + ((l.drop (i + 1)).map wtA).sum := by rw [List.drop_eq_getElem_cons hi, List.map_cons, List.sum_cons]
    have e1 := laws_szIntS_some l[i].f1 b b0 b1 hx
    by_cases c1 : b < (l[i].f1.length : Int)
    · rw [if_pos c1] at e1
      refine ⟨-1, Ev.succ ?_, .inl (by omega)⟩
      simp only [laws_szAtomS.l0]
      rw [hr]
      exact Ev.pos (by omega) (Ev.pos (by omega) (Ev.bind (Ev.const (by unfold laws_szAtom.f; rw [e1]; simp; rfl)) (Ev.pos (by omega) (Ev.const rfl))))
    rw [if_neg c1] at e1
    obtain ⟨s, hs, hq⟩ := ih (b - (l[i].f1.length : Int)) (by omega) (by omega)
    refine ⟨s, Ev.succ ?_, ?_⟩
    · simp only [laws_szAtomS.l0]
      rw [hr, wrap_add (by omega) (by omega)]
      exact Ev.pos (by omega) (Ev.pos (by omega) (Ev.bind (Ev.const (by unfold laws_szAtom.f; rw [e1]; simp only [Option.bind_some]; rw [if_neg (by omega)])) (Ev.neg (by omega) hs)))
    · rcases hq with hq | ⟨q1, q2, q3⟩
      · exact .inl hq
      · rw [hd]; unfold wtA at *; exact .inr ⟨by omega, q2, by omega⟩
theorem laws_szQuery_x (l0 : List Int) (l : List S158) (a : Int) (h0 : 0 ≤ a) (h1 : a ≤ 1048576) (hl0 : l0.length ≤ maxLen ∧ ∀ y, y ∈ l0 → (Lit.int .i64 y).wf = true) (hl : l.length ≤ maxLen ∧ ∀ x, x ∈ l → ((Lit.int .i64 x.f0).wf = true) ∧ (x.f1.length ≤ maxLen ∧ ∀ y, y ∈ x.f1 → (Lit.int .i64 y).wf = true)) :
    ∃ s, (∃ k, laws_szQuery.f k l0 l a = some s) ∧ (s < 0 ∨ szOk_laws_szQuery l0 l ∧ 0 ≤ s ∧ s ≤ 1048576) := by
  have hm : l.length ≤ 9223372036854775807 := by have := hl.1; unfold maxLen at this; omega
  have e0 := laws_szIntS_some l0 a h0 h1 hl0.1
  by_cases c : a < (l0.length : Int)
  · rw [if_pos c] at e0
    exact ⟨-1, ⟨0, by unfold laws_szQuery.f; rw [e0]; simp⟩, .inl (by omega)⟩
  rw [if_neg c] at e0
  obtain ⟨s, hs, hq⟩ := szAtomS_ev l (a - (l0.length : Int)) (by omega) (by omega) hm (fun x hx => (hl.2 x hx).2.1)
  by_cases c2 : s < 0
  · refine ⟨-1, (Ev.rounds (r := (-1 : Int)) ?_), .inl (by omega)⟩
    unfold laws_szQuery.f; rw [e0]
    exact Ev.some_bind (Ev.neg (by omega) (Ev.bind hs (Ev.pos c2 (Ev.const rfl))))
  · refine ⟨s, (Ev.rounds (r := s) ?_), ?_⟩
    · unfold laws_szQuery.f; rw [e0]
      exact Ev.some_bind (Ev.neg (by omega) (Ev.bind hs (Ev.neg c2 (Ev.const rfl))))
    · rcases hq with hq | ⟨q1, q2, q3⟩
      · exact absurd hq c2
      · exact .inr ⟨by unfold szOk_laws_szQuery; omega, q2, by omega⟩
def cvA (x : S158) : S97 := ⟨x.f0, x.f1⟩
def cvAtomS (l : List S158) : List S97 := l.map cvA
theorem szQ_le {l0 : List Int} {l : List S158} (h : szOk_laws_szQuery l0 l) : l0.length ≤ 1048576 ∧ l.length ≤ 1048576 ∧ ∀ x ∈ l, x.f1.length ≤ 1048576 := by
  unfold szOk_laws_szQuery at h
  refine ⟨by omega, by omega, fun x hx => ?_⟩
  have := sum_ge (List.mem_map_of_mem (f := wtA) hx)
  unfold wtA at *
  omega
theorem toAtomS_ev (l : List S158) (hl : l.length ≤ 1048576) (hx : ∀ x ∈ l, x.f1.length ≤ 1048576) : Ev (fun k => laws_toAtomS.f k l) (cvAtomS l) := by
  unfold cvAtomS
  have loop := loop_up (n := l.length) (P := fun i => ∀ x : List S97, x.length = l.length → x.take i = (l.map cvA).take i → Ev (fun k => laws_toAtomS.l0 k l x (i : Int)) (l.map cvA)) ?_ ?_
  · unfold laws_toAtomS.f
    refine Ev.pos (by omega) (Ev.pos (by omega) ?_)
    exact loop 0 (Nat.zero_le _) (List.replicate _ z97) (by simp) (by simp)
  · intro x hx2 ht
    refine Ev.succ ?_
    simp only [laws_toAtomS.l0]
    refine Ev.neg (by omega) (Ev.const ?_)
    rw [List.take_of_length_le (by omega), List.take_of_length_le (by simp)] at ht
    rw [ht]
  · intro i hi ih x hx2 ht
    have hr : rd_T158 l (i : Int) = l[i] := by simp [rd_T158, hi]
    refine Ev.succ ?_
    simp only [laws_toAtomS.l0]
    rw [hr]
    refine Ev.pos (by omega) (Ev.pos (by omega) (Ev.bind (a := (l[i].f0, l[i].f1)) ?_ (Ev.pos (by omega) ?_)))
    · unfold laws_toAtom.f
      exact Ev.bind (toIntS_ev _ (hx _ (List.getElem_mem hi))) (Ev.const rfl)
    rw [wrap_add (by omega) (by omega)]
    refine ih _ (by simp [hx2]) ?_
    rw [List.take_succ_eq_append_getElem (by simp [hx2]; omega), List.take_succ_eq_append_getElem (by simpa using hi)]
    simp only [Int.toNat_natCast, List.getElem_set_self, List.getElem_map]
    rw [List.take_set_of_le (by omega), ht]
    rfl
theorem laws_toQuery_x (l0 : List Int) (l : List S158) (h : szOk_laws_szQuery l0 l) : ∃ k, laws_toQuery.f k l0 l = some (l0, cvAtomS l) := by
  obtain ⟨h0, hl, hx⟩ := szQ_le h
  refine Ev.rounds ?_
  unfold laws_toQuery.f
  exact Ev.bind (toIntS_ev _ h0) (Ev.bind (toAtomS_ev l hl hx) (Ev.const rfl))
def okQuery (l0 : List Int) (l : List S97) : Prop := l0.length ≤ 1048576 ∧ l.length ≤ 1048576 ∧ (∀ x ∈ l, x.f1.length ≤ 1048576) ∧ l.length + (l.map fun x => x.f1.length).sum ≤ 1048576
theorem okQuery_cv {l0 : List Int} {l : List S158} (h : szOk_laws_szQuery l0 l) : okQuery l0 (cvAtomS l) := by
  obtain ⟨h0, hl, hx⟩ := szQ_le h
  refine ⟨h0, by unfold cvAtomS; simpa using hl, fun x hx2 => ?_, ?_⟩
  · obtain ⟨y, hy, rfl⟩ := List.mem_map.1 hx2
    exact hx y hy
  · unfold szOk_laws_szQuery at h
    unfold cvAtomS
    rw [List.length_map, List.map_map]
    have : (l.map ((fun x : S97 => x.f1.length) ∘ cvA)).sum = (l.map wtA).sum := rfl
    omega
theorem eqAtomS_ev (l : List S97) (hl : l.length ≤ 1048576) (hx : ∀ x ∈ l, x.f1.length ≤ 1048576) : Ev (fun k => laws_eqAtomS.f k l l) true := by
  have loop := loop_up (n := l.length) (P := fun i => Ev (fun k => laws_eqAtomS.l0 k l l (i : Int)) true) ?_ ?_
  · unfold laws_eqAtomS.f
    exact Ev.pos rfl (loop 0 (Nat.zero_le _))
  · refine Ev.succ ?_
    simp only [laws_eqAtomS.l0]
    exact Ev.neg (by omega) (Ev.const rfl)
  · intro i hi ih
    have hr : rd_T97 l (i : Int) = l[i] := by simp [rd_T97, hi]
    refine Ev.succ ?_
    simp only [laws_eqAtomS.l0]
    rw [hr, wrap_add (by omega) (by omega)]
    refine Ev.pos (by omega) (Ev.pos (by omega) (Ev.pos (by omega) (Ev.bind (a := true) ?_ (Ev.pos rfl ih))))
    unfold laws_eqAtom.f
    exact Ev.pos rfl (Ev.bind (eqIntS_ev _ (hx _ (List.getElem_mem hi))) (Ev.pos rfl (Ev.const rfl)))
theorem laws_eqQuery_x (l0 : List Int) (l : List S97) (h : okQuery l0 l) : ∃ k, laws_eqQuery.f k l0 l l0 l = some true := by
  obtain ⟨h0, hl, hx, _⟩ := h
  refine Ev.rounds ?_
  unfold laws_eqQuery.f
  exact Ev.bind (eqIntS_ev _ h0) (Ev.pos rfl (Ev.bind (eqAtomS_ev l hl hx) (Ev.pos rfl (Ev.const rfl))))
/-- THE ONE PURE STATEMENT of laws_FnExactIsTree: what the reference tells, the program tells. -/
def laws_FnExactIsTree.Pure : Prop := ∀ (l0_0 : List Int) (l0_1 : List (S158)) (l1 : List (S110)) (l2 : List Int), (l0_0.length ≤ maxLen ∧ ∀ x_, x_ ∈ l0_0 → (Lit.int .i64 x_).wf = true) → (l0_1.length ≤ maxLen ∧ ∀ x_, x_ ∈ l0_1 → ((Lit.int .i64 x_.f0).wf = true) ∧ (x_.f1.length ≤ maxLen ∧ ∀ x__, x__ ∈ x_.f1 → (Lit.int .i64 x__).wf = true)) → (l1.length ≤ maxLen ∧ ∀ x_, x_ ∈ l1 → ((Lit.int .i64 x_.f0).wf = true) ∧ ((Lit.int .i64 x_.f1).wf = true)) → (l2.length ≤ maxLen ∧ ∀ x_, x_ ∈ l2 → (Lit.int .i64 x_).wf = true) → l2.length ≤ 1048576 → szOk_laws_szQuery l0_0 l0_1 → szOk_laws_szEarS l1 → ∃ (k : Nat) (r : Bool × Bool), spec_IsTree.f k l0_0 (cvAtomS l0_1) (cvEarS l1) l2 = some r ∧ impl_IsTree.f k l0_0 (cvAtomS l0_1) (cvEarS l1) l2 = some r
set_option maxHeartbeats 16000000 in
set_option maxRecDepth 100000 in
theorem laws_FnExactIsTree.walk (P:laws_FnExactIsTree.Pure) (A0_0:Option Addr) (c0_0:Nat) (l0_0:List Int) (A0_1:Option Addr) (c0_1:Nat) (l0_1:List (S158)) (A1:Option Addr) (c1:Nat) (l1:List (S110)) (A2:Option Addr) (c2:Nat) (l2:List Int) (w:World) (hr0_0:Kd.C (Kd.int .i64) w A0_0 l0_0.length l0_0) (hc0_0:l0_0.length≤c0_0) (hr0_1:Kd.C k158 w A0_1 l0_1.length l0_1) (hc0_1:l0_1.length≤c0_1) (hr1:Kd.C k110 w A1 l1.length l1) (hc1:l1.length≤c1) (hr2:Kd.C (Kd.int .i64) w A2 l2.length l2) (hc2:l2.length≤c2) (wq0_0:l0_0.length≤maxLen∧∀ x_,x_ ∈ l0_0→(Lit.int .i64 x_).wf=true) (wq0_1:l0_1.length≤maxLen∧∀ x_,x_ ∈ l0_1→((Lit.int .i64 x_.f0).wf=true)∧(x_.f1.length≤maxLen∧∀ x__,x__ ∈ x_.f1→(Lit.int .i64 x__).wf=true)) (wq1:l1.length≤maxLen∧∀ x_,x_ ∈ l1→((Lit.int .i64 x_.f0).wf=true)∧((Lit.int .i64 x_.f1).wf=true)) (wq2:l2.length≤maxLen∧∀ x_,x_ ∈ l2→(Lit.int .i64 x_).wf=true) :
  Calls Try.prog 4 #[.agg #[.slice A0_0 l0_0.length c0_0,.slice A0_1 l0_1.length c0_1],.slice A1 l1.length c1,.slice A2 l2.length c2] w fun e w'=>e=.returned (.bool true)∧Below w.heap.size w w':=by
 have HR0_0:=qK hr0_0;have HC0_0:=qK hc0_0;clear hr0_0 hc0_0;have HR0_1:=qK hr0_1;have HC0_1:=qK hc0_1;clear hr0_1 hc0_1;have HR1:=qK hr1;have HC1:=qK hc1;clear hr1 hc1;have HR2:=qK hr2;have HC2:=qK hc2;clear hr2 hc2;have HB:=qK (Below.refl w.heap.size w);by_cases g0_:(l2.length:Int) > 1048576
 ·have g0_b:decide ((l2.length:Int) > 1048576)=true:=decide_eq_true g0_;clear g0_;go_enter Try.func4,Try.ntmps4
  go_wp2_with (first|((with_reducible refine gate_dst (N:=3) rfl ?_);refine box_event ?hg (N:=3) ?hd (cs:=#[.slice A0_0 l0_0.length c0_0,.slice A0_1 l0_1.length c0_1]) (t:=25) ?hr ?_;(case hd=>rfl);(case hg=>rfl);(case hr=>(go_simp;try rfl));intro gb1 hg w1 hbox hb;have HG1:=qK hg;have HST:=qK hb;have HB1:=qK (qT HB.out HST.out);have HS1:=qK (show w.heap.size≤w1.heap.size from HST.out.size);have HS1b:=qK (show gb1 < w1.heap.size from blk_lt hbox);have BK1:=qK hbox;have hc1_0_1:w1.cell? ⟨gb1,0,none⟩=some (.slice A0_0 l0_0.length c0_0):=(qC BK1.out 0).trans rfl;have hc1_1_1:w1.cell? ⟨gb1,1,none⟩=some (.slice A0_1 l0_1.length c0_1):=(qC BK1.out 1).trans rfl;clear hg hbox hb HST))
  go_ret
  exact ⟨rfl,HB1.out⟩
 have g0_b:decide ((l2.length:Int) > 1048576)=false:=decide_eq_false g0_;obtain ⟨s2_,Nr2_,q2_⟩:=laws_szQuery_x l0_0 l0_1 1048576 (by omega) (by omega) wq0_0 wq0_1;obtain ⟨kz2_,Nr2_⟩:=Nr2_;have N2:=qK Nr2_;clear Nr2_;by_cases g1_:s2_ < 0
 ·have g1_b:decide (s2_ < 0)=true:=decide_eq_true g1_;clear g1_ q2_;go_enter Try.func4,Try.ntmps4
  go_wp2_with (first|((with_reducible refine gate_dst (N:=3) rfl ?_);refine box_event ?hg (N:=3) ?hd (cs:=#[.slice A0_0 l0_0.length c0_0,.slice A0_1 l0_1.length c0_1]) (t:=25) ?hr ?_;(case hd=>rfl);(case hg=>rfl);(case hr=>(go_simp;try rfl));intro gb1 hg w1 hbox hb;have HG1:=qK hg;have HST:=qK hb;have HB1:=qK (qT HB.out HST.out);have HS1:=qK (show w.heap.size≤w1.heap.size from HST.out.size);have HS1b:=qK (show gb1 < w1.heap.size from blk_lt hbox);have BK1:=qK hbox;have hc1_0_1:w1.cell? ⟨gb1,0,none⟩=some (.slice A0_0 l0_0.length c0_0):=(qC BK1.out 0).trans rfl;have hc1_1_1:w1.cell? ⟨gb1,1,none⟩=some (.slice A0_1 l0_1.length c0_1):=(qC BK1.out 1).trans rfl;clear hg hbox hb HST)|((with_reducible refine gate_callee (f:=14) rfl ?_);refine goesL_ (some 20) rfl rfl Try.func14 (by kernel_rfl) rfl #[.agg #[.slice A0_0 l0_0.length c0_0,.slice A0_1 l0_1.length c0_1],.int .i64 1048576] rfl (by (try simp only [mT,mC,mN]);first|done|rfl|(simp only [lD,lT];rfl)) ?_;(with_reducible refine (laws_szQuery.calls (hr0_0:=cB HR0_0.out HB1.out) (hc0_0:=HC0_0.out) (hr0_1:=cB HR0_1.out HB1.out) (hc0_1:=HC0_1.out) (h:=N2.out)).mono ?_);rintro e w2 ⟨rfl,hb⟩;have HST:=qK (hb);have HB2:=qK (qT HB1.out HST.out);have HS2:=qK (show w1.heap.size≤w2.heap.size from HST.out.size);have BK1_:=qK (qB BK1.out HST.out);clear BK1;have BK1:=BK1_;clear BK1_;have hc1_0_2:w2.cell? ⟨gb1,0,none⟩=some (.slice A0_0 l0_0.length c0_0):=(qC BK1.out 0).trans rfl;have hc1_1_2:w2.cell? ⟨gb1,1,none⟩=some (.slice A0_1 l0_1.length c0_1):=(qC BK1.out 1).trans rfl;clear hb HST;clear HB1;refine ⟨_,rfl,?_⟩))
  go_ret
  exact ⟨rfl,HB2.out⟩
 have g1_b:decide (s2_ < 0)=false:=decide_eq_false g1_;have hz2_:szOk_laws_szQuery l0_0 l0_1:=by rcases q2_ with h_|h_;exact absurd h_ g1_;exact h_.1
 have hs2_:0≤s2_∧s2_≤1048576:=by rcases q2_ with h_|h_;exact absurd h_ g1_;exact h_.2
 clear q2_;obtain ⟨s3_,Nr3_,q3_⟩:=laws_szEarS_x l1 s2_ (by omega) (by omega) wq1;have N3:=qK Nr3_;clear Nr3_;by_cases g2_:s3_ < 0
 ·have g2_b:decide (s3_ < 0)=true:=decide_eq_true g2_;clear g2_ q3_;go_enter Try.func4,Try.ntmps4
  go_wp2_with (first|((with_reducible refine gate_dst (N:=3) rfl ?_);refine box_event ?hg (N:=3) ?hd (cs:=#[.slice A0_0 l0_0.length c0_0,.slice A0_1 l0_1.length c0_1]) (t:=25) ?hr ?_;(case hd=>rfl);(case hg=>rfl);(case hr=>(go_simp;try rfl));intro gb1 hg w1 hbox hb;have HG1:=qK hg;have HST:=qK hb;have HB1:=qK (qT HB.out HST.out);have HS1:=qK (show w.heap.size≤w1.heap.size from HST.out.size);have HS1b:=qK (show gb1 < w1.heap.size from blk_lt hbox);have BK1:=qK hbox;have hc1_0_1:w1.cell? ⟨gb1,0,none⟩=some (.slice A0_0 l0_0.length c0_0):=(qC BK1.out 0).trans rfl;have hc1_1_1:w1.cell? ⟨gb1,1,none⟩=some (.slice A0_1 l0_1.length c0_1):=(qC BK1.out 1).trans rfl;clear hg hbox hb HST)|((with_reducible refine gate_callee (f:=14) rfl ?_);refine goesL_ (some 20) rfl rfl Try.func14 (by kernel_rfl) rfl #[.agg #[.slice A0_0 l0_0.length c0_0,.slice A0_1 l0_1.length c0_1],.int .i64 1048576] rfl (by (try simp only [mT,mC,mN]);first|done|rfl|(simp only [lD,lT];rfl)) ?_;(with_reducible refine (laws_szQuery.calls (hr0_0:=cB HR0_0.out HB1.out) (hc0_0:=HC0_0.out) (hr0_1:=cB HR0_1.out HB1.out) (hc0_1:=HC0_1.out) (h:=N2.out)).mono ?_);rintro e w2 ⟨rfl,hb⟩;have HST:=qK (hb);have HB2:=qK (qT HB1.out HST.out);have HS2:=qK (show w1.heap.size≤w2.heap.size from HST.out.size);have BK1_:=qK (qB BK1.out HST.out);clear BK1;have BK1:=BK1_;clear BK1_;have hc1_0_2:w2.cell? ⟨gb1,0,none⟩=some (.slice A0_0 l0_0.length c0_0):=(qC BK1.out 0).trans rfl;have hc1_1_2:w2.cell? ⟨gb1,1,none⟩=some (.slice A0_1 l0_1.length c0_1):=(qC BK1.out 1).trans rfl;clear hb HST;clear HB1;refine ⟨_,rfl,?_⟩)|((with_reducible refine gate_callee (f:=26) rfl ?_);refine goesL_ (some 25) rfl rfl Try.func26 (by kernel_rfl) rfl #[.slice A1 l1.length c1,.int .i64 s2_] rfl (by (try simp only [mT,mC,mN]);first|done|rfl|(simp only [lD,lT];rfl)) ?_;(with_reducible refine (laws_szEarS.calls (hr0:=cB HR1.out HB2.out) (hc0:=HC1.out) (h:=N3.out)).mono ?_);rintro e w3 ⟨rfl,hdr⟩;have HST:=qK (hdr.below);have HB3:=qK (qT HB2.out HST.out);have HS3:=qK (show w2.heap.size≤w3.heap.size from HST.out.size);have BK1_:=qK (qB BK1.out HST.out);clear BK1;have BK1:=BK1_;clear BK1_;have hc1_0_3:w3.cell? ⟨gb1,0,none⟩=some (.slice A0_0 l0_0.length c0_0):=(qC BK1.out 0).trans rfl;have hc1_1_3:w3.cell? ⟨gb1,1,none⟩=some (.slice A0_1 l0_1.length c0_1):=(qC BK1.out 1).trans rfl;clear hdr HST;clear HB2;refine ⟨_,rfl,?_⟩))
  go_ret
  exact ⟨rfl,HB3.out⟩
 have g2_b:decide (s3_ < 0)=false:=decide_eq_false g2_;have hz3_:szOk_laws_szEarS l1:=by rcases q3_ with h_|h_;exact absurd h_ g2_;exact h_.1
 have hs3_:0≤s3_∧s3_≤1048576:=by rcases q3_ with h_|h_;exact absurd h_ g2_;exact h_.2
 clear q3_;obtain ⟨k_,⟨o0_,o1_⟩,P1,P2⟩:=P l0_0 l0_1 l1 l2 wq0_0 wq0_1 wq1 wq2 (by omega) hz2_ hz3_;obtain ⟨k4_,Nr4_⟩:=laws_toQuery_x l0_0 l0_1 hz2_;obtain ⟨k5_,Nr5_⟩:=laws_toEarS_x l1 hz3_;obtain ⟨k6_,Nr6_⟩:=laws_toIntS_x l2 (show l2.length≤1048576 by omega);have Nr7_:=P1;obtain ⟨k8_,Nr8_⟩:=laws_toQuery_x l0_0 l0_1 hz2_;obtain ⟨k11_,Nr11_⟩:=laws_toEarS_x l1 hz3_;obtain ⟨k12_,Nr12_⟩:=laws_toIntS_x l2 (show l2.length≤1048576 by omega);have Nr13_:=P2;obtain ⟨k14_,Nr14_⟩:=laws_toQuery_x l0_0 l0_1 hz2_;obtain ⟨k15_,Nr15_⟩:=laws_eqQuery_x l0_0 (cvAtomS l0_1) (okQuery_cv hz2_);obtain ⟨k16_,Nr16_⟩:=laws_toEarS_x l1 hz3_;obtain ⟨k17_,Nr17_⟩:=laws_eqEarS_x (cvEarS l1) (okEarS_cv hz3_);obtain ⟨k18_,Nr18_⟩:=laws_toIntS_x l2 (show l2.length≤1048576 by omega);obtain ⟨k19_,Nr19_⟩:=laws_eqIntS_x l2 (show l2.length≤1048576 by omega);have N4:=qK Nr4_;have N5:=qK Nr5_;have N6:=qK Nr6_;have N7:=qK Nr7_;have N8:=qK Nr8_;have N11:=qK Nr11_;have N12:=qK Nr12_;have N13:=qK Nr13_;have N14:=qK Nr14_;have N15:=qK Nr15_;have N16:=qK Nr16_;have N17:=qK Nr17_;have N18:=qK Nr18_;have N19:=qK Nr19_;have cno0_:(o0_ != o0_)=false:=bne_self_eq_false _;have cno1_:(o1_ != o1_)=false:=bne_self_eq_false _;clear P1 P2 Nr4_ Nr5_ Nr6_ Nr7_ Nr8_ Nr11_ Nr12_ Nr13_ Nr14_ Nr15_ Nr16_ Nr17_ Nr18_ Nr19_;clear P g0_ g1_ g2_ hz2_ hs2_ hz3_ hs3_ wq0_0 wq0_1 wq1 wq2;go_enter Try.func4,Try.ntmps4
 go_upto_region 1 with (first|((with_reducible refine gate_dst (N:=3) rfl ?_);refine box_event ?hg (N:=3) ?hd (cs:=#[.slice A0_0 l0_0.length c0_0,.slice A0_1 l0_1.length c0_1]) (t:=25) ?hr ?_;(case hd=>rfl);(case hg=>rfl);(case hr=>(go_simp;try rfl));intro gb1 hg w1 hbox hb;have HG1:=qK hg;have HST:=qK hb;have HB1:=qK (qT HB.out HST.out);have HS1:=qK (show w.heap.size≤w1.heap.size from HST.out.size);have HS1b:=qK (show gb1 < w1.heap.size from blk_lt hbox);have BK1:=qK hbox;have hc1_0_1:w1.cell? ⟨gb1,0,none⟩=some (.slice A0_0 l0_0.length c0_0):=(qC BK1.out 0).trans rfl;have hc1_1_1:w1.cell? ⟨gb1,1,none⟩=some (.slice A0_1 l0_1.length c0_1):=(qC BK1.out 1).trans rfl;clear hg hbox hb HST))
 go_upto_region 5 with (first|((with_reducible refine gate_callee (f:=14) rfl ?_);refine goesL_ (some 20) rfl rfl Try.func14 (by kernel_rfl) rfl #[.agg #[.slice A0_0 l0_0.length c0_0,.slice A0_1 l0_1.length c0_1],.int .i64 1048576] rfl (by (try simp only [mT,mC,mN]);first|done|rfl|(simp only [lD,lT];rfl)) ?_;(with_reducible refine (laws_szQuery.calls (hr0_0:=cB HR0_0.out HB1.out) (hc0_0:=HC0_0.out) (hr0_1:=cB HR0_1.out HB1.out) (hc0_1:=HC0_1.out) (h:=N2.out)).mono ?_);rintro e w2 ⟨rfl,hb⟩;have HST:=qK (hb);have HB2:=qK (qT HB1.out HST.out);have HS2:=qK (show w1.heap.size≤w2.heap.size from HST.out.size);have BK1_:=qK (qB BK1.out HST.out);clear BK1;have BK1:=BK1_;clear BK1_;have hc1_0_2:w2.cell? ⟨gb1,0,none⟩=some (.slice A0_0 l0_0.length c0_0):=(qC BK1.out 0).trans rfl;have hc1_1_2:w2.cell? ⟨gb1,1,none⟩=some (.slice A0_1 l0_1.length c0_1):=(qC BK1.out 1).trans rfl;clear hb HST;clear HB1;refine ⟨_,rfl,?_⟩))
 go_upto_region 8 with (first|((with_reducible refine gate_callee (f:=26) rfl ?_);refine goesL_ (some 25) rfl rfl Try.func26 (by kernel_rfl) rfl #[.slice A1 l1.length c1,.int .i64 s2_] rfl (by (try simp only [mT,mC,mN]);first|done|rfl|(simp only [lD,lT];rfl)) ?_;(with_reducible refine (laws_szEarS.calls (hr0:=cB HR1.out HB2.out) (hc0:=HC1.out) (h:=N3.out)).mono ?_);rintro e w3 ⟨rfl,hdr⟩;have HST:=qK (hdr.below);have HB3:=qK (qT HB2.out HST.out);have HS3:=qK (show w2.heap.size≤w3.heap.size from HST.out.size);have BK1_:=qK (qB BK1.out HST.out);clear BK1;have BK1:=BK1_;clear BK1_;have hc1_0_3:w3.cell? ⟨gb1,0,none⟩=some (.slice A0_0 l0_0.length c0_0):=(qC BK1.out 0).trans rfl;have hc1_1_3:w3.cell? ⟨gb1,1,none⟩=some (.slice A0_1 l0_1.length c0_1):=(qC BK1.out 1).trans rfl;clear hdr HST;clear HB2;refine ⟨_,rfl,?_⟩))
 go_upto_region 11 with (first|((with_reducible refine gate_callee (f:=16) rfl ?_);refine goesL_ (some 30) rfl rfl Try.func16 (by kernel_rfl) rfl #[.agg #[.slice A0_0 l0_0.length c0_0,.slice A0_1 l0_1.length c0_1]] rfl (by (try simp only [mT,mC,mN]);first|done|rfl|(simp only [lD,lT];rfl)) ?_;(with_reducible refine (laws_toQuery.calls (hr0_0:=cB HR0_0.out HB3.out) (hc0_0:=HC0_0.out) (hr0_1:=cB HR0_1.out HB3.out) (hc0_1:=HC0_1.out) (h:=N4.out)).mono ?_);rintro e w4 ⟨v0_,v1_,rfl,ho0,ho1,hb⟩;have HST:=qK (hb);have HB4:=qK (qT HB3.out HST.out);have HS4:=qK (show w3.heap.size≤w4.heap.size from HST.out.size);obtain ⟨Af2,cf2,ef2⟩:=Kd.R_slice ho0;subst ef2;obtain ⟨Af3,cf3,ef3⟩:=Kd.S_slice ho1;subst ef3;have F2:=qK (show Kd.R (Kd.int .i64) 3 w4 w.heap.size (fun k_=>w3.heap.size≤k_∧k_ < w4.heap.size∧some k_=(.slice Af2 l0_0.length cf2:Value).ownBlock) (.slice Af2 l0_0.length cf2) l0_0 from Kd.R_lower (Kd.R_mono (Kd.R_bound (Kd.R_tight rfl ho0)) (fun k_ hk_=>⟨hk_.2.1,hk_.2.2.1,hk_.1⟩)) (qZ HB3.out));have F3:=qK (show Kd.S k97 97 w4 w.heap.size (fun k_=>w3.heap.size≤k_∧k_ < w4.heap.size∧some k_ ≠ (.slice Af2 l0_0.length cf2:Value).ownBlock) (.slice Af3 (cvAtomS l0_1).length cf3) (cvAtomS l0_1) from Kd.S_lower (Kd.S_mono (Kd.S_bound ho1) (fun k_ hk_=>⟨hk_.2.1,hk_.2.2.1,(by have h_:=hk_.1;first|exact h_|exact h_.1|exact h_.2|exact h_.2.1|exact h_.2.2|simp_all)⟩)) (qZ HB3.out));have BK1_:=qK (qB BK1.out HST.out);clear BK1;have BK1:=BK1_;clear BK1_;have hc1_0_4:w4.cell? ⟨gb1,0,none⟩=some (.slice A0_0 l0_0.length c0_0):=(qC BK1.out 0).trans rfl;have hc1_1_4:w4.cell? ⟨gb1,1,none⟩=some (.slice A0_1 l0_1.length c0_1):=(qC BK1.out 1).trans rfl;clear hb HST ho0 ho1;clear HB3;refine ⟨_,rfl,?_⟩)|((with_reducible refine gate_callee (f:=28) rfl ?_);refine goesL_ (some 32) rfl rfl Try.func28 (by kernel_rfl) rfl #[.slice A1 l1.length c1] rfl (by (try simp only [mT,mC,mN]);first|done|rfl|(simp only [lD,lT];rfl)) ?_;(with_reducible refine (laws_toEarS.calls (hr0:=cB HR1.out HB4.out) (hc0:=HC1.out) (h:=N5.out)).mono ?_);rintro e w5 ⟨v0_,rfl,ho0,hb⟩;have HST:=qK (hb);have HB5:=qK (qT HB4.out HST.out);have HS5:=qK (show w4.heap.size≤w5.heap.size from HST.out.size);obtain ⟨Af4,cf4,ef4⟩:=Kd.R_slice ho0;subst ef4;have F4:=qK (show Kd.R k106 106 w5 w.heap.size (fun k_=>w4.heap.size≤k_∧k_ < w5.heap.size) (.slice Af4 (cvEarS l1).length cf4) (cvEarS l1) from Kd.R_lower (Kd.R_mono (Kd.R_bound ho0) (fun k_ hk_=>⟨hk_.2.1,hk_.2.2.1⟩)) (qZ HB4.out));have F2_:=qK (rB F2.out HST.out);clear F2;have F2:=F2_;clear F2_;have F3_:=qK (Kd.S_below F3.out HST.out);clear F3;have F3:=F3_;clear F3_;have BK1_:=qK (qB BK1.out HST.out);clear BK1;have BK1:=BK1_;clear BK1_;have hc1_0_5:w5.cell? ⟨gb1,0,none⟩=some (.slice A0_0 l0_0.length c0_0):=(qC BK1.out 0).trans rfl;have hc1_1_5:w5.cell? ⟨gb1,1,none⟩=some (.slice A0_1 l0_1.length c0_1):=(qC BK1.out 1).trans rfl;clear hb HST ho0;clear HB4;refine ⟨_,rfl,?_⟩)|((with_reducible refine gate_callee (f:=17) rfl ?_);refine goesL_ (some 34) rfl rfl Try.func17 (by kernel_rfl) rfl #[.slice A2 l2.length c2] rfl (by (try simp only [mT,mC,mN]);first|done|rfl|(simp only [lD,lT];rfl)) ?_;(with_reducible refine (laws_toIntS.calls (hr0:=cB HR2.out HB5.out) (hc0:=HC2.out) (h:=N6.out)).mono ?_);rintro e w6 ⟨v0_,rfl,ho0,hb⟩;have HST:=qK (hb);have HB6:=qK (qT HB5.out HST.out);have HS6:=qK (show w5.heap.size≤w6.heap.size from HST.out.size);obtain ⟨Af5,cf5,ef5⟩:=Kd.R_slice ho0;subst ef5;have F5:=qK (show Kd.R (Kd.int .i64) 3 w6 w.heap.size (fun k_=>w5.heap.size≤k_∧k_ < w6.heap.size) (.slice Af5 l2.length cf5) l2 from Kd.R_lower (Kd.R_mono (Kd.R_bound ho0) (fun k_ hk_=>⟨hk_.2.1,hk_.2.2.1⟩)) (qZ HB5.out));have F2_:=qK (rB F2.out HST.out);clear F2;have F2:=F2_;clear F2_;have F3_:=qK (Kd.S_below F3.out HST.out);clear F3;have F3:=F3_;clear F3_;have F4_:=qK (rB F4.out HST.out);clear F4;have F4:=F4_;clear F4_;have BK1_:=qK (qB BK1.out HST.out);clear BK1;have BK1:=BK1_;clear BK1_;have hc1_0_6:w6.cell? ⟨gb1,0,none⟩=some (.slice A0_0 l0_0.length c0_0):=(qC BK1.out 0).trans rfl;have hc1_1_6:w6.cell? ⟨gb1,1,none⟩=some (.slice A0_1 l0_1.length c0_1):=(qC BK1.out 1).trans rfl;clear hb HST ho0;clear HB5;refine ⟨_,rfl,?_⟩)|((with_reducible refine gate_callee (f:=27) rfl ?_);refine goesL_ (some 35) rfl rfl Try.func27 (by kernel_rfl) rfl #[.agg #[.slice Af2 l0_0.length cf2,.slice Af3 (cvAtomS l0_1).length cf3],.slice Af4 (cvEarS l1).length cf4,.slice Af5 l2.length cf5] rfl (by (try simp only [mT,mC,mN]);first|done|rfl|(simp only [lD,lT];rfl)) ?_;(with_reducible refine (spec_IsTree.calls (hr0_0:=(Kd.R_reads' F2.out).2.2) (hc0_0:=(Kd.R_reads' F2.out).2.1) (hr0_1:=(Kd.S_reads' F3.out).2.2) (hc0_1:=(Kd.S_reads' F3.out).2.1) (hr1:=(Kd.R_reads' F4.out).2.2) (hc1:=(Kd.R_reads' F4.out).2.1) (hr2:=(Kd.R_reads' F5.out).2.2) (hc2:=(Kd.R_reads' F5.out).2.1) (h:=N7.out)).mono ?_);rintro e w7 ⟨rfl,hb⟩;have HST:=qK (hb);have HB7:=qK (qT HB6.out HST.out);have HS7:=qK (show w6.heap.size≤w7.heap.size from HST.out.size);clear F2;clear F3;clear F4;clear F5;have BK1_:=qK (qB BK1.out HST.out);clear BK1;have BK1:=BK1_;clear BK1_;have hc1_0_7:w7.cell? ⟨gb1,0,none⟩=some (.slice A0_0 l0_0.length c0_0):=(qC BK1.out 0).trans rfl;have hc1_1_7:w7.cell? ⟨gb1,1,none⟩=some (.slice A0_1 l0_1.length c0_1):=(qC BK1.out 1).trans rfl;clear hb HST;clear HB6;refine ⟨_,rfl,?_⟩))
 go_upto_region 12 with (first|((with_reducible refine gate_callee (f:=16) rfl ?_);refine goesL_ (some 39) rfl rfl Try.func16 (by kernel_rfl) rfl #[.agg #[.slice A0_0 l0_0.length c0_0,.slice A0_1 l0_1.length c0_1]] rfl (by (try simp only [mT,mC,mN]);first|done|rfl|(simp only [lD,lT];rfl)) ?_;(with_reducible refine (laws_toQuery.calls (hr0_0:=cB HR0_0.out HB7.out) (hc0_0:=HC0_0.out) (hr0_1:=cB HR0_1.out HB7.out) (hc0_1:=HC0_1.out) (h:=N8.out)).mono ?_);rintro e w8 ⟨v0_,v1_,rfl,ho0,ho1,hb⟩;have HST:=qK (hb);have HB8:=qK (qT HB7.out HST.out);have HS8:=qK (show w7.heap.size≤w8.heap.size from HST.out.size);obtain ⟨Af6,cf6,ef6⟩:=Kd.R_slice ho0;subst ef6;obtain ⟨Af7,cf7,ef7⟩:=Kd.S_slice ho1;subst ef7;have F6:=qK (show Kd.R (Kd.int .i64) 3 w8 w.heap.size (fun k_=>w7.heap.size≤k_∧k_ < w8.heap.size∧some k_=(.slice Af6 l0_0.length cf6:Value).ownBlock) (.slice Af6 l0_0.length cf6) l0_0 from Kd.R_lower (Kd.R_mono (Kd.R_bound (Kd.R_tight rfl ho0)) (fun k_ hk_=>⟨hk_.2.1,hk_.2.2.1,hk_.1⟩)) (qZ HB7.out));have F7:=qK (show Kd.S k97 97 w8 w.heap.size (fun k_=>w7.heap.size≤k_∧k_ < w8.heap.size∧some k_ ≠ (.slice Af6 l0_0.length cf6:Value).ownBlock) (.slice Af7 (cvAtomS l0_1).length cf7) (cvAtomS l0_1) from Kd.S_lower (Kd.S_mono (Kd.S_bound ho1) (fun k_ hk_=>⟨hk_.2.1,hk_.2.2.1,(by have h_:=hk_.1;first|exact h_|exact h_.1|exact h_.2|exact h_.2.1|exact h_.2.2|simp_all)⟩)) (qZ HB7.out));have BK1_:=qK (qB BK1.out HST.out);clear BK1;have BK1:=BK1_;clear BK1_;have hc1_0_8:w8.cell? ⟨gb1,0,none⟩=some (.slice A0_0 l0_0.length c0_0):=(qC BK1.out 0).trans rfl;have hc1_1_8:w8.cell? ⟨gb1,1,none⟩=some (.slice A0_1 l0_1.length c0_1):=(qC BK1.out 1).trans rfl;clear hb HST ho0 ho1;clear HB7;refine ⟨_,rfl,?_⟩)|((with_reducible refine gate_dst (N:=10) rfl ?_);refine box_event ?hg (N:=10) ?hd (cs:=#[.slice none 0 0,.slice none 0 0]) (t:=32) ?hr ?_;(case hd=>rfl);(case hg=>rfl);(case hr=>(go_simp;try rfl));intro gb8 hg w9 hbox hb;have HG8:=qK hg;have HST:=qK hb;have HB9:=qK (qT HB8.out HST.out);have HS9:=qK (show w8.heap.size≤w9.heap.size from HST.out.size);have HS9b:=qK (show gb8 < w9.heap.size from blk_lt hbox);have F6_:=qK (rB F6.out HST.out);clear F6;have F6:=F6_;clear F6_;have F7_:=qK (Kd.S_below F7.out HST.out);clear F7;have F7:=F7_;clear F7_;have BK1_:=qK (qB BK1.out HST.out);clear BK1;have BK1:=BK1_;clear BK1_;have hc1_0_9:w9.cell? ⟨gb1,0,none⟩=some (.slice A0_0 l0_0.length c0_0):=(qC BK1.out 0).trans rfl;have hc1_1_9:w9.cell? ⟨gb1,1,none⟩=some (.slice A0_1 l0_1.length c0_1):=(qC BK1.out 1).trans rfl;have BK8:=qK hbox;have hc8_0_9:w9.cell? ⟨gb8,0,none⟩=some (.slice none 0 0):=(qC BK8.out 0).trans rfl;have hc8_1_9:w9.cell? ⟨gb8,1,none⟩=some (.slice none 0 0):=(qC BK8.out 1).trans rfl;have hf8_0_9:=qF BK8.out 0;have hf8_1_9:=qF BK8.out 1;clear hg hbox hb HST HB8))
 obtain ⟨w10,hwS⟩:∃ z_,z_=((w9.setCell ⟨gb8,0,none⟩ (.slice Af6 l0_0.length cf6)).setCell ⟨gb8,1,none⟩ (.slice Af7 (cvAtomS l0_1).length cf7)):=⟨_,rfl⟩;rw [← hwS];have HGE8:=qK (show w.heap.size≤gb8 from by rw [HG8.out];have z1_:=HS1.out;have z2_:=HS2.out;have z3_:=HS3.out;have z4_:=HS4.out;have z5_:=HS5.out;have z6_:=HS6.out;have z7_:=HS7.out;have z8_:=HS8.out;omega);have HKK:=qK (show Kept w9 w10 (fun k_=>k_=gb8) from by rw [hwS];exact ((((Kept.refl w9 (fun k_=>k_=gb8)).setCell (p:=⟨gb8,0,none⟩) (.inl rfl) _)).setCell (p:=⟨gb8,1,none⟩) (.inl rfl) _));have HB10:=qK (show Below w.heap.size w w10 from by rw [hwS];exact (qS (qS HB9.out HGE8.out) HGE8.out));have HS10:=qK (show w9.heap.size≤w10.heap.size from HKK.out.1);have BK8_:=qK (show w10.heap[gb8]?=some (.cells #[.slice Af6 l0_0.length cf6,.slice Af7 (cvAtomS l0_1).length cf7] 32 (0,0)) from by rw [hwS];exact (qP (cs:=#[.slice Af6 l0_0.length cf6,.slice none 0 0]) (qP (cs:=#[.slice none 0 0,.slice none 0 0]) BK8.out 0 _ rfl) 1 _ rfl));clear BK8;have BK8:=BK8_;clear BK8_;have F6_:=qK (Kd.R_kept F6.out HKK.out (fun k_ h1_ h2_=>by have h5_:=h1_.1;have h6_:=h1_.2.1;have z0_:=HG8.out;have zb_:=HS9b.out;subst h2_;have z1_:=HS1.out;have z2_:=HS2.out;have z3_:=HS3.out;have z4_:=HS4.out;have z5_:=HS5.out;have z6_:=HS6.out;have z7_:=HS7.out;have z8_:=HS8.out;have z9_:=HS9.out;omega));clear F6;have F6:=F6_;clear F6_;have F7_:=qK (Kd.S_kept F7.out HKK.out (fun k_ h1_ h2_=>by have h5_:=h1_.1;have h6_:=h1_.2.1;have z0_:=HG8.out;have zb_:=HS9b.out;subst h2_;have z1_:=HS1.out;have z2_:=HS2.out;have z3_:=HS3.out;have z4_:=HS4.out;have z5_:=HS5.out;have z6_:=HS6.out;have z7_:=HS7.out;have z8_:=HS8.out;have z9_:=HS9.out;omega));clear F7;have F7:=F7_;clear F7_;have BK1_:=qK (blk_kept BK1.out HKK.out (fun e_=>by have z0_:=HG8.out;have z1_:=HG1.out;have y1_:=HS1.out;have y2_:=HS2.out;have y3_:=HS3.out;have y4_:=HS4.out;have y5_:=HS5.out;have y6_:=HS6.out;have y7_:=HS7.out;have y8_:=HS8.out;have y9_:=HS9.out;have x9_:=HS9b.out;have x1_:=HS1b.out;omega));clear BK1;have BK1:=BK1_;clear BK1_;have hc1_0_10:w10.cell? ⟨gb1,0,none⟩=some (.slice A0_0 l0_0.length c0_0):=(qC BK1.out 0).trans rfl;have hc1_1_10:w10.cell? ⟨gb1,1,none⟩=some (.slice A0_1 l0_1.length c0_1):=(qC BK1.out 1).trans rfl;have hc8_0_10:w10.cell? ⟨gb8,0,none⟩=some (.slice Af6 l0_0.length cf6):=(qC BK8.out 0).trans rfl;have hc8_1_10:w10.cell? ⟨gb8,1,none⟩=some (.slice Af7 (cvAtomS l0_1).length cf7):=(qC BK8.out 1).trans rfl;clear hwS HKK HB9;go_upto_region 13 with (first|((with_reducible refine gate_callee (f:=28) rfl ?_);refine goesL_ (some 41) rfl rfl Try.func28 (by kernel_rfl) rfl #[.slice A1 l1.length c1] rfl (by (try simp only [mT,mC,mN]);first|done|rfl|(simp only [lD,lT];rfl)) ?_;(with_reducible refine (laws_toEarS.calls (hr0:=cB HR1.out HB10.out) (hc0:=HC1.out) (h:=N11.out)).mono ?_);rintro e w11 ⟨v0_,rfl,ho0,hb⟩;have HST:=qK (hb);have HB11:=qK (qT HB10.out HST.out);have HS11:=qK (show w10.heap.size≤w11.heap.size from HST.out.size);obtain ⟨Af9,cf9,ef9⟩:=Kd.R_slice ho0;subst ef9;have F9:=qK (show Kd.R k106 106 w11 w.heap.size (fun k_=>w10.heap.size≤k_∧k_ < w11.heap.size) (.slice Af9 (cvEarS l1).length cf9) (cvEarS l1) from Kd.R_lower (Kd.R_mono (Kd.R_bound ho0) (fun k_ hk_=>⟨hk_.2.1,hk_.2.2.1⟩)) (qZ HB10.out));have F6_:=qK (rB F6.out HST.out);clear F6;have F6:=F6_;clear F6_;have F7_:=qK (Kd.S_below F7.out HST.out);clear F7;have F7:=F7_;clear F7_;have BK1_:=qK (qB BK1.out HST.out);clear BK1;have BK1:=BK1_;clear BK1_;have hc1_0_11:w11.cell? ⟨gb1,0,none⟩=some (.slice A0_0 l0_0.length c0_0):=(qC BK1.out 0).trans rfl;have hc1_1_11:w11.cell? ⟨gb1,1,none⟩=some (.slice A0_1 l0_1.length c0_1):=(qC BK1.out 1).trans rfl;have BK8_:=qK (qB BK8.out HST.out);clear BK8;have BK8:=BK8_;clear BK8_;have hc8_0_11:w11.cell? ⟨gb8,0,none⟩=some (.slice Af6 l0_0.length cf6):=(qC BK8.out 0).trans rfl;have hc8_1_11:w11.cell? ⟨gb8,1,none⟩=some (.slice Af7 (cvAtomS l0_1).length cf7):=(qC BK8.out 1).trans rfl;clear hb HST ho0;clear HB10;refine ⟨_,rfl,?_⟩))
 go_upto_region 14 with (first|((with_reducible refine gate_callee (f:=17) rfl ?_);refine goesL_ (some 43) rfl rfl Try.func17 (by kernel_rfl) rfl #[.slice A2 l2.length c2] rfl (by (try simp only [mT,mC,mN]);first|done|rfl|(simp only [lD,lT];rfl)) ?_;(with_reducible refine (laws_toIntS.calls (hr0:=cB HR2.out HB11.out) (hc0:=HC2.out) (h:=N12.out)).mono ?_);rintro e w12 ⟨v0_,rfl,ho0,hb⟩;have HST:=qK (hb);have HB12:=qK (qT HB11.out HST.out);have HS12:=qK (show w11.heap.size≤w12.heap.size from HST.out.size);obtain ⟨Af10,cf10,ef10⟩:=Kd.R_slice ho0;subst ef10;have F10:=qK (show Kd.R (Kd.int .i64) 3 w12 w.heap.size (fun k_=>w11.heap.size≤k_∧k_ < w12.heap.size) (.slice Af10 l2.length cf10) l2 from Kd.R_lower (Kd.R_mono (Kd.R_bound ho0) (fun k_ hk_=>⟨hk_.2.1,hk_.2.2.1⟩)) (qZ HB11.out));have F6_:=qK (rB F6.out HST.out);clear F6;have F6:=F6_;clear F6_;have F7_:=qK (Kd.S_below F7.out HST.out);clear F7;have F7:=F7_;clear F7_;have F9_:=qK (rB F9.out HST.out);clear F9;have F9:=F9_;clear F9_;have BK1_:=qK (qB BK1.out HST.out);clear BK1;have BK1:=BK1_;clear BK1_;have hc1_0_12:w12.cell? ⟨gb1,0,none⟩=some (.slice A0_0 l0_0.length c0_0):=(qC BK1.out 0).trans rfl;have hc1_1_12:w12.cell? ⟨gb1,1,none⟩=some (.slice A0_1 l0_1.length c0_1):=(qC BK1.out 1).trans rfl;have BK8_:=qK (qB BK8.out HST.out);clear BK8;have BK8:=BK8_;clear BK8_;have hc8_0_12:w12.cell? ⟨gb8,0,none⟩=some (.slice Af6 l0_0.length cf6):=(qC BK8.out 0).trans rfl;have hc8_1_12:w12.cell? ⟨gb8,1,none⟩=some (.slice Af7 (cvAtomS l0_1).length cf7):=(qC BK8.out 1).trans rfl;clear hb HST ho0;clear HB11;refine ⟨_,rfl,?_⟩))
 go_upto_region 15 with (first|((with_reducible refine gate_callee (f:=29) rfl ?_);refine goesL_ (some 48) rfl rfl Try.func29 (by kernel_rfl) rfl #[.agg #[.slice Af6 l0_0.length cf6,.slice Af7 (cvAtomS l0_1).length cf7],.slice Af9 (cvEarS l1).length cf9,.slice Af10 l2.length cf10] rfl (by (try simp only [mT,mC,mN]);first|done|rfl|(simp only [lD,lT];rfl)) ?_;(with_reducible refine (impl_IsTree.calls (hr0_0:=(Kd.R_reads' F6.out).2.2) (hc0_0:=(Kd.R_reads' F6.out).2.1) (hr0_1:=(Kd.S_reads' F7.out).2.2) (hc0_1:=(Kd.S_reads' F7.out).2.1) (hr1:=(Kd.R_reads' F9.out).2.2) (hc1:=(Kd.R_reads' F9.out).2.1) (hr2:=(Kd.R_reads' F10.out).2.2) (hc2:=(Kd.R_reads' F10.out).2.1) (h:=N13.out)).mono ?_);rintro e w13 ⟨rfl,hb⟩;have HST:=qK (hb);have HB13:=qK (qT HB12.out HST.out);have HS13:=qK (show w12.heap.size≤w13.heap.size from HST.out.size);have F6_:=qK (rB F6.out HST.out);clear F6;have F6:=F6_;clear F6_;have F7_:=qK (Kd.S_below F7.out HST.out);clear F7;have F7:=F7_;clear F7_;have F9_:=qK (rB F9.out HST.out);clear F9;have F9:=F9_;clear F9_;have F10_:=qK (rB F10.out HST.out);clear F10;have F10:=F10_;clear F10_;have BK1_:=qK (qB BK1.out HST.out);clear BK1;have BK1:=BK1_;clear BK1_;have hc1_0_13:w13.cell? ⟨gb1,0,none⟩=some (.slice A0_0 l0_0.length c0_0):=(qC BK1.out 0).trans rfl;have hc1_1_13:w13.cell? ⟨gb1,1,none⟩=some (.slice A0_1 l0_1.length c0_1):=(qC BK1.out 1).trans rfl;have BK8_:=qK (qB BK8.out HST.out);clear BK8;have BK8:=BK8_;clear BK8_;have hc8_0_13:w13.cell? ⟨gb8,0,none⟩=some (.slice Af6 l0_0.length cf6):=(qC BK8.out 0).trans rfl;have hc8_1_13:w13.cell? ⟨gb8,1,none⟩=some (.slice Af7 (cvAtomS l0_1).length cf7):=(qC BK8.out 1).trans rfl;clear hb HST;clear HB12;refine ⟨_,rfl,?_⟩))
 go_upto_region 17 with (fail)
 go_wp2_with (fail)
 have F6_:=qK (rW F6.out);clear F6;have F6:=F6_;clear F6_;have F7_:=qK (Kd.S_drew F7.out);clear F7;have F7:=F7_;clear F7_;have F9_:=qK (rW F9.out);clear F9;have F9:=F9_;clear F9_;have F10_:=qK (rW F10.out);clear F10;have F10:=F10_;clear F10_;have BK1_:=qK (qW BK1.out);clear BK1;have BK1:=BK1_;clear BK1_;have BK8_:=qK (qW BK8.out);clear BK8;have BK8:=BK8_;clear BK8_;have HB13_:=qK (qO HB13.out);clear HB13;have HB13:=HB13_;clear HB13_;have HSD17:=qK (show w13.heap.size=w13.drew.heap.size from rfl);refine start_ (n:=5) (S:=fun w'=>w'.cell? ⟨gb8,0,none⟩=some (.slice Af6 l0_0.length cf6)∧w'.cell? ⟨gb8,1,none⟩=some (.slice Af7 (cvAtomS l0_1).length cf7)∧w'.cell? ⟨gb1,0,none⟩=some (.slice A0_0 l0_0.length c0_0)∧w'.cell? ⟨gb1,1,none⟩=some (.slice A0_1 l0_1.length c0_1)) (ds:=[]) #[Z,Z,Z,Z,Z] (by kernel_rfl) rfl rfl ⟨(qC BK8.out 0).trans rfl,(qC BK8.out 1).trans rfl,(qC BK1.out 0).trans rfl,(qC BK1.out 1).trans rfl⟩ (fun hHeld=>?_);generalize w13.drew=wd17 at F6 F7 F9 F10 BK1 BK8  HB13 HSD17 hHeld ⊢
 have HSE17:=qK (show w13.heap.size≤wd17.heap.size from Nat.le_of_eq HSD17.out);refine take_ (i:=0) (N:=some 59) (v:=?_) (a':=?_) #[Y,Z,Z,Z,Z] rfl rfl (by kernel_rfl) (fun _ _ _ h=>h) (Or.inl ⟨by rfl,?_⟩) hHeld ?_ ?_;rotate_left
 ·rintro w' ⟨s0,s1,s2,s3⟩;go_simp;with_reducible rfl
 rotate_left
 ·simp only [Act.put,sIb,sZ,sS,i64_w,i32_w];rfl
 refine take_ (i:=1) (N:=some 60) (v:=?_) (a':=?_) #[Y,Y,Z,Z,Z] rfl rfl (by kernel_rfl) (fun _ _ _ h=>h) (Or.inl ⟨by rfl,?_⟩) hHeld ?_ ?_;rotate_left
 ·rintro w' ⟨s0,s1,s2,s3⟩;go_simp;with_reducible rfl
 rotate_left
 ·simp only [Act.put,sIb,sZ,sS,i64_w,i32_w];rfl
 refine one_ (i:=2) (N:=some 61) #[Y,Y,Y,Z,Z] rfl rfl (by kernel_rfl) (by decide) (fun K hK=>?_);refine goes_ Try.func16 (by kernel_rfl) rfl #[.agg #[.slice A0_0 l0_0.length c0_0,.slice A0_1 l0_1.length c0_1]] (by rfl) rfl rfl (by (try simp only [mT,mC,mN]);first|done|rfl|(simp only [lD,lT];rfl)) ?_;(with_reducible refine (laws_toQuery.calls (hr0_0:=cB HR0_0.out HB13.out) (hc0_0:=HC0_0.out) (hr0_1:=cB HR0_1.out HB13.out) (hc0_1:=HC0_1.out) (h:=N14.out)).mono ?_);rintro e w14 ⟨v0_,v1_,rfl,ho0,ho1,hb⟩;refine ⟨_,rfl,?_⟩;have HST:=qK (hb);have HB14:=qK (qT HB13.out HST.out);have HS14:=qK (show wd17.heap.size≤w14.heap.size from HST.out.size);obtain ⟨Af11,cf11,ef11⟩:=Kd.R_slice ho0;subst ef11;obtain ⟨Af12,cf12,ef12⟩:=Kd.S_slice ho1;subst ef12;have F11:=qK (show Kd.R (Kd.int .i64) 3 w14 w.heap.size (fun k_=>wd17.heap.size≤k_∧k_ < w14.heap.size∧some k_=(.slice Af11 l0_0.length cf11:Value).ownBlock) (.slice Af11 l0_0.length cf11) l0_0 from Kd.R_lower (Kd.R_mono (Kd.R_bound (Kd.R_tight rfl ho0)) (fun k_ hk_=>⟨hk_.2.1,hk_.2.2.1,hk_.1⟩)) (qZ HB13.out));have F12:=qK (show Kd.S k97 97 w14 w.heap.size (fun k_=>wd17.heap.size≤k_∧k_ < w14.heap.size∧some k_ ≠ (.slice Af11 l0_0.length cf11:Value).ownBlock) (.slice Af12 (cvAtomS l0_1).length cf12) (cvAtomS l0_1) from Kd.S_lower (Kd.S_mono (Kd.S_bound ho1) (fun k_ hk_=>⟨hk_.2.1,hk_.2.2.1,(by have h_:=hk_.1;first|exact h_|exact h_.1|exact h_.2|exact h_.2.1|exact h_.2.2|simp_all)⟩)) (qZ HB13.out));have F6_:=qK (rB F6.out HST.out);clear F6;have F6:=F6_;clear F6_;have F7_:=qK (Kd.S_below F7.out HST.out);clear F7;have F7:=F7_;clear F7_;have F9_:=qK (rB F9.out HST.out);clear F9;have F9:=F9_;clear F9_;have F10_:=qK (rB F10.out HST.out);clear F10;have F10:=F10_;clear F10_;have BK1_:=qK (qB BK1.out HST.out);clear BK1;have BK1:=BK1_;clear BK1_;have hc1_0_14:w14.cell? ⟨gb1,0,none⟩=some (.slice A0_0 l0_0.length c0_0):=(qC BK1.out 0).trans rfl;have hc1_1_14:w14.cell? ⟨gb1,1,none⟩=some (.slice A0_1 l0_1.length c0_1):=(qC BK1.out 1).trans rfl;have BK8_:=qK (qB BK8.out HST.out);clear BK8;have BK8:=BK8_;clear BK8_;have hc8_0_14:w14.cell? ⟨gb8,0,none⟩=some (.slice Af6 l0_0.length cf6):=(qC BK8.out 0).trans rfl;have hc8_1_14:w14.cell? ⟨gb8,1,none⟩=some (.slice Af7 (cvAtomS l0_1).length cf7):=(qC BK8.out 1).trans rfl;clear hb HST ho0 ho1;clear HB13;refine hK.out _ _ ⟨(qC BK8.out 0).trans rfl,(qC BK8.out 1).trans rfl,(qC BK1.out 0).trans rfl,(qC BK1.out 1).trans rfl⟩ (fun hHeld=>?_);clear hK K;refine norm_ (a':=?_) ?_ ?_;rotate_left
 ·show Act.put _ (some 61) _=_
  simp only [Act.put,sIb,sZ,sS,i64_w,i32_w];rfl
 refine one_ (i:=3) (N:=some 62) #[Y,Y,Y,Y,Z] rfl rfl (by kernel_rfl) (by decide) (fun K hK=>?_);refine goes_ Try.func20 (by kernel_rfl) rfl #[.agg #[.slice Af6 l0_0.length cf6,.slice Af7 (cvAtomS l0_1).length cf7],.agg #[.slice Af11 l0_0.length cf11,.slice Af12 (cvAtomS l0_1).length cf12]] (by rfl) rfl rfl (by (try simp only [mT,mC,mN]);first|done|rfl|(simp only [lD,lT];rfl)) ?_;(with_reducible refine (laws_eqQuery.calls (hr0_0:=(Kd.R_reads' F6.out).2.2) (hc0_0:=(Kd.R_reads' F6.out).2.1) (hr0_1:=(Kd.S_reads' F7.out).2.2) (hc0_1:=(Kd.S_reads' F7.out).2.1) (hr1_0:=(Kd.R_reads' F11.out).2.2) (hc1_0:=(Kd.R_reads' F11.out).2.1) (hr1_1:=(Kd.S_reads' F12.out).2.2) (hc1_1:=(Kd.S_reads' F12.out).2.1) (h:=N15.out)).mono ?_);rintro e w15 ⟨rfl,hb⟩;refine ⟨_,rfl,?_⟩;have HST:=qK (hb);have HB15:=qK (qT HB14.out HST.out);have HS15:=qK (show w14.heap.size≤w15.heap.size from HST.out.size);clear F6;clear F7;have F9_:=qK (rB F9.out HST.out);clear F9;have F9:=F9_;clear F9_;have F10_:=qK (rB F10.out HST.out);clear F10;have F10:=F10_;clear F10_;clear F11;clear F12;have BK1_:=qK (qB BK1.out HST.out);clear BK1;have BK1:=BK1_;clear BK1_;have hc1_0_15:w15.cell? ⟨gb1,0,none⟩=some (.slice A0_0 l0_0.length c0_0):=(qC BK1.out 0).trans rfl;have hc1_1_15:w15.cell? ⟨gb1,1,none⟩=some (.slice A0_1 l0_1.length c0_1):=(qC BK1.out 1).trans rfl;have BK8_:=qK (qB BK8.out HST.out);clear BK8;have BK8:=BK8_;clear BK8_;have hc8_0_15:w15.cell? ⟨gb8,0,none⟩=some (.slice Af6 l0_0.length cf6):=(qC BK8.out 0).trans rfl;have hc8_1_15:w15.cell? ⟨gb8,1,none⟩=some (.slice Af7 (cvAtomS l0_1).length cf7):=(qC BK8.out 1).trans rfl;clear hb HST;clear HB14;refine hK.out _ _ ⟨(qC BK8.out 0).trans rfl,(qC BK8.out 1).trans rfl,(qC BK1.out 0).trans rfl,(qC BK1.out 1).trans rfl⟩ (fun hHeld=>?_);clear hK K;refine norm_ (a':=?_) ?_ ?_;rotate_left
 ·show Act.put _ (some 62) _=_
  simp only [Act.put,sIb,sZ,sS,i64_w,i32_w];rfl
 refine pure_ (i:=4) (N:=some 63) (v:=?_) (a':=?_) #[Y,Y,Y,Y,Y] rfl rfl (by kernel_rfl) (fun _ _ _ h=>h) (Or.inl ⟨by rfl,?_⟩) ?_ ?_;rotate_left
 ·intro w';go_simp;with_reducible rfl
 rotate_left
 ·simp only [Act.put,sIb,sZ,sS,i64_w,i32_w];rfl
 refine done_ (by kernel_rfl) ?_;go_upto_region 21 with (first|((with_reducible refine gate_callee (f:=28) rfl ?_);refine goesL_ (some 66) rfl rfl Try.func28 (by kernel_rfl) rfl #[.slice A1 l1.length c1] rfl (by (try simp only [mT,mC,mN]);first|done|rfl|(simp only [lD,lT];rfl)) ?_;(with_reducible refine (laws_toEarS.calls (hr0:=cB HR1.out HB15.out) (hc0:=HC1.out) (h:=N16.out)).mono ?_);rintro e w16 ⟨v0_,rfl,ho0,hb⟩;have HST:=qK (hb);have HB16:=qK (qT HB15.out HST.out);have HS16:=qK (show w15.heap.size≤w16.heap.size from HST.out.size);obtain ⟨Af13,cf13,ef13⟩:=Kd.R_slice ho0;subst ef13;have F13:=qK (show Kd.R k106 106 w16 w.heap.size (fun k_=>w15.heap.size≤k_∧k_ < w16.heap.size) (.slice Af13 (cvEarS l1).length cf13) (cvEarS l1) from Kd.R_lower (Kd.R_mono (Kd.R_bound ho0) (fun k_ hk_=>⟨hk_.2.1,hk_.2.2.1⟩)) (qZ HB15.out));have F9_:=qK (rB F9.out HST.out);clear F9;have F9:=F9_;clear F9_;have F10_:=qK (rB F10.out HST.out);clear F10;have F10:=F10_;clear F10_;clear BK1;clear BK8;clear hb HST ho0;clear HB15;refine ⟨_,rfl,?_⟩)|((with_reducible refine gate_callee (f:=30) rfl ?_);refine goesL_ (some 67) rfl rfl Try.func30 (by kernel_rfl) rfl #[.slice Af9 (cvEarS l1).length cf9,.slice Af13 (cvEarS l1).length cf13] rfl (by (try simp only [mT,mC,mN]);first|done|rfl|(simp only [lD,lT];rfl)) ?_;(with_reducible refine (laws_eqEarS.calls (hr0:=(Kd.R_reads' F9.out).2.2) (hc0:=(Kd.R_reads' F9.out).2.1) (hr1:=(Kd.R_reads' F13.out).2.2) (hc1:=(Kd.R_reads' F13.out).2.1) (h:=N17.out)).mono ?_);rintro e w17 ⟨rfl,hb⟩;have HST:=qK (hb);have HB17:=qK (qT HB16.out HST.out);have HS17:=qK (show w16.heap.size≤w17.heap.size from HST.out.size);clear F9;have F10_:=qK (rB F10.out HST.out);clear F10;have F10:=F10_;clear F10_;clear F13;clear hb HST;clear HB16;refine ⟨_,rfl,?_⟩))
 go_upto_region 23 with (first|((with_reducible refine gate_callee (f:=17) rfl ?_);refine goesL_ (some 71) rfl rfl Try.func17 (by kernel_rfl) rfl #[.slice A2 l2.length c2] rfl (by (try simp only [mT,mC,mN]);first|done|rfl|(simp only [lD,lT];rfl)) ?_;(with_reducible refine (laws_toIntS.calls (hr0:=cB HR2.out HB17.out) (hc0:=HC2.out) (h:=N18.out)).mono ?_);rintro e w18 ⟨v0_,rfl,ho0,hb⟩;have HST:=qK (hb);have HB18:=qK (qT HB17.out HST.out);have HS18:=qK (show w17.heap.size≤w18.heap.size from HST.out.size);obtain ⟨Af14,cf14,ef14⟩:=Kd.R_slice ho0;subst ef14;have F14:=qK (show Kd.R (Kd.int .i64) 3 w18 w.heap.size (fun k_=>w17.heap.size≤k_∧k_ < w18.heap.size) (.slice Af14 l2.length cf14) l2 from Kd.R_lower (Kd.R_mono (Kd.R_bound ho0) (fun k_ hk_=>⟨hk_.2.1,hk_.2.2.1⟩)) (qZ HB17.out));have F10_:=qK (rB F10.out HST.out);clear F10;have F10:=F10_;clear F10_;clear hb HST ho0;clear HB17;refine ⟨_,rfl,?_⟩)|((with_reducible refine gate_callee (f:=21) rfl ?_);refine goesL_ (some 72) rfl rfl Try.func21 (by kernel_rfl) rfl #[.slice Af10 l2.length cf10,.slice Af14 l2.length cf14] rfl (by (try simp only [mT,mC,mN]);first|done|rfl|(simp only [lD,lT];rfl)) ?_;(with_reducible refine (laws_eqIntS.calls (hr0:=(Kd.R_reads' F10.out).2.2) (hc0:=(Kd.R_reads' F10.out).2.1) (hr1:=(Kd.R_reads' F14.out).2.2) (hc1:=(Kd.R_reads' F14.out).2.1) (h:=N19.out)).mono ?_);rintro e w19 ⟨rfl,hdr⟩;have HST:=qK (hdr.below);have HB19:=qK (qT HB18.out HST.out);have HS19:=qK (show w18.heap.size≤w19.heap.size from HST.out.size);clear F10;clear F14;clear hdr HST;clear HB18;refine ⟨_,rfl,?_⟩))
 go_wp2
 go_ret
 exact ⟨rfl,HB19.out⟩

end Go.Proofs.Ytboligpcbndkjaa.PFnExactIsTree
