/-
  A text of this claim's own, printed by a program of the session (wip/tools/xprint.py): functions of the program as Lean functions, each with what its call comes to.
-/
import Derived.Test.YtboligpcbndkjaaPFnExactSameQueriesx0
import Derived.Test.YtboligpcbndkjaaPFnExactSameQueriesx5
namespace Go.Proofs.Ytboligpcbndkjaa.PFnExactSameQueries
open Go.Proofs.YtboligpcbndkjaaW.PrintWords renaming pw_below_drewN → qD, blk_cell → qC, below_drew1 → qO, below_alloc → qA, blk_frozen → qF, below_set → qS, blk_drewN → qN, blk_alloc → qL, blk_drew → qW, below_size → qZ, below_step → qT, blk_below → qB, blk_far → qR, blk_put → qP
open Go.Proofs.YtboligpcbndkjaaW.PrintWords.Aside0 renaming mk → qK
open Bool renaming true → Y, false → Z
open List renaming setIfInBounds_toArray → sIb, set_cons_zero → sZ, set_cons_succ → sS, map_toArray → mT, map_cons → mC, map_nil → mN, length_drop → lD, length_take → lT
open Go.Proofs.YtboligpcbndkjaaW.PrintWords.Kd renaming C_alloc → cL, C_drewN → cN, C_drew → cW, C_below → cB, R_alloc → rL, R_drewN → rN, R_drew → rW, R_below → rB
open Go.RowKit Go.Proofs.YtboligpcbndkjaaW.PrintWords Go.Proofs.YtboligpcbndkjaaW.PrintLast Go.Proofs.YtboligpcbndkjaaW.PrintMore
attribute [local go_sem] max2_int min2_int max_two min_two max_three min_three max_four min_four   -- for this text's walks alone
set_option linter.unusedVariables false
set_option linter.unusedSimpArgs false

/-! ### slices_Equal_int_int: function 185 -/
def slices_Equal_int_int.l0 : Nat→List Int→List Int→Int→Int→Option (Bool)
 | 0,_,_,_,_=>none
 | k + 1,x0,x1,x12,x13=>if x13 < x12 then (if 0≤x13 then (if x13 < (x0.length:Int) then (if x13 < (x1.length:Int) then (if (rd x0 x13)=(rd x1 x13) then (slices_Equal_int_int.l0 k x0 x1 x12 (wrap64 (x13 + 1))) else (some false)) else (none)) else (none)) else (none)) else (some true)
def slices_Equal_int_int.f (k:Nat) (l0:List Int) (l1:List Int):Option (Bool):=if (l0.length:Int)=(l1.length:Int) then (slices_Equal_int_int.l0 k l0 l1 (l0.length:Int) 0) else (some false)
theorem slices_Equal_int_int.mono_l : ∀ k,(∀ y0 y1 y2 y3,LeO (slices_Equal_int_int.l0 k y0 y1 y2 y3) (slices_Equal_int_int.l0 (k + 1) y0 y1 y2 y3))
 | 0=>fun _ _ _ _ r h=>by simp [slices_Equal_int_int.l0] at h
 | k + 1=>by
  have ih0:=slices_Equal_int_int.mono_l k
  ·intro y0 y1 y2 y3;unfold slices_Equal_int_int.l0
   repeat' first
   | (with_reducible exact ih0 _ _ _ _)
   | (with_reducible exact LeO.refl _)
   | (with_reducible exact LeO.none _)
   | (with_reducible refine LeO.ite ?_ ?_)
   | (with_reducible refine LeO.bind ?_ (fun _=>?_))
   | exact ih0 _ _ _ _
   | exact LeO.none _
   | refine LeO.ite ?_ ?_
   | refine LeO.bind ?_ (fun _=>?_)
theorem slices_Equal_int_int.mono : ∀ a0 a1 k,LeO (slices_Equal_int_int.f k a0 a1) (slices_Equal_int_int.f (k + 1) a0 a1):=by
 intro a0 a1 k;have ih0:=slices_Equal_int_int.mono_l k;unfold slices_Equal_int_int.f
 repeat' first
   | (with_reducible exact ih0 _ _ _ _)
   | (with_reducible exact LeO.refl _)
   | (with_reducible exact LeO.none _)
   | (with_reducible refine LeO.ite ?_ ?_)
   | (with_reducible refine LeO.bind ?_ (fun _=>?_))
   | exact ih0 _ _ _ _
   | exact LeO.none _
   | refine LeO.ite ?_ ?_
   | refine LeO.bind ?_ (fun _=>?_)
set_option maxHeartbeats 8000000 in
set_option maxRecDepth 100000 in
theorem slices_Equal_int_int.calls (k:Nat) (A0:Option Addr) (c0:Nat) (l0:List Int) (A1:Option Addr) (c1:Nat) (l1:List Int) (r:Bool) (w:World) (hr0:Kd.C (Kd.int .i64) w A0 l0.length l0) (hc0:l0.length≤c0) (hr1:Kd.C (Kd.int .i64) w A1 l1.length l1) (hc1:l1.length≤c1) (h:slices_Equal_int_int.f k l0 l1=some r) :
  Calls Try.prog 185 #[.slice A0 l0.length c0,.slice A1 l1.length c1] w fun e w'=>e=.returned (.bool r)∧Drawn0 w w':=by
 have HR0:=qK hr0;have HC0:=qK hc0;clear hr0 hc0;have HR1:=qK hr1;have HC1:=qK hc1;clear hr1 hc1;have H:(if (l0.length:Int)=(l1.length:Int) then (slices_Equal_int_int.l0 k l0 l1 (l0.length:Int) 0) else (some false))=some r:=h;clear h;by_cases c3:(l0.length:Int)=(l1.length:Int)
 ·rw [if_pos c3] at H;have c3b0:((l0.length:Int) == (l1.length:Int))=true:=beq_iff_eq.mpr c3;have c3b1:((l0.length:Int) != (l1.length:Int))=false:=bne_eq_false_iff_eq.mpr c3;have c3b2:(l0.length == l1.length)=true:=by first|simpa using c3|(simp at c3 ⊢;omega)
  clear c3;have H':=qK H;clear H;go_enter Try.func185,Try.ntmps185
  go_wp2
  repeat (go_quiet (fail);try go_wp2)
  go_loopg [13] k (fun kq v13 w'=>∃ (x13_1:Int),v13=.int .i64 x13_1∧Aside0 (slices_Equal_int_int.l0 kq l0 l1 (l0.length:Int) x13_1=some r)∧Aside0 (kq≤k)∧Drawn0 w w')
  case atStart=>exact ⟨(0),(by first|rfl|(simp;done)|(simp [*];done)),H',⟨Nat.le_refl _⟩,by repeat (first|exact Drawn0.refl _|apply Drawn0.step)⟩
  case round =>
   clear H';try clear c1
   try clear p2
   try clear c3
   try clear c3b0
   try clear c3b1
   try clear c3b2
   obtain ⟨x13_1,rfl,HA,HK1,⟨m1,rfl⟩⟩:=hrel;cases gk with
   | zero=>exact absurd HA.out (by simp [slices_Equal_int_int.l0])
   | succ k1 =>
    have H:=HA.out;clear HA;simp only [slices_Equal_int_int.l0] at H;by_cases c4:x13_1 < (l0.length:Int)
    ·rw [if_pos c4] at H;have c4b0:decide (x13_1 < (l0.length:Int))=true:=decide_eq_true c4;clear c4;by_cases c5:0≤x13_1
     ·rw [if_pos c5] at H;have c5b0:decide (0≤x13_1)=true:=decide_eq_true c5;clear c5;by_cases c6:x13_1 < (l0.length:Int)
      ·rw [if_pos c6] at H;have c6b0:decide (x13_1 < (l0.length:Int))=true:=decide_eq_true c6;clear c6;by_cases c7:x13_1 < (l1.length:Int)
       ·rw [if_pos c7] at H;have c7b0:decide (x13_1 < (l1.length:Int))=true:=decide_eq_true c7;clear c7;by_cases c8:(rd l0 x13_1)=(rd l1 x13_1)
        ·rw [if_pos c8] at H;have c8b0:((rd l0 x13_1) == (rd l1 x13_1))=true:=beq_iff_eq.mpr c8;have c8b1:((rd l0 x13_1) != (rd l1 x13_1))=false:=bne_eq_false_iff_eq.mpr c8;clear c8;have H':=qK H;clear H;have p341:0≤(x13_1:Int):=of_decide_eq_true (by first|(with_reducible assumption)|assumption);have q341:x13_1 < (l0.length:Int):=of_decide_eq_true (by first|(with_reducible assumption)|assumption);obtain ⟨ad341,e341,hx341_0⟩:=Kd.at_int HR0.out x13_1 p341 q341;cases e341
         replace p341:=eq_true p341;replace q341:=eq_true q341;have p342:0≤(x13_1:Int):=of_decide_eq_true (by first|(with_reducible assumption)|assumption);have q342:x13_1 < (l1.length:Int):=of_decide_eq_true (by first|(with_reducible assumption)|assumption);obtain ⟨ad342,e342,hx342_0⟩:=Kd.at_int HR1.out x13_1 p342 q342;cases e342
         replace p342:=eq_true p342;replace q342:=eq_true q342;go_wp2
         repeat (go_quiet (fail);try go_wp2)
         go_roundg k1
         case measure=>have:=HK1.out;omega
         case rel=>exact ⟨(wrap64 (x13_1 + 1)),(by first|rfl|(simp;done)|(simp [*];done)),H',⟨by have:=HK1.out;omega⟩,by repeat (first|exact Drawn0.refl _|apply Drawn0.step)⟩
        ·rw [if_neg c8] at H;have c8b0:((rd l0 x13_1) == (rd l1 x13_1))=false:=beq_eq_false_iff_ne.mpr c8;have c8b1:((rd l0 x13_1) != (rd l1 x13_1))=true:=bne_iff_ne.mpr c8;obtain rfl:=Option.some.inj H;have p341:0≤(x13_1:Int):=of_decide_eq_true (by first|(with_reducible assumption)|assumption);have q341:x13_1 < (l0.length:Int):=of_decide_eq_true (by first|(with_reducible assumption)|assumption);obtain ⟨ad341,e341,hx341_0⟩:=Kd.at_int HR0.out x13_1 p341 q341;cases e341
         replace p341:=eq_true p341;replace q341:=eq_true q341;have p342:0≤(x13_1:Int):=of_decide_eq_true (by first|(with_reducible assumption)|assumption);have q342:x13_1 < (l1.length:Int):=of_decide_eq_true (by first|(with_reducible assumption)|assumption);obtain ⟨ad342,e342,hx342_0⟩:=Kd.at_int HR1.out x13_1 p342 q342;cases e342
         replace p342:=eq_true p342;replace q342:=eq_true q342;go_wp2
         repeat (go_quiet (fail);try go_wp2)
         go_ret
         exact ⟨by first|rfl|(simp;done)|(simp [*];done),by repeat (first|exact Drawn0.refl _|apply Drawn0.step)⟩
       ·rw [if_neg c7] at H;exact absurd H (by simp)
      ·rw [if_neg c6] at H;exact absurd H (by simp)
     ·rw [if_neg c5] at H;exact absurd H (by simp)
    ·rw [if_neg c4] at H;have c4b0:decide (x13_1 < (l0.length:Int))=false:=decide_eq_false c4;clear c4;obtain rfl:=Option.some.inj H;go_wp2
     repeat (go_quiet (fail);try go_wp2)
     go_ret
     exact ⟨by first|rfl|(simp;done)|(simp [*];done),by repeat (first|exact Drawn0.refl _|apply Drawn0.step)⟩
 ·rw [if_neg c3] at H;have c3b0:((l0.length:Int) == (l1.length:Int))=false:=beq_eq_false_iff_ne.mpr c3;have c3b1:((l0.length:Int) != (l1.length:Int))=true:=bne_iff_ne.mpr c3;have c3b2:(l0.length == l1.length)=false:=by first|simpa using c3|(simp at c3 ⊢;omega)
  obtain rfl:=Option.some.inj H;go_enter Try.func185,Try.ntmps185
  go_wp2
  repeat (go_quiet (fail);try go_wp2)
  go_ret
  exact ⟨by first|rfl|(simp;done)|(simp [*];done),by repeat (first|exact Drawn0.refl _|apply Drawn0.step)⟩

/-! ### impl_mapped: function 186 -/
def impl_mapped.l0 : Nat→List Int→List Int→List Int→Int→Int→Option (List Int)
 | 0,_,_,_,_,_=>none
 | k + 1,x0,x5,x8,x9,x10=>if x10 < x9 then (if 0≤x10 then (if x10 < (x8.length:Int) then (if 0≤(rd x8 x10) then (if (rd x8 x10) < (x0.length:Int) then (if x5.length < 17592186044416 then (impl_mapped.l0 k x0 (x5 ++ [rd x0 (rd x8 x10)]) x8 x9 (wrap64 (x10 + 1))) else (none)) else (none)) else (none)) else (none)) else (none)) else (some x5)
def impl_mapped.f (k:Nat) (l0:List Int) (l1:List Int):Option (List Int):=impl_mapped.l0 k l0 ([]:List Int) l1 (l1.length:Int) 0
theorem impl_mapped.mono_l : ∀ k,(∀ y0 y1 y2 y3 y4,LeO (impl_mapped.l0 k y0 y1 y2 y3 y4) (impl_mapped.l0 (k + 1) y0 y1 y2 y3 y4))
 | 0=>fun _ _ _ _ _ r h=>by simp [impl_mapped.l0] at h
 | k + 1=>by
  have ih0:=impl_mapped.mono_l k
  ·intro y0 y1 y2 y3 y4;unfold impl_mapped.l0
   repeat' first
   | (with_reducible exact ih0 _ _ _ _ _)
   | (with_reducible exact LeO.refl _)
   | (with_reducible exact LeO.none _)
   | (with_reducible refine LeO.ite ?_ ?_)
   | (with_reducible refine LeO.bind ?_ (fun _=>?_))
   | exact ih0 _ _ _ _ _
   | exact LeO.none _
   | refine LeO.ite ?_ ?_
   | refine LeO.bind ?_ (fun _=>?_)
theorem impl_mapped.mono : ∀ a0 a1 k,LeO (impl_mapped.f k a0 a1) (impl_mapped.f (k + 1) a0 a1):=by
 intro a0 a1 k;have ih0:=impl_mapped.mono_l k;unfold impl_mapped.f
 repeat' first
   | (with_reducible exact ih0 _ _ _ _ _)
   | (with_reducible exact LeO.refl _)
   | (with_reducible exact LeO.none _)
   | (with_reducible refine LeO.ite ?_ ?_)
   | (with_reducible refine LeO.bind ?_ (fun _=>?_))
   | exact ih0 _ _ _ _ _
   | exact LeO.none _
   | refine LeO.ite ?_ ?_
   | refine LeO.bind ?_ (fun _=>?_)
set_option maxHeartbeats 8000000 in
set_option maxRecDepth 100000 in
theorem impl_mapped.calls (k:Nat) (A0:Option Addr) (c0:Nat) (l0:List Int) (A1:Option Addr) (c1:Nat) (l1:List Int) (r:List Int) (w:World) (hr0:Kd.C (Kd.int .i64) w A0 l0.length l0) (hc0:l0.length≤c0) (hr1:Kd.C (Kd.int .i64) w A1 l1.length l1) (hc1:l1.length≤c1) (h:impl_mapped.f k l0 l1=some r) :
  Calls Try.prog 186 #[.slice A0 l0.length c0,.slice A1 l1.length c1] w fun e w'=>∃ v0_:Value,e=.returned (v0_)∧Kd.R (Kd.int .i64) 3 w' w.heap.size (fun _=>True) v0_ r∧Below w.heap.size w w':=by
 have HR0:=qK hr0;have HC0:=qK hc0;clear hr0 hc0;have HR1:=qK hr1;have HC1:=qK hc1;clear hr1 hc1;have HB:=qK (Below.refl w.heap.size w);have H:(impl_mapped.l0 k l0 ([]:List Int) l1 (l1.length:Int) 0)=some r:=h;clear h;have H':=qK H;clear H;go_enter Try.func186,Try.ntmps186
 go_wp2
 go_loopg [5,10] k (fun kq v5 v10 w'=>∃ (x5_1:List Int) (x10_1:Int),v10=.int .i64 x10_1∧Aside0 (impl_mapped.l0 kq l0 x5_1 l1 (l1.length:Int) x10_1=some r)∧Aside0 (kq≤k)∧Aside0 (Kd.R (Kd.int .i64) 3 w' w.heap.size (fun _=>True) v5 x5_1)∧Aside0 (Below w.heap.size w w'))
 case atStart=>exact ⟨(([]:List Int)),(0),(by first|rfl|(simp;done)|(simp [*];done)),H',⟨Nat.le_refl _⟩,⟨by first|exact Kd.R_nil _ _ _ _ _|exact Kd.N_nil _ _ _ _ _|exact Kd.V_nil _ _ _ _ _|exact Kd.Q_nil _ _ _ _ _|exact Kd.S_nil _ _ _ _ _⟩,⟨by repeat (first|(with_reducible first|exact HB.out|apply qA|apply qD|apply qO)|exact HB.out)⟩⟩
 case round =>
  clear H';try clear c1
  try clear p2
  obtain ⟨x5_1,x10_1,rfl,HA,HK1,HO_5,HB⟩:=hrel;cases gk with
  | zero=>exact absurd HA.out (by simp [impl_mapped.l0])
  | succ k1 =>
   have H:=HA.out;clear HA;simp only [impl_mapped.l0] at H;by_cases c3:x10_1 < (l1.length:Int)
   ·rw [if_pos c3] at H;have c3b0:decide (x10_1 < (l1.length:Int))=true:=decide_eq_true c3;clear c3;by_cases c4:0≤x10_1
    ·rw [if_pos c4] at H;have c4b0:decide (0≤x10_1)=true:=decide_eq_true c4;clear c4;by_cases c5:x10_1 < (l1.length:Int)
     ·rw [if_pos c5] at H;have c5b0:decide (x10_1 < (l1.length:Int))=true:=decide_eq_true c5;clear c5;by_cases c6:0≤(rd l1 x10_1)
      ·rw [if_pos c6] at H;have c6b0:decide (0≤(rd l1 x10_1))=true:=decide_eq_true c6;clear c6;by_cases c7:(rd l1 x10_1) < (l0.length:Int)
       ·rw [if_pos c7] at H;have c7b0:decide ((rd l1 x10_1) < (l0.length:Int))=true:=decide_eq_true c7;clear c7;by_cases c8:x5_1.length < 17592186044416
        ·rw [if_pos c8] at H;have LMc8:=qK c8;clear c8;obtain ⟨y345,hy345⟩:∃ y_:List Int,y_=(x5_1 ++ [rd l0 (rd l1 x10_1)]):=⟨_,rfl⟩;replace H:(impl_mapped.l0 k1 l0 y345 l1 (l1.length:Int) (wrap64 (x10_1 + 1)))=some r:=by first|(rw [hy345];with_reducible exact H)|(have H2_:=(Option.bind_some _ _).symm.trans H;rw [hy345];with_reducible exact H2_)|(have H2_:=(Option.bind_some _ _).symm.trans H;with_reducible exact H2_)|with_reducible exact H|(rw [hy345];exact H)|exact H
         have Ny345:=qK hy345;clear hy345;have H':=qK H;clear H;have p343:0≤(x10_1:Int):=of_decide_eq_true (by first|(with_reducible assumption)|assumption);have q343:x10_1 < (l1.length:Int):=of_decide_eq_true (by first|(with_reducible assumption)|assumption);obtain ⟨ad343,e343,hx343_0⟩:=Kd.at_int HR1.out x10_1 p343 q343;cases e343
         replace hx343_0:=(HB.out.cell (World.block_lt_of_cell? w _ hx343_0)).trans hx343_0;replace p343:=eq_true p343;replace q343:=eq_true q343;have p344:0≤((rd l1 x10_1):Int):=of_decide_eq_true (by first|(with_reducible assumption)|assumption);have q344:(rd l1 x10_1) < (l0.length:Int):=of_decide_eq_true (by first|(with_reducible assumption)|assumption);obtain ⟨ad344,e344,hx344_0⟩:=Kd.at_int HR0.out (rd l1 x10_1) p344 q344;cases e344
         replace hx344_0:=(HB.out.cell (World.block_lt_of_cell? w _ hx344_0)).trans hx344_0;replace p344:=eq_true p344;replace q344:=eq_true q344;go_wp2_with (first|((with_reducible refine gate_builtin (b:=.append) (xs:=#[.tmp 14,.tmp 19]) rfl ?_);at_builtin;refine Kd.R_append (Kd.int .i64) (w0:=w) w.heap.size rfl (.tmp 14) (.tmp 19) 22 3 (.int .i64 0) 8 rfl Try.underlying22 info3 rfl (by decide) (by omega) u5 x5_1 (rd l0 (rd l1 x10_1)) [.int .i64 (rd l0 (rd l1 x10_1))] (fun _=>True) (fun _=>False) rfl rfl ?aP (fun _ hk=>hk.elim) ?aF ?aO ?aB ?aS ?aL ?_;(case aP=>exact rfl);(case aB=>exact (by repeat (with_reducible first|exact HB.out|apply qA|apply qD|apply qO)));(case aF=>exact (fun _ _=>trivial));(case aO=>exact (by (with_reducible repeat (first|apply rL|apply rN|apply rW));exact HO_5.out));(case aS=>exact (qZ (by repeat (with_reducible first|exact HB.out|apply qA|apply qD|apply qO))));(case aL=>have:=LMc8.out;omega);intro v346 w9 ho hb hg hat;rw [← Ny345.out] at ho;have n0_:=qK (hb);have n1_:=qK (ho);clear HB;clear HO_5;have HB:=n0_;have HO347:=n1_;clear n0_ n1_;clear ho hb hg hat))
         go_roundg k1
         case measure=>have:=HK1.out;omega
         case rel=>exact ⟨(y345),(wrap64 (x10_1 + 1)),(by first|rfl|(simp;done)|(simp [*];done)),H',⟨by have:=HK1.out;omega⟩,⟨by (with_reducible repeat (first|apply rL|apply rN|apply rW));exact HO347.out⟩,⟨by repeat (first|(with_reducible first|exact HB.out|apply qA|apply qD|apply qO)|exact HB.out)⟩⟩
        ·rw [if_neg c8] at H;exact absurd H (by simp)
       ·rw [if_neg c7] at H;exact absurd H (by simp)
      ·rw [if_neg c6] at H;exact absurd H (by simp)
     ·rw [if_neg c5] at H;exact absurd H (by simp)
    ·rw [if_neg c4] at H;exact absurd H (by simp)
   ·rw [if_neg c3] at H;have c3b0:decide (x10_1 < (l1.length:Int))=false:=decide_eq_false c3;clear c3;obtain rfl:=Option.some.inj H;go_wp2
    go_ret
    exact ⟨_,by first|rfl|(simp [errW_none,errW_some] <;> rfl)|(simp [*,errW_none,errW_some] <;> rfl),by (with_reducible repeat (first|apply rL|apply rN|apply rW));exact HO_5.out,by repeat (first|(with_reducible first|exact HB.out|apply qA|apply qD|apply qO)|exact HB.out)⟩

/-! ### impl_isMap_1_1: function 188 -/
def impl_isMap_1_1.f (k:Nat) (a0_0:Int) (l0_1:List Int) (a90_0:Int) (l90_1:List Int) (l91:List Int):Option (Bool):=if a0_0=a90_0 then ((impl_mapped.f k l91 l90_1).bind fun t351=>((slices_Equal_int_int.f k t351 l0_1).bind fun t354=>(some t354))) else (some false)
theorem impl_isMap_1_1.mono : ∀ a0 a1 a2 a3 a4 k,LeO (impl_isMap_1_1.f k a0 a1 a2 a3 a4) (impl_isMap_1_1.f (k + 1) a0 a1 a2 a3 a4):=by
 intro a0 a1 a2 a3 a4 k;unfold impl_isMap_1_1.f
 repeat' first
   | (with_reducible exact impl_mapped.mono _ _ _)
   | (with_reducible exact slices_Equal_int_int.mono _ _ _)
   | (with_reducible exact LeO.refl _)
   | (with_reducible exact LeO.none _)
   | (with_reducible refine LeO.ite ?_ ?_)
   | (with_reducible refine LeO.bind ?_ (fun _=>?_))
   | exact impl_mapped.mono _ _ _
   | exact slices_Equal_int_int.mono _ _ _
   | exact LeO.none _
   | refine LeO.ite ?_ ?_
   | refine LeO.bind ?_ (fun _=>?_)
def impl_isMap_1_1.T1 : Bool × List (List Nat × List Nat):=(true,[([],[]),([0],[0]),([],[]),([2],[2]),([1,3],[1,3]),([4],[4]),([5],[5]),([5],[5]),([7,5],[5,7]),([6,8,5,5],[5,6,8]),([5],[5]),([10,5],[5,10]),([9,11,9,5],[5,9,11]),([5,12],[5,12]),([13,12,0,1,2,3,4,5,6,7,8,9,10,11,12,13],[13])])
def impl_isMap_1_1.B1 : List Nat:=[0,1,0,4,15,31,63,63,191,511,63,1087,4095,8191,16383]
theorem impl_isMap_1_1.tab1 : rtab .any (opsOf Try.f188 1)=impl_isMap_1_1.T1:=by kernel_rfl
theorem impl_isMap_1_1.bits1 : waitsOk impl_isMap_1_1.T1.2 impl_isMap_1_1.B1=true:=by kernel_rfl
set_option maxHeartbeats 8000000 in
set_option maxRecDepth 100000 in
theorem impl_isMap_1_1.calls (k:Nat) (a0_0:Int) (A0_1:Option Addr) (c0_1:Nat) (l0_1:List Int) (B0:Nat) (a90_0:Int) (A90_1:Option Addr) (c90_1:Nat) (l90_1:List Int) (B1:Nat) (A91:Option Addr) (c91:Nat) (l91:List Int) (r:Bool) (w:World) (hr0_1:Kd.C (Kd.int .i64) w A0_1 l0_1.length l0_1) (hc0_1:l0_1.length≤c0_1) (hr90_1:Kd.C (Kd.int .i64) w A90_1 l90_1.length l90_1) (hc90_1:l90_1.length≤c90_1) (hr91:Kd.C (Kd.int .i64) w A91 l91.length l91) (hc91:l91.length≤c91) (hq0:w.heap[B0]?=some (.cells #[.int .i64 a90_0,.slice A90_1 l90_1.length c90_1] 97 (0,0))) (hq1:w.heap[B1]?=some (.cells #[.slice A91 l91.length c91] 22 (0,0))) (h:impl_isMap_1_1.f k a0_0 l0_1 a90_0 l90_1 l91=some r) :
  Calls Try.prog 188 #[.agg #[.int .i64 a0_0,.slice A0_1 l0_1.length c0_1],.pointer (some ⟨B0,0,none⟩),.pointer (some ⟨B1,0,none⟩)] w fun e w'=>e=.returned (.bool r)∧Below w.heap.size w w':=by
 have hu97:=Try.underlying97;have HR0_1:=qK hr0_1;have HC0_1:=qK hc0_1;clear hr0_1 hc0_1;have HR90_1:=qK hr90_1;have HC90_1:=qK hc90_1;clear hr90_1 hc90_1;have BK348:=qK hq0;clear hq0;have HR91:=qK hr91;have HC91:=qK hc91;clear hr91 hc91;have BK349:=qK hq1;clear hq1;have HB:=qK (Below.refl w.heap.size w);have H:(if a0_0=a90_0 then ((impl_mapped.f k l91 l90_1).bind fun t351=>((slices_Equal_int_int.f k t351 l0_1).bind fun t354=>(some t354))) else (some false))=some r:=h;clear h;by_cases c2:a0_0=a90_0
 ·rw [if_pos c2] at H;have c2b0:(a0_0 == a90_0)=true:=beq_iff_eq.mpr c2;have c2b1:(a0_0 != a90_0)=false:=bne_eq_false_iff_eq.mpr c2;clear c2;replace H:=Option.bind_eq_some_iff.mp H;obtain ⟨t351,A30,H⟩:=H;replace H:((slices_Equal_int_int.f k t351 l0_1).bind fun t354=>(some t354))=some r:=H;have A3:=qK A30;clear A30;replace H:=Option.bind_eq_some_iff.mp H;obtain ⟨t354,A40,H⟩:=H;replace H:(some t354)=some r:=H;have A4:=qK A40;clear A40;obtain rfl:=Option.some.inj H;go_enter Try.func188,Try.ntmps188
  try go_wp2_with (first|((with_reducible refine gate_dst (N:=3) rfl ?_);refine box_event ?hg (N:=3) ?hd (cs:=#[.int .i64 a0_0,.slice A0_1 l0_1.length c0_1]) (t:=97) ?hr ?_;(case hd=>rfl);(case hg=>rfl);(case hr=>(go_simp;try rfl));intro gb350 hg w5 hbox hb;have n0_:=qK (qB (g:=B0) (o:=_) (by (with_reducible repeat (first|refine qN ?_ _|refine qW ?_|refine qL ?_ _));exact BK348.out) hb);have n1_:=qK (qB (g:=B1) (o:=_) (by (with_reducible repeat (first|refine qN ?_ _|refine qW ?_|refine qL ?_ _));exact BK349.out) hb);have n2_:=qK (qT (by repeat (with_reducible first|exact HB.out|apply qA|apply qD|apply qO|refine qS ?_ GE348.out|refine qS ?_ GE349.out)) hb);have n3_:=qK (hbox);have n4_:=qK ((by rw [hg];exact (qZ (by repeat (with_reducible first|exact HB.out|apply qA|apply qD|apply qO|refine qS ?_ GE348.out|refine qS ?_ GE349.out))):w.heap.size≤gb350));have n5_:=qK ((by rw [hg];exact (qZ (by repeat (with_reducible first|exact HB.out|apply qA|apply qD|apply qO|refine qS ?_ GE348.out|refine qS ?_ GE349.out))):w.heap.size≤gb350));have n6_:=qK ((by rw [hg];exact Nat.ne_of_lt (blk_lt (g:=B0) (o:=_) (by (with_reducible repeat (first|refine qN ?_ _|refine qW ?_|refine qL ?_ _));exact BK348.out)):B0 ≠ gb350));have n7_:=qK ((by rw [hg];exact Nat.ne_of_gt (blk_lt (g:=B0) (o:=_) (by (with_reducible repeat (first|refine qN ?_ _|refine qW ?_|refine qL ?_ _));exact BK348.out)):gb350 ≠ B0));have n8_:=qK ((by rw [hg];exact Nat.ne_of_lt (blk_lt (g:=B1) (o:=_) (by (with_reducible repeat (first|refine qN ?_ _|refine qW ?_|refine qL ?_ _));exact BK349.out)):B1 ≠ gb350));have n9_:=qK ((by rw [hg];exact Nat.ne_of_gt (blk_lt (g:=B1) (o:=_) (by (with_reducible repeat (first|refine qN ?_ _|refine qW ?_|refine qL ?_ _));exact BK349.out)):gb350 ≠ B1));clear BK348;clear BK349;clear HB;have BK348:=n0_;have BK349:=n1_;have HB:=n2_;have BK350:=n3_;have GW350:=n4_;have GE350:=n5_;have NB348_350:=n6_;have NB350_348:=n7_;have NB349_350:=n8_;have NB350_349:=n9_;clear n0_ n1_ n2_ n3_ n4_ n5_ n6_ n7_ n8_ n9_;clear hb hbox hg))
  have n0_:=qK (qW BK348.out);have n1_:=qK (qW BK349.out);have n2_:=qK (qW BK350.out);have n3_:=qK (qO HB.out);clear BK348;clear BK349;clear BK350;clear HB;have BK348:=n0_;have BK349:=n1_;have BK350:=n2_;have HB:=n3_;clear n0_ n1_ n2_ n3_;refine start_ (n:=15) (S:=fun w'=>w'.cell? ⟨gb350,0,none⟩=some (.int .i64 a0_0)∧w'.cell? ⟨gb350,1,none⟩=some (.slice A0_1 l0_1.length c0_1)∧w'.cell? ⟨B0,0,none⟩=some (.int .i64 a90_0)∧w'.cell? ⟨B0,1,none⟩=some (.slice A90_1 l90_1.length c90_1)∧w'.cell? ⟨B1,0,none⟩=some (.slice A91 l91.length c91)) (ds:=[]) #[Z,Z,Z,Z,Z,Z,Z,Z,Z,Z,Z,Z,Z,Z,Z] (by kernel_rfl) rfl rfl ⟨(qC BK350.out 0).trans rfl,(qC BK350.out 1).trans rfl,(qC BK348.out 0).trans rfl,(qC BK348.out 1).trans rfl,(qC BK349.out 0).trans rfl⟩ (fun hHeld=>?_);refine with_tabW impl_isMap_1_1.tab1 impl_isMap_1_1.bits1 (fun HT_ HW_=>?_);generalize w5.drew=w6 at BK348 BK349 BK350 HB hHeld ⊢
  refine pure_ (i:=0) (N:=some 5) (v:=?_) (a':=?_) #[Y,Z,Z,Z,Z,Z,Z,Z,Z,Z,Z,Z,Z,Z,Z] rfl rfl (any_of HT_.out (by kernel_rfl)) (fun _ _ _ h=>h) (Or.inl ⟨by rfl,?_⟩) ?_ ?_;rotate_left
  ·intro w';go_simp;with_reducible rfl
  rotate_left
  ·simp only [Act.put,sIb,sZ,sS,i64_w,i32_w];rfl
  refine pure_ (i:=2) (N:=some 7) (v:=?_) (a':=?_) #[Y,Z,Y,Z,Z,Z,Z,Z,Z,Z,Z,Z,Z,Z,Z] rfl rfl (any_of HT_.out (by kernel_rfl)) (fun _ _ _ h=>h) (Or.inl ⟨by rfl,?_⟩) ?_ ?_;rotate_left
  ·intro w';go_simp;with_reducible rfl
  rotate_left
  ·simp only [Act.put,sIb,sZ,sS,i64_w,i32_w];rfl
  refine take_ (i:=1) (N:=some 6) (v:=?_) (a':=?_) #[Y,Y,Y,Z,Z,Z,Z,Z,Z,Z,Z,Z,Z,Z,Z] rfl rfl (take_ofW HT_.out HW_.out (by kernel_rfl)) (fun _ _ _ h=>h) (Or.inl ⟨by rfl,?_⟩) hHeld ?_ ?_;rotate_left
  ·rintro w' ⟨s0,s1,s2,s3,s4⟩;go_simp;with_reducible rfl
  rotate_left
  ·simp only [Act.put,sIb,sZ,sS,i64_w,i32_w];rfl
  refine take_ (i:=3) (N:=some 8) (v:=?_) (a':=?_) #[Y,Y,Y,Y,Z,Z,Z,Z,Z,Z,Z,Z,Z,Z,Z] rfl rfl (take_ofW HT_.out HW_.out (by kernel_rfl)) (fun _ _ _ h=>h) (Or.inl ⟨by rfl,?_⟩) hHeld ?_ ?_;rotate_left
  ·rintro w' ⟨s0,s1,s2,s3,s4⟩;go_simp;with_reducible rfl
  rotate_left
  ·simp only [Act.put,sIb,sZ,sS,i64_w,i32_w];rfl
  refine pure_ (i:=4) (N:=some 9) (v:=?_) (a':=?_) #[Y,Y,Y,Y,Y,Z,Z,Z,Z,Z,Z,Z,Z,Z,Z] rfl rfl (any_of HT_.out (by kernel_rfl)) (fun _ _ _ h=>h) (Or.inl ⟨by rfl,?_⟩) ?_ ?_;rotate_left
  ·intro w';go_simp;with_reducible rfl
  rotate_left
  ·simp only [Act.put,sIb,sZ,sS,i64_w,i32_w];rfl
  refine pure_ (i:=5) (N:=some 10) (v:=?_) (a':=?_) #[Y,Y,Y,Y,Y,Y,Z,Z,Z,Z,Z,Z,Z,Z,Z] rfl rfl (any_of HT_.out (by kernel_rfl)) (fun _ _ _ h=>h) (Or.inl ⟨by rfl,?_⟩) ?_ ?_;rotate_left
  ·intro w';go_simp;with_reducible rfl
  rotate_left
  ·simp only [Act.put,sIb,sZ,sS,i64_w,i32_w];rfl
  refine pure_ (i:=7) (N:=some 12) (v:=?_) (a':=?_) #[Y,Y,Y,Y,Y,Y,Z,Y,Z,Z,Z,Z,Z,Z,Z] rfl rfl (any_of HT_.out (by kernel_rfl)) (fun _ _ _ h=>h) (Or.inl ⟨by rfl,?_⟩) ?_ ?_;rotate_left
  ·intro w';go_simp;with_reducible rfl
  rotate_left
  ·simp only [Act.put,sIb,sZ,sS,i64_w,i32_w];rfl
  refine pure_ (i:=10) (N:=some 15) (v:=?_) (a':=?_) #[Y,Y,Y,Y,Y,Y,Z,Y,Z,Z,Y,Z,Z,Z,Z] rfl rfl (any_of HT_.out (by kernel_rfl)) (fun _ _ _ h=>h) (Or.inl ⟨by rfl,?_⟩) ?_ ?_;rotate_left
  ·intro w';go_simp;with_reducible rfl
  rotate_left
  ·simp only [Act.put,sIb,sZ,sS,i64_w,i32_w];rfl
  refine take_ (i:=6) (N:=some 11) (v:=?_) (a':=?_) #[Y,Y,Y,Y,Y,Y,Y,Y,Z,Z,Y,Z,Z,Z,Z] rfl rfl (take_ofW HT_.out HW_.out (by kernel_rfl)) (fun _ _ _ h=>h) (Or.inl ⟨by rfl,?_⟩) hHeld ?_ ?_;rotate_left
  ·rintro w' ⟨s0,s1,s2,s3,s4⟩;go_simp;with_reducible rfl
  rotate_left
  ·simp only [Act.put,sIb,sZ,sS,i64_w,i32_w];rfl
  refine take_ (i:=8) (N:=some 13) (v:=?_) (a':=?_) #[Y,Y,Y,Y,Y,Y,Y,Y,Y,Z,Y,Z,Z,Z,Z] rfl rfl (take_ofW HT_.out HW_.out (by kernel_rfl)) (fun _ _ _ h=>h) (Or.inl ⟨by rfl,?_⟩) hHeld ?_ ?_;rotate_left
  ·rintro w' ⟨s0,s1,s2,s3,s4⟩;go_simp;with_reducible rfl
  rotate_left
  ·simp only [Act.put,sIb,sZ,sS,i64_w,i32_w];rfl
  refine take_ (i:=11) (N:=some 16) (v:=?_) (a':=?_) #[Y,Y,Y,Y,Y,Y,Y,Y,Y,Z,Y,Y,Z,Z,Z] rfl rfl (take_ofW HT_.out HW_.out (by kernel_rfl)) (fun _ _ _ h=>h) (Or.inl ⟨by rfl,?_⟩) hHeld ?_ ?_;rotate_left
  ·rintro w' ⟨s0,s1,s2,s3,s4⟩;go_simp;with_reducible rfl
  rotate_left
  ·simp only [Act.put,sIb,sZ,sS,i64_w,i32_w];rfl
  refine one_ (i:=9) (N:=some 14) #[Y,Y,Y,Y,Y,Y,Y,Y,Y,Y,Y,Y,Z,Z,Z] rfl rfl (one_of HT_.out (by kernel_rfl)) (by decide) (fun K hK=>?_);refine goes_ Try.func186 (by kernel_rfl) rfl #[.slice A91 l91.length c91,.slice A90_1 l90_1.length c90_1] (by rfl) rfl rfl (by (try simp only [mT,mC,mN]);first|done|rfl|(simp only [lD,lT];rfl)) ?_;with_reducible refine (impl_mapped.calls k _ _ l91 _ _ l90_1 t351 _ ?side1 ?side2 ?side3 ?side4 A3.out).mono ?_
  (case side1=>repeat (first|exact (cB HR91.out HB.out)|(with_reducible first|refine cL ?_ _|refine cN ?_ _|refine cW ?_)));(case side2=>exact HC91.out);(case side3=>repeat (first|exact (cB HR90_1.out HB.out)|(with_reducible first|refine cL ?_ _|refine cN ?_ _|refine cW ?_)));(case side4=>exact HC90_1.out);rintro e w7 ⟨v352,rfl,ho0,hb⟩;refine ⟨_,rfl,?_⟩;have n0_:=qK (Kd.R_lower ho0 (qZ (by repeat (with_reducible first|exact HB.out|apply qA|apply qD|apply qO|refine qS ?_ GE348.out|refine qS ?_ GE349.out|refine qS ?_ GE350.out))));have n1_:=qK (qB (g:=B0) (o:=_) (by (with_reducible repeat (first|refine qN ?_ _|refine qW ?_|refine qL ?_ _));exact BK348.out) hb);have n2_:=qK (qB (g:=B1) (o:=_) (by (with_reducible repeat (first|refine qN ?_ _|refine qW ?_|refine qL ?_ _));exact BK349.out) hb);have n3_:=qK (qB (g:=gb350) (o:=_) (by (with_reducible repeat (first|refine qN ?_ _|refine qW ?_|refine qL ?_ _));exact BK350.out) hb);have n4_:=qK (qT (by repeat (with_reducible first|exact HB.out|apply qA|apply qD|apply qO|refine qS ?_ GE348.out|refine qS ?_ GE349.out|refine qS ?_ GE350.out)) hb);clear BK348;clear BK349;clear BK350;clear HB;have HO353:=n0_;have BK348:=n1_;have BK349:=n2_;have BK350:=n3_;have HB:=n4_;clear n0_ n1_ n2_ n3_ n4_;(try clear hb);(try clear ho0);obtain ⟨Ao8,co8,eo8⟩:=Kd.R_slice HO353.out;(first|subst eo8|(injection eo8 with f1_ f2_ f3_;have f4_:=f1_.symm;have f5_:=f3_.symm;clear f1_ f2_ f3_;subst f4_;subst f5_));refine hK.out _ _ ⟨(qC BK350.out 0).trans rfl,(qC BK350.out 1).trans rfl,(qC BK348.out 0).trans rfl,(qC BK348.out 1).trans rfl,(qC BK349.out 0).trans rfl⟩ (fun hHeld=>?_);clear hK K;refine norm_ (a':=?_) ?_ ?_;rotate_left
  ·show Act.put _ (some 14) _=_
   simp only [Act.put,sIb,sZ,sS,i64_w,i32_w];rfl
  refine one_ (i:=12) (N:=some 17) #[Y,Y,Y,Y,Y,Y,Y,Y,Y,Y,Y,Y,Y,Z,Z] rfl rfl (one_of HT_.out (by kernel_rfl)) (by decide) (fun K hK=>?_);refine goes_ Try.func185 (by kernel_rfl) rfl #[.slice Ao8 t351.length co8,.slice A0_1 l0_1.length c0_1] (by rfl) rfl rfl (by (try simp only [mT,mC,mN]);first|done|rfl|(simp only [lD,lT];rfl)) ?_;with_reducible refine (slices_Equal_int_int.calls k _ _ t351 _ _ l0_1 t354 _ ?side1 ?side2 ?side3 ?side4 A4.out).mono ?_
  (case side1=>repeat (first|exact (Kd.R_reads' HO353.out).2.2|(with_reducible first|refine cL ?_ _|refine cN ?_ _|refine cW ?_)));(case side2=>exact (Kd.R_reads' HO353.out).2.1);(case side3=>repeat (first|exact (cB HR0_1.out HB.out)|(with_reducible first|refine cL ?_ _|refine cN ?_ _|refine cW ?_)));(case side4=>exact HC0_1.out);rintro e w' ⟨rfl,⟨nd,rfl⟩⟩;refine ⟨_,rfl,?_⟩;refine hK.out _ _ ⟨(qC BK350.out 0).trans rfl,(qC BK350.out 1).trans rfl,(qC BK348.out 0).trans rfl,(qC BK348.out 1).trans rfl,(qC BK349.out 0).trans rfl⟩ (fun hHeld=>?_);clear hK K;refine norm_ (a':=?_) ?_ ?_;rotate_left
  ·show Act.put _ (some 17) _=_
   simp only [Act.put,sIb,sZ,sS,i64_w,i32_w];rfl
  refine pure_ (i:=13) (N:=some 18) (v:=?_) (a':=?_) #[Y,Y,Y,Y,Y,Y,Y,Y,Y,Y,Y,Y,Y,Y,Z] rfl rfl (any_of HT_.out (by kernel_rfl)) (fun _ _ _ h=>h) (Or.inl ⟨by rfl,?_⟩) ?_ ?_;rotate_left
  ·intro w';go_simp;with_reducible rfl
  rotate_left
  ·simp only [Act.put,sIb,sZ,sS,i64_w,i32_w];rfl
  refine pure_ (i:=14) (N:=some 4) (v:=?_) (a':=?_) #[Y,Y,Y,Y,Y,Y,Y,Y,Y,Y,Y,Y,Y,Y,Y] rfl rfl (any_of HT_.out (by kernel_rfl)) (fun _ _ _ h=>h) (Or.inl ⟨by rfl,?_⟩) ?_ ?_;rotate_left
  ·intro w';go_simp;with_reducible rfl
  rotate_left
  ·simp only [Act.put,sIb,sZ,sS,i64_w,i32_w];rfl
  refine done_ (done_of HT_.out (by kernel_rfl)) ?_;try go_wp2
  go_ret
  exact ⟨by first|rfl|(simp [errW_none,errW_some] <;> rfl)|(simp [*,errW_none,errW_some] <;> rfl),by repeat (first|(with_reducible first|exact HB.out|apply qA|apply qD|apply qO|refine qS ?_ GE348.out|refine qS ?_ GE349.out|refine qS ?_ GE350.out)|exact HB.out)⟩
 ·rw [if_neg c2] at H;have c2b0:(a0_0 == a90_0)=false:=beq_eq_false_iff_ne.mpr c2;have c2b1:(a0_0 != a90_0)=true:=bne_iff_ne.mpr c2;obtain rfl:=Option.some.inj H;go_enter Try.func188,Try.ntmps188
  try go_wp2_with (first|((with_reducible refine gate_dst (N:=3) rfl ?_);refine box_event ?hg (N:=3) ?hd (cs:=#[.int .i64 a0_0,.slice A0_1 l0_1.length c0_1]) (t:=97) ?hr ?_;(case hd=>rfl);(case hg=>rfl);(case hr=>(go_simp;try rfl));intro gb350 hg w9 hbox hb;have n0_:=qK (qB (g:=B0) (o:=_) (by (with_reducible repeat (first|refine qN ?_ _|refine qW ?_|refine qL ?_ _));exact BK348.out) hb);have n1_:=qK (qB (g:=B1) (o:=_) (by (with_reducible repeat (first|refine qN ?_ _|refine qW ?_|refine qL ?_ _));exact BK349.out) hb);have n2_:=qK (qT (by repeat (with_reducible first|exact HB.out|apply qA|apply qD|apply qO|refine qS ?_ GE348.out|refine qS ?_ GE349.out)) hb);have n3_:=qK (hbox);have n4_:=qK ((by rw [hg];exact (qZ (by repeat (with_reducible first|exact HB.out|apply qA|apply qD|apply qO|refine qS ?_ GE348.out|refine qS ?_ GE349.out))):w.heap.size≤gb350));have n5_:=qK ((by rw [hg];exact (qZ (by repeat (with_reducible first|exact HB.out|apply qA|apply qD|apply qO|refine qS ?_ GE348.out|refine qS ?_ GE349.out))):w.heap.size≤gb350));have n6_:=qK ((by rw [hg];exact Nat.ne_of_lt (blk_lt (g:=B0) (o:=_) (by (with_reducible repeat (first|refine qN ?_ _|refine qW ?_|refine qL ?_ _));exact BK348.out)):B0 ≠ gb350));have n7_:=qK ((by rw [hg];exact Nat.ne_of_gt (blk_lt (g:=B0) (o:=_) (by (with_reducible repeat (first|refine qN ?_ _|refine qW ?_|refine qL ?_ _));exact BK348.out)):gb350 ≠ B0));have n8_:=qK ((by rw [hg];exact Nat.ne_of_lt (blk_lt (g:=B1) (o:=_) (by (with_reducible repeat (first|refine qN ?_ _|refine qW ?_|refine qL ?_ _));exact BK349.out)):B1 ≠ gb350));have n9_:=qK ((by rw [hg];exact Nat.ne_of_gt (blk_lt (g:=B1) (o:=_) (by (with_reducible repeat (first|refine qN ?_ _|refine qW ?_|refine qL ?_ _));exact BK349.out)):gb350 ≠ B1));clear BK348;clear BK349;clear HB;have BK348:=n0_;have BK349:=n1_;have HB:=n2_;have BK350:=n3_;have GW350:=n4_;have GE350:=n5_;have NB348_350:=n6_;have NB350_348:=n7_;have NB349_350:=n8_;have NB350_349:=n9_;clear n0_ n1_ n2_ n3_ n4_ n5_ n6_ n7_ n8_ n9_;clear hb hbox hg))
  have n0_:=qK (qW BK348.out);have n1_:=qK (qW BK349.out);have n2_:=qK (qW BK350.out);have n3_:=qK (qO HB.out);clear BK348;clear BK349;clear BK350;clear HB;have BK348:=n0_;have BK349:=n1_;have BK350:=n2_;have HB:=n3_;clear n0_ n1_ n2_ n3_;refine start_ (n:=15) (S:=fun w'=>w'.cell? ⟨gb350,0,none⟩=some (.int .i64 a0_0)∧w'.cell? ⟨gb350,1,none⟩=some (.slice A0_1 l0_1.length c0_1)∧w'.cell? ⟨B0,0,none⟩=some (.int .i64 a90_0)∧w'.cell? ⟨B0,1,none⟩=some (.slice A90_1 l90_1.length c90_1)) (ds:=[]) #[Z,Z,Z,Z,Z,Z,Z,Z,Z,Z,Z,Z,Z,Z,Z] (by kernel_rfl) rfl rfl ⟨(qC BK350.out 0).trans rfl,(qC BK350.out 1).trans rfl,(qC BK348.out 0).trans rfl,(qC BK348.out 1).trans rfl⟩ (fun hHeld=>?_);refine with_tabW impl_isMap_1_1.tab1 impl_isMap_1_1.bits1 (fun HT_ HW_=>?_);generalize w9.drew=w10 at BK348 BK349 BK350 HB hHeld ⊢
  refine pure_ (i:=0) (N:=some 5) (v:=?_) (a':=?_) #[Y,Z,Z,Z,Z,Z,Z,Z,Z,Z,Z,Z,Z,Z,Z] rfl rfl (any_of HT_.out (by kernel_rfl)) (fun _ _ _ h=>h) (Or.inl ⟨by rfl,?_⟩) ?_ ?_;rotate_left
  ·intro w';go_simp;with_reducible rfl
  rotate_left
  ·simp only [Act.put,sIb,sZ,sS,i64_w,i32_w];rfl
  refine pure_ (i:=2) (N:=some 7) (v:=?_) (a':=?_) #[Y,Z,Y,Z,Z,Z,Z,Z,Z,Z,Z,Z,Z,Z,Z] rfl rfl (any_of HT_.out (by kernel_rfl)) (fun _ _ _ h=>h) (Or.inl ⟨by rfl,?_⟩) ?_ ?_;rotate_left
  ·intro w';go_simp;with_reducible rfl
  rotate_left
  ·simp only [Act.put,sIb,sZ,sS,i64_w,i32_w];rfl
  refine take_ (i:=1) (N:=some 6) (v:=?_) (a':=?_) #[Y,Y,Y,Z,Z,Z,Z,Z,Z,Z,Z,Z,Z,Z,Z] rfl rfl (take_ofW HT_.out HW_.out (by kernel_rfl)) (fun _ _ _ h=>h) (Or.inl ⟨by rfl,?_⟩) hHeld ?_ ?_;rotate_left
  ·rintro w' ⟨s0,s1,s2,s3⟩;go_simp;with_reducible rfl
  rotate_left
  ·simp only [Act.put,sIb,sZ,sS,i64_w,i32_w];rfl
  refine take_ (i:=3) (N:=some 8) (v:=?_) (a':=?_) #[Y,Y,Y,Y,Z,Z,Z,Z,Z,Z,Z,Z,Z,Z,Z] rfl rfl (take_ofW HT_.out HW_.out (by kernel_rfl)) (fun _ _ _ h=>h) (Or.inl ⟨by rfl,?_⟩) hHeld ?_ ?_;rotate_left
  ·rintro w' ⟨s0,s1,s2,s3⟩;go_simp;with_reducible rfl
  rotate_left
  ·simp only [Act.put,sIb,sZ,sS,i64_w,i32_w];rfl
  refine pure_ (i:=4) (N:=some 9) (v:=?_) (a':=?_) #[Y,Y,Y,Y,Y,Z,Z,Z,Z,Z,Z,Z,Z,Z,Z] rfl rfl (any_of HT_.out (by kernel_rfl)) (fun _ _ _ h=>h) (Or.inl ⟨by rfl,?_⟩) ?_ ?_;rotate_left
  ·intro w';go_simp;with_reducible rfl
  rotate_left
  ·simp only [Act.put,sIb,sZ,sS,i64_w,i32_w];rfl
  refine pure_ (i:=5) (N:=some 10) (v:=?_) (a':=?_) #[Y,Y,Y,Y,Y,Y,Z,Z,Z,Z,Z,Z,Z,Z,Z] rfl rfl (any_of HT_.out (by kernel_rfl)) (fun _ _ _ h=>h) (Or.inl ⟨by rfl,?_⟩) ?_ ?_;rotate_left
  ·intro w';go_simp;with_reducible rfl
  rotate_left
  ·simp only [Act.put,sIb,sZ,sS,i64_w,i32_w];rfl
  refine pure_ (i:=6) (N:=some 11) (v:=undef) (a':=?_) #[Y,Y,Y,Y,Y,Y,Y,Z,Z,Z,Z,Z,Z,Z,Z] rfl rfl (any_of HT_.out (by kernel_rfl)) (fun _ _ _ h=>h) (Or.inr ⟨by rfl,rfl⟩) ?_ ?_;rotate_left
  ·simp only [Act.put,sIb,sZ,sS,i64_w,i32_w];rfl
  refine pure_ (i:=7) (N:=some 12) (v:=undef) (a':=?_) #[Y,Y,Y,Y,Y,Y,Y,Y,Z,Z,Z,Z,Z,Z,Z] rfl rfl (any_of HT_.out (by kernel_rfl)) (fun _ _ _ h=>h) (Or.inr ⟨by rfl,rfl⟩) ?_ ?_;rotate_left
  ·simp only [Act.put,sIb,sZ,sS,i64_w,i32_w];rfl
  refine pure_ (i:=8) (N:=some 13) (v:=undef) (a':=?_) #[Y,Y,Y,Y,Y,Y,Y,Y,Y,Z,Z,Z,Z,Z,Z] rfl rfl (any_of HT_.out (by kernel_rfl)) (fun _ _ _ h=>h) (Or.inr ⟨by rfl,rfl⟩) ?_ ?_;rotate_left
  ·simp only [Act.put,sIb,sZ,sS,i64_w,i32_w];rfl
  refine pure_ (i:=9) (N:=some 14) (v:=undef) (a':=?_) #[Y,Y,Y,Y,Y,Y,Y,Y,Y,Y,Z,Z,Z,Z,Z] rfl rfl (any_of HT_.out (by kernel_rfl)) (fun _ _ _ h=>h) (Or.inr ⟨by rfl,rfl⟩) ?_ ?_;rotate_left
  ·simp only [Act.put,sIb,sZ,sS,i64_w,i32_w];rfl
  refine pure_ (i:=10) (N:=some 15) (v:=undef) (a':=?_) #[Y,Y,Y,Y,Y,Y,Y,Y,Y,Y,Y,Z,Z,Z,Z] rfl rfl (any_of HT_.out (by kernel_rfl)) (fun _ _ _ h=>h) (Or.inr ⟨by rfl,rfl⟩) ?_ ?_;rotate_left
  ·simp only [Act.put,sIb,sZ,sS,i64_w,i32_w];rfl
  refine pure_ (i:=11) (N:=some 16) (v:=undef) (a':=?_) #[Y,Y,Y,Y,Y,Y,Y,Y,Y,Y,Y,Y,Z,Z,Z] rfl rfl (any_of HT_.out (by kernel_rfl)) (fun _ _ _ h=>h) (Or.inr ⟨by rfl,rfl⟩) ?_ ?_;rotate_left
  ·simp only [Act.put,sIb,sZ,sS,i64_w,i32_w];rfl
  refine pure_ (i:=12) (N:=some 17) (v:=undef) (a':=?_) #[Y,Y,Y,Y,Y,Y,Y,Y,Y,Y,Y,Y,Y,Z,Z] rfl rfl (any_of HT_.out (by kernel_rfl)) (fun _ _ _ h=>h) (Or.inr ⟨by rfl,rfl⟩) ?_ ?_;rotate_left
  ·simp only [Act.put,sIb,sZ,sS,i64_w,i32_w];rfl
  refine pure_ (i:=13) (N:=some 18) (v:=?_) (a':=?_) #[Y,Y,Y,Y,Y,Y,Y,Y,Y,Y,Y,Y,Y,Y,Z] rfl rfl (any_of HT_.out (by kernel_rfl)) (fun _ _ _ h=>h) (Or.inl ⟨by rfl,?_⟩) ?_ ?_;rotate_left
  ·intro w';go_simp;with_reducible rfl
  rotate_left
  ·simp only [Act.put,sIb,sZ,sS,i64_w,i32_w];rfl
  refine pure_ (i:=14) (N:=some 4) (v:=?_) (a':=?_) #[Y,Y,Y,Y,Y,Y,Y,Y,Y,Y,Y,Y,Y,Y,Y] rfl rfl (any_of HT_.out (by kernel_rfl)) (fun _ _ _ h=>h) (Or.inl ⟨by rfl,?_⟩) ?_ ?_;rotate_left
  ·intro w';go_simp;with_reducible rfl
  rotate_left
  ·simp only [Act.put,sIb,sZ,sS,i64_w,i32_w];rfl
  refine done_ (done_of HT_.out (by kernel_rfl)) ?_;try go_wp2
  go_ret
  exact ⟨by first|rfl|(simp [errW_none,errW_some] <;> rfl)|(simp [*,errW_none,errW_some] <;> rfl),by repeat (first|(with_reducible first|exact HB.out|apply qA|apply qD|apply qO|refine qS ?_ GE348.out|refine qS ?_ GE349.out|refine qS ?_ GE350.out)|exact HB.out)⟩

/-! ### anyf_impl_isMap_1_1: function 163, handed function 188 -/
def anyf_impl_isMap_1_1.f (k : Nat) (l : List S97) (a90_0 : Int) (l90_1 : List Int) (l91 : List Int) : Option Bool := if l.all (fun d => (impl_isMap_1_1.f k d.f0 d.f1 a90_0 l90_1 l91).isSome) = true then some (l.any (fun d => (impl_isMap_1_1.f k d.f0 d.f1 a90_0 l90_1 l91).getD false)) else none
theorem anyf_impl_isMap_1_1.mono : ∀ a0_ a1_ a2_ a3_ k, LeO (anyf_impl_isMap_1_1.f k a0_ a1_ a2_ a3_) (anyf_impl_isMap_1_1.f (k + 1) a0_ a1_ a2_ a3_) := by
  intro l a90_0 l90_1 l91 k r h
  unfold anyf_impl_isMap_1_1.f at h ⊢
  by_cases hs : l.all (fun d => (impl_isMap_1_1.f k d.f0 d.f1 a90_0 l90_1 l91).isSome) = true
  case neg => rw [if_neg hs] at h; cases h
  rw [if_pos hs] at h
  have hx : ∀ d ∈ l, impl_isMap_1_1.f (k + 1) d.f0 d.f1 a90_0 l90_1 l91 = impl_isMap_1_1.f k d.f0 d.f1 a90_0 l90_1 l91 := by
    intro d hd
    obtain ⟨r, hr⟩ := Option.isSome_iff_exists.1 (List.all_eq_true.1 hs d hd)
    rw [hr]; exact impl_isMap_1_1.mono _ _ _ _ _ k r hr
  rw [if_pos (List.all_eq_true.2 fun d hd => by rw [hx d hd]; exact List.all_eq_true.1 hs d hd), ← h]
  congr 1
  exact any_same fun d hd => by rw [hx d hd]
theorem anyf_impl_isMap_1_1.calls (k : Nat) (A : Option Addr) (c : Nat) (l : List S97) (B0 : Nat) (a90_0 : Int) (A90_1 : Option Addr) (c90_1 : Nat) (l90_1 : List Int) (B1 : Nat) (A91 : Option Addr) (c91 : Nat) (l91 : List Int) (r : Bool) (w : World) (hr : Kd.C k97 w A l.length l) (hc : l.length ≤ c) (hr90_1 : Kd.C (Kd.int .i64) w A90_1 l90_1.length l90_1) (hc90_1 : l90_1.length ≤ c90_1) (hq0 : w.heap[B0]? = some (.cells #[.int .i64 a90_0, .slice A90_1 l90_1.length c90_1] 97 (0, 0))) (hr91 : Kd.C (Kd.int .i64) w A91 l91.length l91) (hc91 : l91.length ≤ c91) (hq1 : w.heap[B1]? = some (.cells #[.slice A91 l91.length c91] 22 (0, 0))) (h : anyf_impl_isMap_1_1.f k l a90_0 l90_1 l91 = some r) :
    Calls Try.prog 163 #[.slice A l.length c, .func (.func 188) #[] #[.pointer (some ⟨B0, 0, none⟩), .pointer (some ⟨B1, 0, none⟩)]] w fun e w' => e = .returned (.bool r) ∧ Below w.heap.size w w' := by
  unfold anyf_impl_isMap_1_1.f at h
  by_cases hs : l.all (fun d => (impl_isMap_1_1.f k d.f0 d.f1 a90_0 l90_1 l91).isSome) = true
  case neg => rw [if_neg hs] at h; cases h
  rw [if_pos hs] at h
  obtain rfl : l.any (fun d => (impl_isMap_1_1.f k d.f0 d.f1 a90_0 l90_1 l91).getD false) = r := Option.some.inj h
  refine anyf_Atom.calls A c l 188 _ _ w (enters_of Try.func188 (by kernel_rfl) rfl) hr ?_
  intro W d v hd hW hv
  obtain ⟨r_, hr_⟩ := Option.isSome_iff_exists.1 (List.all_eq_true.1 hs d hd)
  obtain ⟨cs, rfl, hK⟩ := hv
  obtain ⟨A1_, c1_, e_, l1_, g1_⟩ := k97_open hK
  subst e_
  refine (impl_isMap_1_1.calls (w := W) (hr0_1 := g1_) (hc0_1 := l1_) (hr90_1 := Kd.C_below hr90_1 hW) (hc90_1 := hc90_1) (hq0 := blk_below hq0 hW) (hr91 := Kd.C_below hr91 hW) (hc91 := hc91) (hq1 := blk_below hq1 hW) (h := hr_)).mono ?_
  rintro e w' ⟨rfl, hb⟩
  exact ⟨by show _ = Ending.returned (Value.bool ((impl_isMap_1_1.f k d.f0 d.f1 a90_0 l90_1 l91).getD false)); rw [hr_]; rfl, hb⟩

/-! ### impl_isMap_1: function 187 -/
def impl_isMap_1.f (k:Nat) (a0_0:Int) (l0_1:List Int) (l90_0:List Int) (l90_1:List (S97)) (l91:List Int):Option (Bool):=(anyf_impl_isMap_1_1.f k l90_1 a0_0 l0_1 l91).bind fun t358=>(some t358)
theorem impl_isMap_1.mono : ∀ a0 a1 a2 a3 a4 k,LeO (impl_isMap_1.f k a0 a1 a2 a3 a4) (impl_isMap_1.f (k + 1) a0 a1 a2 a3 a4):=by
 intro a0 a1 a2 a3 a4 k;unfold impl_isMap_1.f
 repeat' first
   | (with_reducible exact anyf_impl_isMap_1_1.mono _ _ _ _ _)
   | (with_reducible exact LeO.refl _)
   | (with_reducible exact LeO.none _)
   | (with_reducible refine LeO.ite ?_ ?_)
   | (with_reducible refine LeO.bind ?_ (fun _=>?_))
   | exact anyf_impl_isMap_1_1.mono _ _ _ _ _
   | exact LeO.none _
   | refine LeO.ite ?_ ?_
   | refine LeO.bind ?_ (fun _=>?_)
set_option maxHeartbeats 8000000 in
set_option maxRecDepth 100000 in
theorem impl_isMap_1.calls (k:Nat) (a0_0:Int) (A0_1:Option Addr) (c0_1:Nat) (l0_1:List Int) (B0:Nat) (A90_0:Option Addr) (c90_0:Nat) (l90_0:List Int) (A90_1:Option Addr) (c90_1:Nat) (l90_1:List (S97)) (B1:Nat) (A91:Option Addr) (c91:Nat) (l91:List Int) (r:Bool) (w:World) (hr0_1:Kd.C (Kd.int .i64) w A0_1 l0_1.length l0_1) (hc0_1:l0_1.length≤c0_1) (hr90_0:Kd.C (Kd.int .i64) w A90_0 l90_0.length l90_0) (hc90_0:l90_0.length≤c90_0) (hr90_1:Kd.C k97 w A90_1 l90_1.length l90_1) (hc90_1:l90_1.length≤c90_1) (hr91:Kd.C (Kd.int .i64) w A91 l91.length l91) (hc91:l91.length≤c91) (hq0:w.heap[B0]?=some (.cells #[.slice A90_0 l90_0.length c90_0,.slice A90_1 l90_1.length c90_1] 32 (0,0))) (hq1:w.heap[B1]?=some (.cells #[.slice A91 l91.length c91] 22 (0,0))) (h:impl_isMap_1.f k a0_0 l0_1 l90_0 l90_1 l91=some r) :
  Calls Try.prog 187 #[.agg #[.int .i64 a0_0,.slice A0_1 l0_1.length c0_1],.pointer (some ⟨B0,0,none⟩),.pointer (some ⟨B1,0,none⟩)] w fun e w'=>e=.returned (.bool r)∧Below w.heap.size w w':=by
 have hu97:=Try.underlying97;have HR0_1:=qK hr0_1;have HC0_1:=qK hc0_1;clear hr0_1 hc0_1;have HR90_0:=qK hr90_0;have HC90_0:=qK hc90_0;clear hr90_0 hc90_0;have HR90_1:=qK hr90_1;have HC90_1:=qK hc90_1;clear hr90_1 hc90_1;have BK355:=qK hq0;clear hq0;have HR91:=qK hr91;have HC91:=qK hc91;clear hr91 hc91;have BK356:=qK hq1;clear hq1;have HB:=qK (Below.refl w.heap.size w);have H:((anyf_impl_isMap_1_1.f k l90_1 a0_0 l0_1 l91).bind fun t358=>(some t358))=some r:=h;clear h;replace H:=Option.bind_eq_some_iff.mp H;obtain ⟨t358,A20,H⟩:=H;replace H:(some t358)=some r:=H;have A2:=qK A20;clear A20;obtain rfl:=Option.some.inj H;go_enter Try.func187,Try.ntmps187
 go_wp2_with (first|((with_reducible refine gate_dst (N:=3) rfl ?_);refine box_event ?hg (N:=3) ?hd (cs:=#[.int .i64 a0_0,.slice A0_1 l0_1.length c0_1]) (t:=97) ?hr ?_;(case hd=>rfl);(case hg=>rfl);(case hr=>(go_simp;try rfl));intro gb357 hg w3 hbox hb;have n0_:=qK (qB (g:=B0) (o:=_) (by (with_reducible repeat (first|refine qN ?_ _|refine qW ?_|refine qL ?_ _));exact BK355.out) hb);have n1_:=qK (qB (g:=B1) (o:=_) (by (with_reducible repeat (first|refine qN ?_ _|refine qW ?_|refine qL ?_ _));exact BK356.out) hb);have n2_:=qK (qT (by repeat (with_reducible first|exact HB.out|apply qA|apply qD|apply qO|refine qS ?_ GE355.out|refine qS ?_ GE356.out)) hb);have n3_:=qK (hbox);have n4_:=qK ((by rw [hg];exact (qZ (by repeat (with_reducible first|exact HB.out|apply qA|apply qD|apply qO|refine qS ?_ GE355.out|refine qS ?_ GE356.out))):w.heap.size≤gb357));have n5_:=qK ((by rw [hg];exact (qZ (by repeat (with_reducible first|exact HB.out|apply qA|apply qD|apply qO|refine qS ?_ GE355.out|refine qS ?_ GE356.out))):w.heap.size≤gb357));have n6_:=qK ((by rw [hg];exact Nat.ne_of_lt (blk_lt (g:=B0) (o:=_) (by (with_reducible repeat (first|refine qN ?_ _|refine qW ?_|refine qL ?_ _));exact BK355.out)):B0 ≠ gb357));have n7_:=qK ((by rw [hg];exact Nat.ne_of_gt (blk_lt (g:=B0) (o:=_) (by (with_reducible repeat (first|refine qN ?_ _|refine qW ?_|refine qL ?_ _));exact BK355.out)):gb357 ≠ B0));have n8_:=qK ((by rw [hg];exact Nat.ne_of_lt (blk_lt (g:=B1) (o:=_) (by (with_reducible repeat (first|refine qN ?_ _|refine qW ?_|refine qL ?_ _));exact BK356.out)):B1 ≠ gb357));have n9_:=qK ((by rw [hg];exact Nat.ne_of_gt (blk_lt (g:=B1) (o:=_) (by (with_reducible repeat (first|refine qN ?_ _|refine qW ?_|refine qL ?_ _));exact BK356.out)):gb357 ≠ B1));clear BK355;clear BK356;clear HB;have BK355:=n0_;have BK356:=n1_;have HB:=n2_;have BK357:=n3_;have GW357:=n4_;have GE357:=n5_;have NB355_357:=n6_;have NB357_355:=n7_;have NB356_357:=n8_;have NB357_356:=n9_;clear n0_ n1_ n2_ n3_ n4_ n5_ n6_ n7_ n8_ n9_;clear hb hbox hg;have hnb4:=NB355_357.out;have hnc4:=NB357_355.out;have hcz5_0:w3.cell? ⟨B0,0,none⟩=some (.slice A90_0 l90_0.length c90_0):=(qC BK355.out 0).trans rfl;have hcz5_1:w3.cell? ⟨B0,1,none⟩=some (.slice A90_1 l90_1.length c90_1):=(qC BK355.out 1).trans rfl;have hfz5_0:=qF BK355.out 0;have hfz5_1:=qF BK355.out 1)|((with_reducible refine gate_callee (f:=163) rfl ?_);refine goesL_ (some 8) rfl rfl Try.func163 (by kernel_rfl) rfl #[.slice A90_1 l90_1.length c90_1,.func (.func 188) #[] #[.pointer (some ⟨gb357,0,none⟩),.pointer (some ⟨B1,0,none⟩)]] rfl (by (try simp only [mT,mC,mN]);first|done|rfl|(simp only [lD,lT];rfl)) ?_;(with_reducible refine (anyf_impl_isMap_1_1.calls k _ _ l90_1 gb357 a0_0 A0_1 c0_1 l0_1 B1 A91 c91 l91 t358 _ ?side1 ?side2 ?side3 ?side4 ?side5 ?side6 ?side7 ?side8 A2.out).mono ?_);(case side1=>repeat (first|exact (cB HR90_1.out HB.out)|(with_reducible first|refine cL ?_ _|refine cN ?_ _|refine cW ?_)));(case side2=>exact HC90_1.out);(case side3=>repeat (first|exact (cB HR0_1.out HB.out)|(with_reducible first|refine cL ?_ _|refine cN ?_ _|refine cW ?_)));(case side4=>exact HC0_1.out);(case side5=>exact (by (with_reducible repeat (first|refine qN ?_ _|refine qW ?_|refine qL ?_ _));exact BK357.out));(case side6=>repeat (first|exact (cB HR91.out HB.out)|(with_reducible first|refine cL ?_ _|refine cN ?_ _|refine cW ?_)));(case side7=>exact HC91.out);(case side8=>exact (by (with_reducible repeat (first|refine qN ?_ _|refine qW ?_|refine qL ?_ _));exact BK356.out));rintro e w6 ⟨rfl,hb⟩;refine ⟨_,rfl,?_⟩;have n0_:=qK (qB (g:=B0) (o:=_) (by (with_reducible repeat (first|refine qN ?_ _|refine qW ?_|refine qL ?_ _));exact BK355.out) hb);have n1_:=qK (qB (g:=B1) (o:=_) (by (with_reducible repeat (first|refine qN ?_ _|refine qW ?_|refine qL ?_ _));exact BK356.out) hb);have n2_:=qK (qB (g:=gb357) (o:=_) (by (with_reducible repeat (first|refine qN ?_ _|refine qW ?_|refine qL ?_ _));exact BK357.out) hb);have n3_:=qK (qT (by repeat (with_reducible first|exact HB.out|apply qA|apply qD|apply qO|refine qS ?_ GE355.out|refine qS ?_ GE356.out|refine qS ?_ GE357.out)) hb);clear BK355;clear BK356;clear BK357;clear HB;have BK355:=n0_;have BK356:=n1_;have BK357:=n2_;have HB:=n3_;clear n0_ n1_ n2_ n3_;(try clear hb)))
 go_ret
 exact ⟨by first|rfl|(simp [errW_none,errW_some] <;> rfl)|(simp [*,errW_none,errW_some] <;> rfl),by repeat (first|(with_reducible first|exact HB.out|apply qA|apply qD|apply qO|refine qS ?_ GE355.out|refine qS ?_ GE356.out|refine qS ?_ GE357.out)|exact HB.out)⟩

/-! ### areAll_impl_isMap_1: function 120, handed function 187 -/
def areAll_impl_isMap_1.f (k : Nat) (l : List S97) (l90_0 : List Int) (l90_1 : List (S97)) (l91 : List Int) : Option Bool := if l.all (fun d => (impl_isMap_1.f k d.f0 d.f1 l90_0 l90_1 l91).isSome) = true then some (l.all (fun d => (impl_isMap_1.f k d.f0 d.f1 l90_0 l90_1 l91).getD false)) else none
theorem areAll_impl_isMap_1.mono : ∀ a0_ a1_ a2_ a3_ k, LeO (areAll_impl_isMap_1.f k a0_ a1_ a2_ a3_) (areAll_impl_isMap_1.f (k + 1) a0_ a1_ a2_ a3_) := by
  intro l l90_0 l90_1 l91 k r h
  unfold areAll_impl_isMap_1.f at h ⊢
  by_cases hs : l.all (fun d => (impl_isMap_1.f k d.f0 d.f1 l90_0 l90_1 l91).isSome) = true
  case neg => rw [if_neg hs] at h; cases h
  rw [if_pos hs] at h
  have hx : ∀ d ∈ l, impl_isMap_1.f (k + 1) d.f0 d.f1 l90_0 l90_1 l91 = impl_isMap_1.f k d.f0 d.f1 l90_0 l90_1 l91 := by
    intro d hd
    obtain ⟨r, hr⟩ := Option.isSome_iff_exists.1 (List.all_eq_true.1 hs d hd)
    rw [hr]; exact impl_isMap_1.mono _ _ _ _ _ k r hr
  rw [if_pos (List.all_eq_true.2 fun d hd => by rw [hx d hd]; exact List.all_eq_true.1 hs d hd), ← h]
  congr 1
  exact all_same fun d hd => by rw [hx d hd]
theorem areAll_impl_isMap_1.calls (k : Nat) (A : Option Addr) (c : Nat) (l : List S97) (B0 : Nat) (A90_0 : Option Addr) (c90_0 : Nat) (l90_0 : List Int) (A90_1 : Option Addr) (c90_1 : Nat) (l90_1 : List (S97)) (B1 : Nat) (A91 : Option Addr) (c91 : Nat) (l91 : List Int) (r : Bool) (w : World) (hr : Kd.C k97 w A l.length l) (hc : l.length ≤ c) (hr90_0 : Kd.C (Kd.int .i64) w A90_0 l90_0.length l90_0) (hc90_0 : l90_0.length ≤ c90_0) (hr90_1 : Kd.C k97 w A90_1 l90_1.length l90_1) (hc90_1 : l90_1.length ≤ c90_1) (hq0 : w.heap[B0]? = some (.cells #[.slice A90_0 l90_0.length c90_0, .slice A90_1 l90_1.length c90_1] 32 (0, 0))) (hr91 : Kd.C (Kd.int .i64) w A91 l91.length l91) (hc91 : l91.length ≤ c91) (hq1 : w.heap[B1]? = some (.cells #[.slice A91 l91.length c91] 22 (0, 0))) (h : areAll_impl_isMap_1.f k l l90_0 l90_1 l91 = some r) :
    Calls Try.prog 120 #[.slice A l.length c, .func (.func 187) #[] #[.pointer (some ⟨B0, 0, none⟩), .pointer (some ⟨B1, 0, none⟩)]] w fun e w' => e = .returned (.bool r) ∧ Below w.heap.size w w' := by
  unfold areAll_impl_isMap_1.f at h
  by_cases hs : l.all (fun d => (impl_isMap_1.f k d.f0 d.f1 l90_0 l90_1 l91).isSome) = true
  case neg => rw [if_neg hs] at h; cases h
  rw [if_pos hs] at h
  obtain rfl : l.all (fun d => (impl_isMap_1.f k d.f0 d.f1 l90_0 l90_1 l91).getD false) = r := Option.some.inj h
  refine areAll_Atom.calls A c l 187 _ _ w (enters_of Try.func187 (by kernel_rfl) rfl) hr ?_
  intro W d v hd hW hv
  obtain ⟨r_, hr_⟩ := Option.isSome_iff_exists.1 (List.all_eq_true.1 hs d hd)
  obtain ⟨cs, rfl, hK⟩ := hv
  obtain ⟨A1_, c1_, e_, l1_, g1_⟩ := k97_open hK
  subst e_
  refine (impl_isMap_1.calls (w := W) (hr0_1 := g1_) (hc0_1 := l1_) (hr90_0 := Kd.C_below hr90_0 hW) (hc90_0 := hc90_0) (hr90_1 := Kd.C_below hr90_1 hW) (hc90_1 := hc90_1) (hq0 := blk_below hq0 hW) (hr91 := Kd.C_below hr91 hW) (hc91 := hc91) (hq1 := blk_below hq1 hW) (h := hr_)).mono ?_
  rintro e w' ⟨rfl, hb⟩
  exact ⟨by show _ = Ending.returned (Value.bool ((impl_isMap_1.f k d.f0 d.f1 l90_0 l90_1 l91).getD false)); rw [hr_]; rfl, hb⟩

/-! ### impl_isMap: function 151 -/
def impl_isMap.f (k:Nat) (l0:List Int) (l1_0:List Int) (l1_1:List (S97)) (l2_0:List Int) (l2_1:List (S97)):Option (Bool):=(impl_mapped.f k l0 l2_0).bind fun t362=>((slices_Equal_int_int.f k t362 l1_0).bind fun t365=>(if t365=true then ((areAll_impl_isMap_1.f k l2_1 l1_0 l1_1 l0).bind fun t366=>(some t366)) else (some false)))
theorem impl_isMap.mono : ∀ a0 a1 a2 a3 a4 k,LeO (impl_isMap.f k a0 a1 a2 a3 a4) (impl_isMap.f (k + 1) a0 a1 a2 a3 a4):=by
 intro a0 a1 a2 a3 a4 k;unfold impl_isMap.f
 repeat' first
   | (with_reducible exact areAll_impl_isMap_1.mono _ _ _ _ _)
   | (with_reducible exact impl_mapped.mono _ _ _)
   | (with_reducible exact slices_Equal_int_int.mono _ _ _)
   | (with_reducible exact LeO.refl _)
   | (with_reducible exact LeO.none _)
   | (with_reducible refine LeO.ite ?_ ?_)
   | (with_reducible refine LeO.bind ?_ (fun _=>?_))
   | exact areAll_impl_isMap_1.mono _ _ _ _ _
   | exact impl_mapped.mono _ _ _
   | exact slices_Equal_int_int.mono _ _ _
   | exact LeO.none _
   | refine LeO.ite ?_ ?_
   | refine LeO.bind ?_ (fun _=>?_)
def impl_isMap.T1 : Bool × List (List Nat × List Nat):=(true,[([],[]),([],[]),([1],[1]),([0,2],[0,2]),([],[]),([4],[4]),([3,5,3],[3,5]),([6,6],[6]),([7],[7]),([8,7],[7,8]),([7],[7]),([9,10,7,7],[7,9,10]),([7,11],[7,11]),([12,11,0,1,2,3,4,5,6,7,8,9,10,11,12],[12])])
def impl_isMap.B1 : List Nat:=[0,0,2,7,0,16,63,127,255,511,255,2047,4095,8191]
theorem impl_isMap.tab1 : rtab .any (opsOf Try.f151 1)=impl_isMap.T1:=by kernel_rfl
theorem impl_isMap.bits1 : waitsOk impl_isMap.T1.2 impl_isMap.B1=true:=by kernel_rfl
set_option maxHeartbeats 8000000 in
set_option maxRecDepth 100000 in
theorem impl_isMap.calls (k:Nat) (A0:Option Addr) (c0:Nat) (l0:List Int) (A1_0:Option Addr) (c1_0:Nat) (l1_0:List Int) (A1_1:Option Addr) (c1_1:Nat) (l1_1:List (S97)) (A2_0:Option Addr) (c2_0:Nat) (l2_0:List Int) (A2_1:Option Addr) (c2_1:Nat) (l2_1:List (S97)) (r:Bool) (w:World) (hr0:Kd.C (Kd.int .i64) w A0 l0.length l0) (hc0:l0.length≤c0) (hr1_0:Kd.C (Kd.int .i64) w A1_0 l1_0.length l1_0) (hc1_0:l1_0.length≤c1_0) (hr1_1:Kd.C k97 w A1_1 l1_1.length l1_1) (hc1_1:l1_1.length≤c1_1) (hr2_0:Kd.C (Kd.int .i64) w A2_0 l2_0.length l2_0) (hc2_0:l2_0.length≤c2_0) (hr2_1:Kd.C k97 w A2_1 l2_1.length l2_1) (hc2_1:l2_1.length≤c2_1) (h:impl_isMap.f k l0 l1_0 l1_1 l2_0 l2_1=some r) :
  Calls Try.prog 151 #[.slice A0 l0.length c0,.agg #[.slice A1_0 l1_0.length c1_0,.slice A1_1 l1_1.length c1_1],.agg #[.slice A2_0 l2_0.length c2_0,.slice A2_1 l2_1.length c2_1]] w fun e w'=>e=.returned (.bool r)∧Below w.heap.size w w':=by
 have hu32:=Try.underlying32;have HR0:=qK hr0;have HC0:=qK hc0;clear hr0 hc0;have HR1_0:=qK hr1_0;have HC1_0:=qK hc1_0;clear hr1_0 hc1_0;have HR1_1:=qK hr1_1;have HC1_1:=qK hc1_1;clear hr1_1 hc1_1;have HR2_0:=qK hr2_0;have HC2_0:=qK hc2_0;clear hr2_0 hc2_0;have HR2_1:=qK hr2_1;have HC2_1:=qK hc2_1;clear hr2_1 hc2_1;have HB:=qK (Below.refl w.heap.size w);have H:((impl_mapped.f k l0 l2_0).bind fun t362=>((slices_Equal_int_int.f k t362 l1_0).bind fun t365=>(if t365=true then ((areAll_impl_isMap_1.f k l2_1 l1_0 l1_1 l0).bind fun t366=>(some t366)) else (some false))))=some r:=h;clear h;replace H:=Option.bind_eq_some_iff.mp H;obtain ⟨t362,A40,H⟩:=H;replace H:((slices_Equal_int_int.f k t362 l1_0).bind fun t365=>(if t365=true then ((areAll_impl_isMap_1.f k l2_1 l1_0 l1_1 l0).bind fun t366=>(some t366)) else (some false)))=some r:=H;have A4:=qK A40;clear A40;replace H:=Option.bind_eq_some_iff.mp H;obtain ⟨t365,A50,H⟩:=H;replace H:(if t365=true then ((areAll_impl_isMap_1.f k l2_1 l1_0 l1_1 l0).bind fun t366=>(some t366)) else (some false))=some r:=H;have A5:=qK A50;clear A50;by_cases c6:t365=true
 ·subst c6;have H1:((areAll_impl_isMap_1.f k l2_1 l1_0 l1_1 l0).bind fun t366=>(some t366))=some r:=by rw [if_pos rfl] at H;exact H
  clear H;have H:=H1;clear H1;replace H:=Option.bind_eq_some_iff.mp H;obtain ⟨t366,A70,H⟩:=H;replace H:(some t366)=some r:=H;have A7:=qK A70;clear A70;obtain rfl:=Option.some.inj H;go_enter Try.func151,Try.ntmps151
  try go_wp2_with (first|((with_reducible refine gate_dst (N:=3) rfl ?_);refine box_event ?hg (N:=3) ?hd (cs:=#[.slice A0 l0.length c0]) (t:=22) ?hr ?_;(case hd=>rfl);(case hg=>rfl);(case hr=>(go_simp;try rfl));intro gb359 hg w8 hbox hb;have n0_:=qK (qT (by repeat (with_reducible first|exact HB.out|apply qA|apply qD|apply qO)) hb);have n1_:=qK (hbox);have n2_:=qK ((by rw [hg];exact (qZ (by repeat (with_reducible first|exact HB.out|apply qA|apply qD|apply qO))):w.heap.size≤gb359));have n3_:=qK ((by rw [hg];exact (qZ (by repeat (with_reducible first|exact HB.out|apply qA|apply qD|apply qO))):w.heap.size≤gb359));clear HB;have HB:=n0_;have BK359:=n1_;have GW359:=n2_;have GE359:=n3_;clear n0_ n1_ n2_ n3_;clear hb hbox hg)|((with_reducible refine gate_dst (N:=4) rfl ?_);refine box_event ?hg (N:=4) ?hd (cs:=#[.slice A1_0 l1_0.length c1_0,.slice A1_1 l1_1.length c1_1]) (t:=32) ?hr ?_;(case hd=>rfl);(case hg=>rfl);(case hr=>(go_simp;try rfl));intro gb360 hg w9 hbox hb;have n0_:=qK (qB (g:=gb359) (o:=_) (by (with_reducible repeat (first|refine qN ?_ _|refine qW ?_|refine qL ?_ _));exact BK359.out) hb);have n1_:=qK (qT (by repeat (with_reducible first|exact HB.out|apply qA|apply qD|apply qO|refine qS ?_ GE359.out)) hb);have n2_:=qK (hbox);have n3_:=qK ((by rw [hg];exact (qZ (by repeat (with_reducible first|exact HB.out|apply qA|apply qD|apply qO|refine qS ?_ GE359.out))):w.heap.size≤gb360));have n4_:=qK ((by rw [hg];exact (qZ (by repeat (with_reducible first|exact HB.out|apply qA|apply qD|apply qO|refine qS ?_ GE359.out))):w.heap.size≤gb360));have n5_:=qK ((by rw [hg];exact Nat.ne_of_lt (blk_lt (g:=gb359) (o:=_) (by (with_reducible repeat (first|refine qN ?_ _|refine qW ?_|refine qL ?_ _));exact BK359.out)):gb359 ≠ gb360));have n6_:=qK ((by rw [hg];exact Nat.ne_of_gt (blk_lt (g:=gb359) (o:=_) (by (with_reducible repeat (first|refine qN ?_ _|refine qW ?_|refine qL ?_ _));exact BK359.out)):gb360 ≠ gb359));clear BK359;clear HB;have BK359:=n0_;have HB:=n1_;have BK360:=n2_;have GW360:=n3_;have GE360:=n4_;have NB359_360:=n5_;have NB360_359:=n6_;clear n0_ n1_ n2_ n3_ n4_ n5_ n6_;clear hb hbox hg)|((with_reducible refine gate_dst (N:=5) rfl ?_);refine box_event ?hg (N:=5) ?hd (cs:=#[.slice A2_0 l2_0.length c2_0,.slice A2_1 l2_1.length c2_1]) (t:=32) ?hr ?_;(case hd=>rfl);(case hg=>rfl);(case hr=>(go_simp;try rfl));intro gb361 hg w10 hbox hb;have n0_:=qK (qB (g:=gb359) (o:=_) (by (with_reducible repeat (first|refine qN ?_ _|refine qW ?_|refine qL ?_ _));exact BK359.out) hb);have n1_:=qK (qB (g:=gb360) (o:=_) (by (with_reducible repeat (first|refine qN ?_ _|refine qW ?_|refine qL ?_ _));exact BK360.out) hb);have n2_:=qK (qT (by repeat (with_reducible first|exact HB.out|apply qA|apply qD|apply qO|refine qS ?_ GE359.out|refine qS ?_ GE360.out)) hb);have n3_:=qK (hbox);have n4_:=qK ((by rw [hg];exact (qZ (by repeat (with_reducible first|exact HB.out|apply qA|apply qD|apply qO|refine qS ?_ GE359.out|refine qS ?_ GE360.out))):w.heap.size≤gb361));have n5_:=qK ((by rw [hg];exact (qZ (by repeat (with_reducible first|exact HB.out|apply qA|apply qD|apply qO|refine qS ?_ GE359.out|refine qS ?_ GE360.out))):w.heap.size≤gb361));have n6_:=qK ((by rw [hg];exact Nat.ne_of_lt (blk_lt (g:=gb359) (o:=_) (by (with_reducible repeat (first|refine qN ?_ _|refine qW ?_|refine qL ?_ _));exact BK359.out)):gb359 ≠ gb361));have n7_:=qK ((by rw [hg];exact Nat.ne_of_gt (blk_lt (g:=gb359) (o:=_) (by (with_reducible repeat (first|refine qN ?_ _|refine qW ?_|refine qL ?_ _));exact BK359.out)):gb361 ≠ gb359));have n8_:=qK ((by rw [hg];exact Nat.ne_of_lt (blk_lt (g:=gb360) (o:=_) (by (with_reducible repeat (first|refine qN ?_ _|refine qW ?_|refine qL ?_ _));exact BK360.out)):gb360 ≠ gb361));have n9_:=qK ((by rw [hg];exact Nat.ne_of_gt (blk_lt (g:=gb360) (o:=_) (by (with_reducible repeat (first|refine qN ?_ _|refine qW ?_|refine qL ?_ _));exact BK360.out)):gb361 ≠ gb360));clear BK359;clear BK360;clear HB;have BK359:=n0_;have BK360:=n1_;have HB:=n2_;have BK361:=n3_;have GW361:=n4_;have GE361:=n5_;have NB359_361:=n6_;have NB361_359:=n7_;have NB360_361:=n8_;have NB361_360:=n9_;clear n0_ n1_ n2_ n3_ n4_ n5_ n6_ n7_ n8_ n9_;clear hb hbox hg))
  have n0_:=qK (qW BK359.out);have n1_:=qK (qW BK360.out);have n2_:=qK (qW BK361.out);have n3_:=qK (qO HB.out);clear BK359;clear BK360;clear BK361;clear HB;have BK359:=n0_;have BK360:=n1_;have BK361:=n2_;have HB:=n3_;clear n0_ n1_ n2_ n3_;refine start_ (n:=14) (S:=fun w'=>w'.cell? ⟨gb359,0,none⟩=some (.slice A0 l0.length c0)∧w'.cell? ⟨gb361,0,none⟩=some (.slice A2_0 l2_0.length c2_0)∧w'.cell? ⟨gb361,1,none⟩=some (.slice A2_1 l2_1.length c2_1)∧w'.cell? ⟨gb360,0,none⟩=some (.slice A1_0 l1_0.length c1_0)∧w'.cell? ⟨gb360,1,none⟩=some (.slice A1_1 l1_1.length c1_1)) (ds:=[]) #[Z,Z,Z,Z,Z,Z,Z,Z,Z,Z,Z,Z,Z,Z] (by kernel_rfl) rfl rfl ⟨(qC BK359.out 0).trans rfl,(qC BK361.out 0).trans rfl,(qC BK361.out 1).trans rfl,(qC BK360.out 0).trans rfl,(qC BK360.out 1).trans rfl⟩ (fun hHeld=>?_);refine with_tabW impl_isMap.tab1 impl_isMap.bits1 (fun HT_ HW_=>?_);generalize w10.drew=w11 at BK359 BK360 BK361 HB hHeld ⊢
  refine pure_ (i:=1) (N:=some 8) (v:=?_) (a':=?_) #[Z,Y,Z,Z,Z,Z,Z,Z,Z,Z,Z,Z,Z,Z] rfl rfl (any_of HT_.out (by kernel_rfl)) (fun _ _ _ h=>h) (Or.inl ⟨by rfl,?_⟩) ?_ ?_;rotate_left
  ·intro w';go_simp;with_reducible rfl
  rotate_left
  ·simp only [Act.put,sIb,sZ,sS,i64_w,i32_w];rfl
  refine pure_ (i:=4) (N:=some 11) (v:=?_) (a':=?_) #[Z,Y,Z,Z,Y,Z,Z,Z,Z,Z,Z,Z,Z,Z] rfl rfl (any_of HT_.out (by kernel_rfl)) (fun _ _ _ h=>h) (Or.inl ⟨by rfl,?_⟩) ?_ ?_;rotate_left
  ·intro w';go_simp;with_reducible rfl
  rotate_left
  ·simp only [Act.put,sIb,sZ,sS,i64_w,i32_w];rfl
  refine take_ (i:=0) (N:=some 7) (v:=?_) (a':=?_) #[Y,Y,Z,Z,Y,Z,Z,Z,Z,Z,Z,Z,Z,Z] rfl rfl (take_ofW HT_.out HW_.out (by kernel_rfl)) (fun _ _ _ h=>h) (Or.inl ⟨by rfl,?_⟩) hHeld ?_ ?_;rotate_left
  ·rintro w' ⟨s0,s1,s2,s3,s4⟩;go_simp;with_reducible rfl
  rotate_left
  ·simp only [Act.put,sIb,sZ,sS,i64_w,i32_w];rfl
  refine take_ (i:=2) (N:=some 9) (v:=?_) (a':=?_) #[Y,Y,Y,Z,Y,Z,Z,Z,Z,Z,Z,Z,Z,Z] rfl rfl (take_ofW HT_.out HW_.out (by kernel_rfl)) (fun _ _ _ h=>h) (Or.inl ⟨by rfl,?_⟩) hHeld ?_ ?_;rotate_left
  ·rintro w' ⟨s0,s1,s2,s3,s4⟩;go_simp;with_reducible rfl
  rotate_left
  ·simp only [Act.put,sIb,sZ,sS,i64_w,i32_w];rfl
  refine take_ (i:=5) (N:=some 12) (v:=?_) (a':=?_) #[Y,Y,Y,Z,Y,Y,Z,Z,Z,Z,Z,Z,Z,Z] rfl rfl (take_ofW HT_.out HW_.out (by kernel_rfl)) (fun _ _ _ h=>h) (Or.inl ⟨by rfl,?_⟩) hHeld ?_ ?_;rotate_left
  ·rintro w' ⟨s0,s1,s2,s3,s4⟩;go_simp;with_reducible rfl
  rotate_left
  ·simp only [Act.put,sIb,sZ,sS,i64_w,i32_w];rfl
  refine one_ (i:=3) (N:=some 10) #[Y,Y,Y,Y,Y,Y,Z,Z,Z,Z,Z,Z,Z,Z] rfl rfl (one_of HT_.out (by kernel_rfl)) (by decide) (fun K hK=>?_);refine goes_ Try.func186 (by kernel_rfl) rfl #[.slice A0 l0.length c0,.slice A2_0 l2_0.length c2_0] (by rfl) rfl rfl (by (try simp only [mT,mC,mN]);first|done|rfl|(simp only [lD,lT];rfl)) ?_;with_reducible refine (impl_mapped.calls k _ _ l0 _ _ l2_0 t362 _ ?side1 ?side2 ?side3 ?side4 A4.out).mono ?_
  (case side1=>repeat (first|exact (cB HR0.out HB.out)|(with_reducible first|refine cL ?_ _|refine cN ?_ _|refine cW ?_)));(case side2=>exact HC0.out);(case side3=>repeat (first|exact (cB HR2_0.out HB.out)|(with_reducible first|refine cL ?_ _|refine cN ?_ _|refine cW ?_)));(case side4=>exact HC2_0.out);rintro e w12 ⟨v363,rfl,ho0,hb⟩;refine ⟨_,rfl,?_⟩;have n0_:=qK (Kd.R_lower ho0 (qZ (by repeat (with_reducible first|exact HB.out|apply qA|apply qD|apply qO|refine qS ?_ GE359.out|refine qS ?_ GE360.out|refine qS ?_ GE361.out))));have n1_:=qK (qB (g:=gb359) (o:=_) (by (with_reducible repeat (first|refine qN ?_ _|refine qW ?_|refine qL ?_ _));exact BK359.out) hb);have n2_:=qK (qB (g:=gb360) (o:=_) (by (with_reducible repeat (first|refine qN ?_ _|refine qW ?_|refine qL ?_ _));exact BK360.out) hb);have n3_:=qK (qB (g:=gb361) (o:=_) (by (with_reducible repeat (first|refine qN ?_ _|refine qW ?_|refine qL ?_ _));exact BK361.out) hb);have n4_:=qK (qT (by repeat (with_reducible first|exact HB.out|apply qA|apply qD|apply qO|refine qS ?_ GE359.out|refine qS ?_ GE360.out|refine qS ?_ GE361.out)) hb);clear BK359;clear BK360;clear BK361;clear HB;have HO364:=n0_;have BK359:=n1_;have BK360:=n2_;have BK361:=n3_;have HB:=n4_;clear n0_ n1_ n2_ n3_ n4_;(try clear hb);(try clear ho0);obtain ⟨Ao13,co13,eo13⟩:=Kd.R_slice HO364.out;(first|subst eo13|(injection eo13 with f1_ f2_ f3_;have f4_:=f1_.symm;have f5_:=f3_.symm;clear f1_ f2_ f3_;subst f4_;subst f5_));refine hK.out _ _ ⟨(qC BK359.out 0).trans rfl,(qC BK361.out 0).trans rfl,(qC BK361.out 1).trans rfl,(qC BK360.out 0).trans rfl,(qC BK360.out 1).trans rfl⟩ (fun hHeld=>?_);clear hK K;refine norm_ (a':=?_) ?_ ?_;rotate_left
  ·show Act.put _ (some 10) _=_
   simp only [Act.put,sIb,sZ,sS,i64_w,i32_w];rfl
  refine one_ (i:=6) (N:=some 13) #[Y,Y,Y,Y,Y,Y,Y,Z,Z,Z,Z,Z,Z,Z] rfl rfl (one_of HT_.out (by kernel_rfl)) (by decide) (fun K hK=>?_);refine goes_ Try.func185 (by kernel_rfl) rfl #[.slice Ao13 t362.length co13,.slice A1_0 l1_0.length c1_0] (by rfl) rfl rfl (by (try simp only [mT,mC,mN]);first|done|rfl|(simp only [lD,lT];rfl)) ?_;with_reducible refine (slices_Equal_int_int.calls k _ _ t362 _ _ l1_0 true _ ?side1 ?side2 ?side3 ?side4 A5.out).mono ?_
  (case side1=>repeat (first|exact (Kd.R_reads' HO364.out).2.2|(with_reducible first|refine cL ?_ _|refine cN ?_ _|refine cW ?_)));(case side2=>exact (Kd.R_reads' HO364.out).2.1);(case side3=>repeat (first|exact (cB HR1_0.out HB.out)|(with_reducible first|refine cL ?_ _|refine cN ?_ _|refine cW ?_)));(case side4=>exact HC1_0.out);rintro e w' ⟨rfl,⟨nd,rfl⟩⟩;refine ⟨_,rfl,?_⟩;refine hK.out _ _ ⟨(qC BK359.out 0).trans rfl,(qC BK361.out 0).trans rfl,(qC BK361.out 1).trans rfl,(qC BK360.out 0).trans rfl,(qC BK360.out 1).trans rfl⟩ (fun hHeld=>?_);clear hK K;refine norm_ (a':=?_) ?_ ?_;rotate_left
  ·show Act.put _ (some 13) _=_
   simp only [Act.put,sIb,sZ,sS,i64_w,i32_w];rfl
  refine pure_ (i:=7) (N:=some 14) (v:=?_) (a':=?_) #[Y,Y,Y,Y,Y,Y,Y,Y,Z,Z,Z,Z,Z,Z] rfl rfl (any_of HT_.out (by kernel_rfl)) (fun _ _ _ h=>h) (Or.inl ⟨by rfl,?_⟩) ?_ ?_;rotate_left
  ·intro w';go_simp;with_reducible rfl
  rotate_left
  ·simp only [Act.put,sIb,sZ,sS,i64_w,i32_w];rfl
  refine pure_ (i:=8) (N:=some 15) (v:=?_) (a':=?_) #[Y,Y,Y,Y,Y,Y,Y,Y,Y,Z,Z,Z,Z,Z] rfl rfl (any_of HT_.out (by kernel_rfl)) (fun _ _ _ h=>h) (Or.inl ⟨by rfl,?_⟩) ?_ ?_;rotate_left
  ·intro w';go_simp;with_reducible rfl
  rotate_left
  ·simp only [Act.put,sIb,sZ,sS,i64_w,i32_w];rfl
  refine pure_ (i:=10) (N:=some 17) (v:=?_) (a':=?_) #[Y,Y,Y,Y,Y,Y,Y,Y,Y,Z,Y,Z,Z,Z] rfl rfl (any_of HT_.out (by kernel_rfl)) (fun _ _ _ h=>h) (Or.inl ⟨by rfl,?_⟩) ?_ ?_;rotate_left
  ·intro w';go_simp;with_reducible rfl
  rotate_left
  ·simp only [Act.put,sIb,sZ,sS,i64_w,i32_w];rfl
  refine take_ (i:=9) (N:=some 16) (v:=?_) (a':=?_) #[Y,Y,Y,Y,Y,Y,Y,Y,Y,Y,Y,Z,Z,Z] rfl rfl (take_ofW HT_.out HW_.out (by kernel_rfl)) (fun _ _ _ h=>h) (Or.inl ⟨by rfl,?_⟩) hHeld ?_ ?_;rotate_left
  ·rintro w' ⟨s0,s1,s2,s3,s4⟩;go_simp;with_reducible rfl
  rotate_left
  ·simp only [Act.put,sIb,sZ,sS,i64_w,i32_w];rfl
  refine one_ (i:=11) (N:=some 18) #[Y,Y,Y,Y,Y,Y,Y,Y,Y,Y,Y,Y,Z,Z] rfl rfl (one_of HT_.out (by kernel_rfl)) (by decide) (fun K hK=>?_);refine goes_ Try.func120 (by kernel_rfl) rfl #[.slice A2_1 l2_1.length c2_1,.func (.func 187) #[] #[.pointer (some ⟨gb360,0,none⟩),.pointer (some ⟨gb359,0,none⟩)]] (by rfl) rfl rfl (by (try simp only [mT,mC,mN]);first|done|rfl|(simp only [lD,lT];rfl)) ?_;with_reducible refine (areAll_impl_isMap_1.calls k _ _ l2_1 gb360 A1_0 c1_0 l1_0 A1_1 c1_1 l1_1 gb359 A0 c0 l0 t366 _ ?side1 ?side2 ?side3 ?side4 ?side5 ?side6 ?side7 ?side8 ?side9 ?side10 A7.out).mono ?_
  (case side1=>repeat (first|exact (cB HR2_1.out (by repeat (with_reducible first|exact HB.out|apply qA|apply qD|apply qO|refine qS ?_ GE359.out|refine qS ?_ GE360.out|refine qS ?_ GE361.out)))|(with_reducible first|refine cL ?_ _|refine cN ?_ _|refine cW ?_)));(case side2=>exact HC2_1.out);(case side3=>repeat (first|exact (cB HR1_0.out (by repeat (with_reducible first|exact HB.out|apply qA|apply qD|apply qO|refine qS ?_ GE359.out|refine qS ?_ GE360.out|refine qS ?_ GE361.out)))|(with_reducible first|refine cL ?_ _|refine cN ?_ _|refine cW ?_)));(case side4=>exact HC1_0.out);(case side5=>repeat (first|exact (cB HR1_1.out (by repeat (with_reducible first|exact HB.out|apply qA|apply qD|apply qO|refine qS ?_ GE359.out|refine qS ?_ GE360.out|refine qS ?_ GE361.out)))|(with_reducible first|refine cL ?_ _|refine cN ?_ _|refine cW ?_)));(case side6=>exact HC1_1.out);(case side7=>exact (by (with_reducible repeat (first|refine qN ?_ _|refine qW ?_|refine qL ?_ _));exact BK360.out));(case side8=>repeat (first|exact (cB HR0.out (by repeat (with_reducible first|exact HB.out|apply qA|apply qD|apply qO|refine qS ?_ GE359.out|refine qS ?_ GE360.out|refine qS ?_ GE361.out)))|(with_reducible first|refine cL ?_ _|refine cN ?_ _|refine cW ?_)));(case side9=>exact HC0.out);(case side10=>exact (by (with_reducible repeat (first|refine qN ?_ _|refine qW ?_|refine qL ?_ _));exact BK359.out));rintro e w14 ⟨rfl,hb⟩;refine ⟨_,rfl,?_⟩;have n0_:=qK (rB (by (with_reducible repeat (first|apply rL|apply rN|apply rW));exact HO364.out) hb);have n1_:=qK (qB (g:=gb359) (o:=_) (by (with_reducible repeat (first|refine qN ?_ _|refine qW ?_|refine qL ?_ _));exact BK359.out) hb);have n2_:=qK (qB (g:=gb360) (o:=_) (by (with_reducible repeat (first|refine qN ?_ _|refine qW ?_|refine qL ?_ _));exact BK360.out) hb);have n3_:=qK (qB (g:=gb361) (o:=_) (by (with_reducible repeat (first|refine qN ?_ _|refine qW ?_|refine qL ?_ _));exact BK361.out) hb);have n4_:=qK (qT (by repeat (with_reducible first|exact HB.out|apply qA|apply qD|apply qO|refine qS ?_ GE359.out|refine qS ?_ GE360.out|refine qS ?_ GE361.out)) hb);clear HO364;clear BK359;clear BK360;clear BK361;clear HB;have HO364:=n0_;have BK359:=n1_;have BK360:=n2_;have BK361:=n3_;have HB:=n4_;clear n0_ n1_ n2_ n3_ n4_;(try clear hb);refine hK.out _ _ ⟨(qC BK359.out 0).trans rfl,(qC BK361.out 0).trans rfl,(qC BK361.out 1).trans rfl,(qC BK360.out 0).trans rfl,(qC BK360.out 1).trans rfl⟩ (fun hHeld=>?_);clear hK K;refine norm_ (a':=?_) ?_ ?_;rotate_left
  ·show Act.put _ (some 18) _=_
   simp only [Act.put,sIb,sZ,sS,i64_w,i32_w];rfl
  refine pure_ (i:=12) (N:=some 19) (v:=?_) (a':=?_) #[Y,Y,Y,Y,Y,Y,Y,Y,Y,Y,Y,Y,Y,Z] rfl rfl (any_of HT_.out (by kernel_rfl)) (fun _ _ _ h=>h) (Or.inl ⟨by rfl,?_⟩) ?_ ?_;rotate_left
  ·intro w';go_simp;with_reducible rfl
  rotate_left
  ·simp only [Act.put,sIb,sZ,sS,i64_w,i32_w];rfl
  refine pure_ (i:=13) (N:=some 6) (v:=?_) (a':=?_) #[Y,Y,Y,Y,Y,Y,Y,Y,Y,Y,Y,Y,Y,Y] rfl rfl (any_of HT_.out (by kernel_rfl)) (fun _ _ _ h=>h) (Or.inl ⟨by rfl,?_⟩) ?_ ?_;rotate_left
  ·intro w';go_simp;with_reducible rfl
  rotate_left
  ·simp only [Act.put,sIb,sZ,sS,i64_w,i32_w];rfl
  refine done_ (done_of HT_.out (by kernel_rfl)) ?_;try go_wp2
  go_ret
  exact ⟨by first|rfl|(simp [errW_none,errW_some] <;> rfl)|(simp [*,errW_none,errW_some] <;> rfl),by repeat (first|(with_reducible first|exact HB.out|apply qA|apply qD|apply qO|refine qS ?_ GE359.out|refine qS ?_ GE360.out|refine qS ?_ GE361.out)|exact HB.out)⟩
 ·replace c6:=Bool.eq_false_iff.mpr c6;subst c6;have H1:(some false)=some r:=by rw [if_neg (show ¬ (false=true) by decide)] at H;exact H
  clear H;have H:=H1;clear H1;obtain rfl:=Option.some.inj H;go_enter Try.func151,Try.ntmps151
  try go_wp2_with (first|((with_reducible refine gate_dst (N:=3) rfl ?_);refine box_event ?hg (N:=3) ?hd (cs:=#[.slice A0 l0.length c0]) (t:=22) ?hr ?_;(case hd=>rfl);(case hg=>rfl);(case hr=>(go_simp;try rfl));intro gb359 hg w15 hbox hb;have n0_:=qK (qT (by repeat (with_reducible first|exact HB.out|apply qA|apply qD|apply qO)) hb);have n1_:=qK (hbox);have n2_:=qK ((by rw [hg];exact (qZ (by repeat (with_reducible first|exact HB.out|apply qA|apply qD|apply qO))):w.heap.size≤gb359));have n3_:=qK ((by rw [hg];exact (qZ (by repeat (with_reducible first|exact HB.out|apply qA|apply qD|apply qO))):w.heap.size≤gb359));clear HB;have HB:=n0_;have BK359:=n1_;have GW359:=n2_;have GE359:=n3_;clear n0_ n1_ n2_ n3_;clear hb hbox hg)|((with_reducible refine gate_dst (N:=4) rfl ?_);refine box_event ?hg (N:=4) ?hd (cs:=#[.slice A1_0 l1_0.length c1_0,.slice A1_1 l1_1.length c1_1]) (t:=32) ?hr ?_;(case hd=>rfl);(case hg=>rfl);(case hr=>(go_simp;try rfl));intro gb360 hg w16 hbox hb;have n0_:=qK (qB (g:=gb359) (o:=_) (by (with_reducible repeat (first|refine qN ?_ _|refine qW ?_|refine qL ?_ _));exact BK359.out) hb);have n1_:=qK (qT (by repeat (with_reducible first|exact HB.out|apply qA|apply qD|apply qO|refine qS ?_ GE359.out)) hb);have n2_:=qK (hbox);have n3_:=qK ((by rw [hg];exact (qZ (by repeat (with_reducible first|exact HB.out|apply qA|apply qD|apply qO|refine qS ?_ GE359.out))):w.heap.size≤gb360));have n4_:=qK ((by rw [hg];exact (qZ (by repeat (with_reducible first|exact HB.out|apply qA|apply qD|apply qO|refine qS ?_ GE359.out))):w.heap.size≤gb360));have n5_:=qK ((by rw [hg];exact Nat.ne_of_lt (blk_lt (g:=gb359) (o:=_) (by (with_reducible repeat (first|refine qN ?_ _|refine qW ?_|refine qL ?_ _));exact BK359.out)):gb359 ≠ gb360));have n6_:=qK ((by rw [hg];exact Nat.ne_of_gt (blk_lt (g:=gb359) (o:=_) (by (with_reducible repeat (first|refine qN ?_ _|refine qW ?_|refine qL ?_ _));exact BK359.out)):gb360 ≠ gb359));clear BK359;clear HB;have BK359:=n0_;have HB:=n1_;have BK360:=n2_;have GW360:=n3_;have GE360:=n4_;have NB359_360:=n5_;have NB360_359:=n6_;clear n0_ n1_ n2_ n3_ n4_ n5_ n6_;clear hb hbox hg)|((with_reducible refine gate_dst (N:=5) rfl ?_);refine box_event ?hg (N:=5) ?hd (cs:=#[.slice A2_0 l2_0.length c2_0,.slice A2_1 l2_1.length c2_1]) (t:=32) ?hr ?_;(case hd=>rfl);(case hg=>rfl);(case hr=>(go_simp;try rfl));intro gb361 hg w17 hbox hb;have n0_:=qK (qB (g:=gb359) (o:=_) (by (with_reducible repeat (first|refine qN ?_ _|refine qW ?_|refine qL ?_ _));exact BK359.out) hb);have n1_:=qK (qB (g:=gb360) (o:=_) (by (with_reducible repeat (first|refine qN ?_ _|refine qW ?_|refine qL ?_ _));exact BK360.out) hb);have n2_:=qK (qT (by repeat (with_reducible first|exact HB.out|apply qA|apply qD|apply qO|refine qS ?_ GE359.out|refine qS ?_ GE360.out)) hb);have n3_:=qK (hbox);have n4_:=qK ((by rw [hg];exact (qZ (by repeat (with_reducible first|exact HB.out|apply qA|apply qD|apply qO|refine qS ?_ GE359.out|refine qS ?_ GE360.out))):w.heap.size≤gb361));have n5_:=qK ((by rw [hg];exact (qZ (by repeat (with_reducible first|exact HB.out|apply qA|apply qD|apply qO|refine qS ?_ GE359.out|refine qS ?_ GE360.out))):w.heap.size≤gb361));have n6_:=qK ((by rw [hg];exact Nat.ne_of_lt (blk_lt (g:=gb359) (o:=_) (by (with_reducible repeat (first|refine qN ?_ _|refine qW ?_|refine qL ?_ _));exact BK359.out)):gb359 ≠ gb361));have n7_:=qK ((by rw [hg];exact Nat.ne_of_gt (blk_lt (g:=gb359) (o:=_) (by (with_reducible repeat (first|refine qN ?_ _|refine qW ?_|refine qL ?_ _));exact BK359.out)):gb361 ≠ gb359));have n8_:=qK ((by rw [hg];exact Nat.ne_of_lt (blk_lt (g:=gb360) (o:=_) (by (with_reducible repeat (first|refine qN ?_ _|refine qW ?_|refine qL ?_ _));exact BK360.out)):gb360 ≠ gb361));have n9_:=qK ((by rw [hg];exact Nat.ne_of_gt (blk_lt (g:=gb360) (o:=_) (by (with_reducible repeat (first|refine qN ?_ _|refine qW ?_|refine qL ?_ _));exact BK360.out)):gb361 ≠ gb360));clear BK359;clear BK360;clear HB;have BK359:=n0_;have BK360:=n1_;have HB:=n2_;have BK361:=n3_;have GW361:=n4_;have GE361:=n5_;have NB359_361:=n6_;have NB361_359:=n7_;have NB360_361:=n8_;have NB361_360:=n9_;clear n0_ n1_ n2_ n3_ n4_ n5_ n6_ n7_ n8_ n9_;clear hb hbox hg))
  have n0_:=qK (qW BK359.out);have n1_:=qK (qW BK360.out);have n2_:=qK (qW BK361.out);have n3_:=qK (qO HB.out);clear BK359;clear BK360;clear BK361;clear HB;have BK359:=n0_;have BK360:=n1_;have BK361:=n2_;have HB:=n3_;clear n0_ n1_ n2_ n3_;refine start_ (n:=14) (S:=fun w'=>w'.cell? ⟨gb359,0,none⟩=some (.slice A0 l0.length c0)∧w'.cell? ⟨gb361,0,none⟩=some (.slice A2_0 l2_0.length c2_0)∧w'.cell? ⟨gb361,1,none⟩=some (.slice A2_1 l2_1.length c2_1)∧w'.cell? ⟨gb360,0,none⟩=some (.slice A1_0 l1_0.length c1_0)∧w'.cell? ⟨gb360,1,none⟩=some (.slice A1_1 l1_1.length c1_1)) (ds:=[]) #[Z,Z,Z,Z,Z,Z,Z,Z,Z,Z,Z,Z,Z,Z] (by kernel_rfl) rfl rfl ⟨(qC BK359.out 0).trans rfl,(qC BK361.out 0).trans rfl,(qC BK361.out 1).trans rfl,(qC BK360.out 0).trans rfl,(qC BK360.out 1).trans rfl⟩ (fun hHeld=>?_);refine with_tabW impl_isMap.tab1 impl_isMap.bits1 (fun HT_ HW_=>?_);generalize w17.drew=w18 at BK359 BK360 BK361 HB hHeld ⊢
  refine pure_ (i:=1) (N:=some 8) (v:=?_) (a':=?_) #[Z,Y,Z,Z,Z,Z,Z,Z,Z,Z,Z,Z,Z,Z] rfl rfl (any_of HT_.out (by kernel_rfl)) (fun _ _ _ h=>h) (Or.inl ⟨by rfl,?_⟩) ?_ ?_;rotate_left
  ·intro w';go_simp;with_reducible rfl
  rotate_left
  ·simp only [Act.put,sIb,sZ,sS,i64_w,i32_w];rfl
  refine pure_ (i:=4) (N:=some 11) (v:=?_) (a':=?_) #[Z,Y,Z,Z,Y,Z,Z,Z,Z,Z,Z,Z,Z,Z] rfl rfl (any_of HT_.out (by kernel_rfl)) (fun _ _ _ h=>h) (Or.inl ⟨by rfl,?_⟩) ?_ ?_;rotate_left
  ·intro w';go_simp;with_reducible rfl
  rotate_left
  ·simp only [Act.put,sIb,sZ,sS,i64_w,i32_w];rfl
  refine take_ (i:=0) (N:=some 7) (v:=?_) (a':=?_) #[Y,Y,Z,Z,Y,Z,Z,Z,Z,Z,Z,Z,Z,Z] rfl rfl (take_ofW HT_.out HW_.out (by kernel_rfl)) (fun _ _ _ h=>h) (Or.inl ⟨by rfl,?_⟩) hHeld ?_ ?_;rotate_left
  ·rintro w' ⟨s0,s1,s2,s3,s4⟩;go_simp;with_reducible rfl
  rotate_left
  ·simp only [Act.put,sIb,sZ,sS,i64_w,i32_w];rfl
  refine take_ (i:=2) (N:=some 9) (v:=?_) (a':=?_) #[Y,Y,Y,Z,Y,Z,Z,Z,Z,Z,Z,Z,Z,Z] rfl rfl (take_ofW HT_.out HW_.out (by kernel_rfl)) (fun _ _ _ h=>h) (Or.inl ⟨by rfl,?_⟩) hHeld ?_ ?_;rotate_left
  ·rintro w' ⟨s0,s1,s2,s3,s4⟩;go_simp;with_reducible rfl
  rotate_left
  ·simp only [Act.put,sIb,sZ,sS,i64_w,i32_w];rfl
  refine take_ (i:=5) (N:=some 12) (v:=?_) (a':=?_) #[Y,Y,Y,Z,Y,Y,Z,Z,Z,Z,Z,Z,Z,Z] rfl rfl (take_ofW HT_.out HW_.out (by kernel_rfl)) (fun _ _ _ h=>h) (Or.inl ⟨by rfl,?_⟩) hHeld ?_ ?_;rotate_left
  ·rintro w' ⟨s0,s1,s2,s3,s4⟩;go_simp;with_reducible rfl
  rotate_left
  ·simp only [Act.put,sIb,sZ,sS,i64_w,i32_w];rfl
  refine one_ (i:=3) (N:=some 10) #[Y,Y,Y,Y,Y,Y,Z,Z,Z,Z,Z,Z,Z,Z] rfl rfl (one_of HT_.out (by kernel_rfl)) (by decide) (fun K hK=>?_);refine goes_ Try.func186 (by kernel_rfl) rfl #[.slice A0 l0.length c0,.slice A2_0 l2_0.length c2_0] (by rfl) rfl rfl (by (try simp only [mT,mC,mN]);first|done|rfl|(simp only [lD,lT];rfl)) ?_;with_reducible refine (impl_mapped.calls k _ _ l0 _ _ l2_0 t362 _ ?side1 ?side2 ?side3 ?side4 A4.out).mono ?_
  (case side1=>repeat (first|exact (cB HR0.out HB.out)|(with_reducible first|refine cL ?_ _|refine cN ?_ _|refine cW ?_)));(case side2=>exact HC0.out);(case side3=>repeat (first|exact (cB HR2_0.out HB.out)|(with_reducible first|refine cL ?_ _|refine cN ?_ _|refine cW ?_)));(case side4=>exact HC2_0.out);rintro e w19 ⟨v363,rfl,ho0,hb⟩;refine ⟨_,rfl,?_⟩;have n0_:=qK (Kd.R_lower ho0 (qZ (by repeat (with_reducible first|exact HB.out|apply qA|apply qD|apply qO|refine qS ?_ GE359.out|refine qS ?_ GE360.out|refine qS ?_ GE361.out))));have n1_:=qK (qB (g:=gb359) (o:=_) (by (with_reducible repeat (first|refine qN ?_ _|refine qW ?_|refine qL ?_ _));exact BK359.out) hb);have n2_:=qK (qB (g:=gb360) (o:=_) (by (with_reducible repeat (first|refine qN ?_ _|refine qW ?_|refine qL ?_ _));exact BK360.out) hb);have n3_:=qK (qB (g:=gb361) (o:=_) (by (with_reducible repeat (first|refine qN ?_ _|refine qW ?_|refine qL ?_ _));exact BK361.out) hb);have n4_:=qK (qT (by repeat (with_reducible first|exact HB.out|apply qA|apply qD|apply qO|refine qS ?_ GE359.out|refine qS ?_ GE360.out|refine qS ?_ GE361.out)) hb);clear BK359;clear BK360;clear BK361;clear HB;have HO364:=n0_;have BK359:=n1_;have BK360:=n2_;have BK361:=n3_;have HB:=n4_;clear n0_ n1_ n2_ n3_ n4_;(try clear hb);(try clear ho0);obtain ⟨Ao20,co20,eo20⟩:=Kd.R_slice HO364.out;(first|subst eo20|(injection eo20 with f1_ f2_ f3_;have f4_:=f1_.symm;have f5_:=f3_.symm;clear f1_ f2_ f3_;subst f4_;subst f5_));refine hK.out _ _ ⟨(qC BK359.out 0).trans rfl,(qC BK361.out 0).trans rfl,(qC BK361.out 1).trans rfl,(qC BK360.out 0).trans rfl,(qC BK360.out 1).trans rfl⟩ (fun hHeld=>?_);clear hK K;refine norm_ (a':=?_) ?_ ?_;rotate_left
  ·show Act.put _ (some 10) _=_
   simp only [Act.put,sIb,sZ,sS,i64_w,i32_w];rfl
  refine one_ (i:=6) (N:=some 13) #[Y,Y,Y,Y,Y,Y,Y,Z,Z,Z,Z,Z,Z,Z] rfl rfl (one_of HT_.out (by kernel_rfl)) (by decide) (fun K hK=>?_);refine goes_ Try.func185 (by kernel_rfl) rfl #[.slice Ao20 t362.length co20,.slice A1_0 l1_0.length c1_0] (by rfl) rfl rfl (by (try simp only [mT,mC,mN]);first|done|rfl|(simp only [lD,lT];rfl)) ?_;with_reducible refine (slices_Equal_int_int.calls k _ _ t362 _ _ l1_0 false _ ?side1 ?side2 ?side3 ?side4 A5.out).mono ?_
  (case side1=>repeat (first|exact (Kd.R_reads' HO364.out).2.2|(with_reducible first|refine cL ?_ _|refine cN ?_ _|refine cW ?_)));(case side2=>exact (Kd.R_reads' HO364.out).2.1);(case side3=>repeat (first|exact (cB HR1_0.out HB.out)|(with_reducible first|refine cL ?_ _|refine cN ?_ _|refine cW ?_)));(case side4=>exact HC1_0.out);rintro e w' ⟨rfl,⟨nd,rfl⟩⟩;refine ⟨_,rfl,?_⟩;refine hK.out _ _ ⟨(qC BK359.out 0).trans rfl,(qC BK361.out 0).trans rfl,(qC BK361.out 1).trans rfl,(qC BK360.out 0).trans rfl,(qC BK360.out 1).trans rfl⟩ (fun hHeld=>?_);clear hK K;refine norm_ (a':=?_) ?_ ?_;rotate_left
  ·show Act.put _ (some 13) _=_
   simp only [Act.put,sIb,sZ,sS,i64_w,i32_w];rfl
  refine pure_ (i:=7) (N:=some 14) (v:=?_) (a':=?_) #[Y,Y,Y,Y,Y,Y,Y,Y,Z,Z,Z,Z,Z,Z] rfl rfl (any_of HT_.out (by kernel_rfl)) (fun _ _ _ h=>h) (Or.inl ⟨by rfl,?_⟩) ?_ ?_;rotate_left
  ·intro w';go_simp;with_reducible rfl
  rotate_left
  ·simp only [Act.put,sIb,sZ,sS,i64_w,i32_w];rfl
  refine pure_ (i:=8) (N:=some 15) (v:=undef) (a':=?_) #[Y,Y,Y,Y,Y,Y,Y,Y,Y,Z,Z,Z,Z,Z] rfl rfl (any_of HT_.out (by kernel_rfl)) (fun _ _ _ h=>h) (Or.inr ⟨by rfl,rfl⟩) ?_ ?_;rotate_left
  ·simp only [Act.put,sIb,sZ,sS,i64_w,i32_w];rfl
  refine pure_ (i:=9) (N:=some 16) (v:=undef) (a':=?_) #[Y,Y,Y,Y,Y,Y,Y,Y,Y,Y,Z,Z,Z,Z] rfl rfl (any_of HT_.out (by kernel_rfl)) (fun _ _ _ h=>h) (Or.inr ⟨by rfl,rfl⟩) ?_ ?_;rotate_left
  ·simp only [Act.put,sIb,sZ,sS,i64_w,i32_w];rfl
  refine pure_ (i:=10) (N:=some 17) (v:=undef) (a':=?_) #[Y,Y,Y,Y,Y,Y,Y,Y,Y,Y,Y,Z,Z,Z] rfl rfl (any_of HT_.out (by kernel_rfl)) (fun _ _ _ h=>h) (Or.inr ⟨by rfl,rfl⟩) ?_ ?_;rotate_left
  ·simp only [Act.put,sIb,sZ,sS,i64_w,i32_w];rfl
  refine pure_ (i:=11) (N:=some 18) (v:=undef) (a':=?_) #[Y,Y,Y,Y,Y,Y,Y,Y,Y,Y,Y,Y,Z,Z] rfl rfl (any_of HT_.out (by kernel_rfl)) (fun _ _ _ h=>h) (Or.inr ⟨by rfl,rfl⟩) ?_ ?_;rotate_left
  ·simp only [Act.put,sIb,sZ,sS,i64_w,i32_w];rfl
  refine pure_ (i:=12) (N:=some 19) (v:=?_) (a':=?_) #[Y,Y,Y,Y,Y,Y,Y,Y,Y,Y,Y,Y,Y,Z] rfl rfl (any_of HT_.out (by kernel_rfl)) (fun _ _ _ h=>h) (Or.inl ⟨by rfl,?_⟩) ?_ ?_;rotate_left
  ·intro w';go_simp;with_reducible rfl
  rotate_left
  ·simp only [Act.put,sIb,sZ,sS,i64_w,i32_w];rfl
  refine pure_ (i:=13) (N:=some 6) (v:=?_) (a':=?_) #[Y,Y,Y,Y,Y,Y,Y,Y,Y,Y,Y,Y,Y,Y] rfl rfl (any_of HT_.out (by kernel_rfl)) (fun _ _ _ h=>h) (Or.inl ⟨by rfl,?_⟩) ?_ ?_;rotate_left
  ·intro w';go_simp;with_reducible rfl
  rotate_left
  ·simp only [Act.put,sIb,sZ,sS,i64_w,i32_w];rfl
  refine done_ (done_of HT_.out (by kernel_rfl)) ?_;try go_wp2
  go_ret
  exact ⟨by first|rfl|(simp [errW_none,errW_some] <;> rfl)|(simp [*,errW_none,errW_some] <;> rfl),by repeat (first|(with_reducible first|exact HB.out|apply qA|apply qD|apply qO|refine qS ?_ GE359.out|refine qS ?_ GE360.out|refine qS ?_ GE361.out)|exact HB.out)⟩

/-! ### contained1: function 150 -/
def tryAll (rec : List Int → Option (Bool × List Int)) (v : Nat) : List Int → List Int → Option (Bool × List Int)
  | [], L => some (false, L.set v 0)
  | x :: xs, L => (rec (L.set v x)).bind fun r => if r.1 = true then some (true, r.2) else tryAll rec v xs r.2
theorem tryAll_mono {f g : List Int → Option (Bool × List Int)} (h : ∀ L, LeO (f L) (g L)) (v : Nat) : ∀ xs L, LeO (tryAll f v xs L) (tryAll g v xs L)
  | [], L => LeO.refl _
  | x :: xs, L => LeO.bind (h _) fun r => LeO.ite (LeO.refl _) (tryAll_mono h v xs r.2)
def contained1.f : Nat → List Int → List Int → List Int → List S97 → List Int → List S97 → List Int → Nat → Option (Bool × List Int)
  | 0, _, _, _, _, _, _, _, _ => none
  | k + 1, own, other, ph, pa, qh, qa, L, i =>
    if i = own.length then (impl_isMap.f k L ph pa qh qa).bind fun b => some (b, L)
    else if i < own.length ∧ 0 ≤ rd own i ∧ rd own i < 6 then tryAll (fun M => contained1.f k own other ph pa qh qa M (i + 1)) (rd own i).toNat other L
    else none
theorem contained1.mono : ∀ k own other ph pa qh qa L i, LeO (contained1.f k own other ph pa qh qa L i) (contained1.f (k + 1) own other ph pa qh qa L i)
  | 0, _, _, _, _, _, _, _, _ => LeO.none _
  | k + 1, own, other, ph, pa, qh, qa, L, i => LeO.ite (LeO.bind (impl_isMap.mono _ _ _ _ _ _) fun _ => LeO.refl _) (LeO.ite (tryAll_mono (fun M => contained1.mono k own other ph pa qh qa M (i + 1)) _ _ _) (LeO.refl _))
theorem run_store_func_ {P : Program} {w : World} {a : Addr} {m : Mode} (f : Fn) (c d : Array Value) : (store a (.func f c d) m).run P w = stored P w a (.func f c d) m := run_store P w a _ m rfl
attribute [local go_sem] run_store_func_
/-- What stands while the search runs: all that was there, the two variables, the row of leads. -/
structure InvC (w0 W : World) (B2 B6 g cg : Nat) (fv : Value) (L : List Int) : Prop where
  hb : Below w0.heap.size w0 W
  k2 : W.heap[B2]? = some (.cells #[.slice (some ⟨g, 0, none⟩) 6 cg] 22 (0, 0))
  k6 : W.heap[B6]? = some (.cells #[fv] 134 (0, 0))
  lr : Kd.R (Kd.int .i64) 3 W w0.heap.size (fun k => k = g) (.slice (some ⟨g, 0, none⟩) 6 cg) L
theorem InvC.step {w0 W W' : World} {B2 B6 g cg : Nat} {fv : Value} {L : List Int} (h : InvC w0 W B2 B6 g cg fv L) (hb : Below W.heap.size W W') : InvC w0 W' B2 B6 g cg fv L := ⟨below_step h.hb hb, blk_below h.k2 hb, blk_below h.k6 hb, Kd.R_below h.lr hb⟩
theorem InvC.len {w0 W : World} {B2 B6 g cg : Nat} {fv : Value} {L : List Int} (h : InvC w0 W B2 B6 g cg fv L) : L.length = 6 := (Kd.R_reads' h.lr).1.symm
theorem InvC.put {w0 W : World} {B2 B6 g cg : Nat} {fv : Value} {L : List Int} (h : InvC w0 W B2 B6 g cg fv L) (v x : Int) : InvC w0 (W.setCell ⟨g, v.toNat, none⟩ (.int .i64 x)) B2 B6 g cg fv (L.set v.toNat x) := by
  have hg : w0.heap.size ≤ g := Kd.R_base h.lr g rfl
  obtain ⟨cells, hc⟩ := Kd.R_typed h.lr g rfl
  exact ⟨below_set h.hb hg, blk_far h.k2 (blk_ne h.k2 hc (by decide)) _, blk_far h.k6 (blk_ne h.k6 hc (by decide)) _, (Kd.R_putg h.lr v x).1⟩
set_option maxHeartbeats 8000000 in
set_option maxRecDepth 100000 in
theorem contained1.calls (w0 : World) (B1 B2 B3 B4 B5 B6 g cg : Nat) (A1 : Option Addr) (c1 : Nat) (own : List Int) (A5 : Option Addr) (c5 : Nat) (other : List Int) (A3 : Option Addr) (c3 : Nat) (ph : List Int) (A3' : Option Addr) (c3' : Nat) (pa : List S97) (A4 : Option Addr) (c4 : Nat) (qh : List Int) (A4' : Option Addr) (c4' : Nat) (qa : List S97)
    (k1 : w0.heap[B1]? = some (.cells #[.slice A1 own.length c1] 22 (0, 0))) (r1 : Kd.C (Kd.int .i64) w0 A1 own.length own)
    (k5 : w0.heap[B5]? = some (.cells #[.slice A5 other.length c5] 22 (0, 0))) (r5 : Kd.C (Kd.int .i64) w0 A5 other.length other)
    (k3 : w0.heap[B3]? = some (.cells #[.slice A3 ph.length c3, .slice A3' pa.length c3'] 32 (0, 0))) (r3 : Kd.C (Kd.int .i64) w0 A3 ph.length ph) (q3 : ph.length ≤ c3) (r3' : Kd.C k97 w0 A3' pa.length pa) (q3' : pa.length ≤ c3')
    (k4 : w0.heap[B4]? = some (.cells #[.slice A4 qh.length c4, .slice A4' qa.length c4'] 32 (0, 0))) (r4 : Kd.C (Kd.int .i64) w0 A4 qh.length qh) (q4 : qh.length ≤ c4) (r4' : Kd.C k97 w0 A4' qa.length qa) (q4' : qa.length ≤ c4') :
    ∀ (k i : Nat) (b : Bool) (L L' : List Int) (W : World), InvC w0 W B2 B6 g cg (.func (.func 150) #[] #[.pointer (some ⟨B1, 0, none⟩), .pointer (some ⟨B2, 0, none⟩), .pointer (some ⟨B3, 0, none⟩), .pointer (some ⟨B4, 0, none⟩), .pointer (some ⟨B5, 0, none⟩), .pointer (some ⟨B6, 0, none⟩)]) L → contained1.f k own other ph pa qh qa L i = some (b, L') →
      Calls Try.prog 150 #[.int .i64 (i : Int), .pointer (some ⟨B1, 0, none⟩), .pointer (some ⟨B2, 0, none⟩), .pointer (some ⟨B3, 0, none⟩), .pointer (some ⟨B4, 0, none⟩), .pointer (some ⟨B5, 0, none⟩), .pointer (some ⟨B6, 0, none⟩)] W fun e w' => e = .returned (.bool b) ∧ InvC w0 w' B2 B6 g cg (.func (.func 150) #[] #[.pointer (some ⟨B1, 0, none⟩), .pointer (some ⟨B2, 0, none⟩), .pointer (some ⟨B3, 0, none⟩), .pointer (some ⟨B4, 0, none⟩), .pointer (some ⟨B5, 0, none⟩), .pointer (some ⟨B6, 0, none⟩)]) L' := by
  have hu := Try.underlying32
  have eg := enters_of Try.func150 (by kernel_rfl) rfl
  obtain ⟨fv, hfv⟩ : ∃ fv : Value, fv = (.func (.func 150) #[] #[.pointer (some ⟨B1, 0, none⟩), .pointer (some ⟨B2, 0, none⟩), .pointer (some ⟨B3, 0, none⟩), .pointer (some ⟨B4, 0, none⟩), .pointer (some ⟨B5, 0, none⟩), .pointer (some ⟨B6, 0, none⟩)]) := ⟨_, rfl⟩
  rw [← hfv]
  have HF := Aside0.mk hfv
  have K1 := Aside0.mk k1
  have K3 := Aside0.mk k3
  have K4 := Aside0.mk k4
  have K5 := Aside0.mk k5
  have R1 := Aside0.mk r1
  have R3 := Aside0.mk r3
  have R3' := Aside0.mk r3'
  have R4 := Aside0.mk r4
  have R4' := Aside0.mk r4'
  have R5 := Aside0.mk r5
  have Q3 := Aside0.mk q3
  have Q3' := Aside0.mk q3'
  have Q4 := Aside0.mk q4
  have Q4' := Aside0.mk q4'
  have hown : own.length ≤ 9223372036854775807 := r1.2.1
  have hoth : other.length ≤ 9223372036854775807 := r5.2.1
  have E := Aside0.mk eg
  clear hfv k1 k3 k4 k5 r1 r3 r3' r4 r4' r5 q3 q3' q4 q4' eg
  intro k
  induction k with
  | zero => intro i b L L' W _ h; exact absurd h (by simp [contained1.f])
  | succ k ih =>
    intro i b L L' W hI h
    have IH := Aside0.mk ih
    have HI := Aside0.mk hI
    have x1 : W.cell? ⟨B1, 0, none⟩ = some (.slice A1 own.length c1) := (blk_cell ((hI.hb.block _ (blk_lt K1.out)).trans K1.out) 0).trans rfl
    have x2 : W.cell? ⟨B2, 0, none⟩ = some (.slice (some ⟨g, 0, none⟩) 6 cg) := (blk_cell hI.k2 0).trans rfl
    have x30 : W.cell? ⟨B3, 0, none⟩ = some (.slice A3 ph.length c3) := (blk_cell ((hI.hb.block _ (blk_lt K3.out)).trans K3.out) 0).trans rfl
    have x31 : W.cell? ⟨B3, 1, none⟩ = some (.slice A3' pa.length c3') := (blk_cell ((hI.hb.block _ (blk_lt K3.out)).trans K3.out) 1).trans rfl
    have x40 : W.cell? ⟨B4, 0, none⟩ = some (.slice A4 qh.length c4) := (blk_cell ((hI.hb.block _ (blk_lt K4.out)).trans K4.out) 0).trans rfl
    have x41 : W.cell? ⟨B4, 1, none⟩ = some (.slice A4' qa.length c4') := (blk_cell ((hI.hb.block _ (blk_lt K4.out)).trans K4.out) 1).trans rfl
    have x5 : W.cell? ⟨B5, 0, none⟩ = some (.slice A5 other.length c5) := (blk_cell ((hI.hb.block _ (blk_lt K5.out)).trans K5.out) 0).trans rfl
    clear hI ih
    simp only [contained1.f] at h
    by_cases h1 : i = own.length
    · rw [if_pos h1] at h
      obtain ⟨b', hm, h⟩ := Option.bind_eq_some_iff.1 h
      simp only [Option.some.injEq, Prod.mk.injEq] at h
      obtain ⟨rfl, rfl⟩ := h
      have hcall := impl_isMap.calls k (some ⟨g, 0, none⟩) cg L A3 c3 ph A3' c3' pa A4 c4 qh A4' c4' qa b' W (Kd.R_reads' HI.out.lr).2.2 (by have := (Kd.R_reads' HI.out.lr).2.1; have := HI.out.len; omega) (Kd.C_below R3.out HI.out.hb) Q3.out (Kd.C_below R3'.out HI.out.hb) Q3'.out (Kd.C_below R4.out HI.out.hb) Q4.out (Kd.C_below R4'.out HI.out.hb) Q4'.out hm
      rw [HI.out.len] at hcall
      have HC := Aside0.mk hcall
      clear hcall hm
      have h1b : ((i : Int) == (own.length : Int)) = true := by simp [h1]
      clear h1
      go_enter Try.func150, Try.ntmps150
      go_wp2_with (go_at_call 151; refine HC.out.mono ?_; rintro e w' ⟨rfl, hb'⟩)
      go_ret
      exact ⟨rfl, HI.out.step hb'⟩
    · rw [if_neg h1] at h
      by_cases h2 : i < own.length ∧ 0 ≤ rd own i ∧ rd own i < 6
      case neg => rw [if_neg h2] at h; exact absurd h (by simp)
      rw [if_pos h2] at h
      obtain ⟨h3, h4, h5⟩ := h2
      have h1b : ((i : Int) == (own.length : Int)) = false := by simp; omega
      clear h1
      have HT := Aside0.mk h
      clear h
      obtain ⟨ad, e1, hx1⟩ := at_int R1.out (i : Int) (by omega) (by omega)
      subst e1
      have hx1' : w0.cell? (ad.add i) = some (.int .i64 (rd own i)) := by simpa using hx1
      have HX := Aside0.mk hx1'
      clear hx1 hx1'
      obtain ⟨v, hv⟩ : ∃ v : Int, v = rd own i := ⟨_, rfl⟩
      rw [← hv] at h4 h5 HT HX
      have hv0 := Aside0.mk hv
      clear hv
      go_enter Try.func150, Try.ntmps150
      go_wp2
      clear x1 x2 x30 x31 x40 x41 x5
      go_loopg [10, 21] other.length (fun gg _ s21 wr => ∃ (kk : Nat) (M : List Int), kk ≤ other.length ∧ other.length - kk ≤ gg ∧ s21 = .int .i64 kk ∧ Aside0 (InvC w0 wr B2 B6 g cg fv M) ∧ Aside0 (tryAll (fun M => contained1.f k own other ph pa qh qa M (i + 1)) v.toNat (other.drop kk) M = some (b, L')))
      case atStart => exact ⟨0, L, Nat.zero_le _, by omega, rfl, HI, HT⟩
      case round =>
        obtain ⟨kk, M, hkk, hg, rfl, BW, AA⟩ := hrel
        have x1 : wr.cell? ⟨B1, 0, none⟩ = some (.slice (some ad) own.length c1) := (blk_cell ((BW.out.hb.block _ (blk_lt K1.out)).trans K1.out) 0).trans rfl
        have x2 : wr.cell? ⟨B2, 0, none⟩ = some (.slice (some ⟨g, 0, none⟩) 6 cg) := (blk_cell BW.out.k2 0).trans rfl
        have xo : wr.cell? (ad.add i) = some (.int .i64 v) := (BW.out.hb.cell (World.block_lt_of_cell? w0 _ HX.out)).trans HX.out
        by_cases hlt : kk < other.length
        · have hltz : (kk : Int) < (other.length : Int) := by omega
          obtain ⟨ad5, e5, hx5⟩ := at_int R5.out (kk : Int) (by omega) (by omega)
          cases e5
          replace hx5 : w0.cell? (ad5.add kk) = some (.int .i64 (rd other kk)) := by simpa using hx5
          replace hx5 := (BW.out.hb.cell (World.block_lt_of_cell? w0 _ hx5)).trans hx5
          have hH := AA.out
          rw [List.drop_eq_getElem_cons hlt] at hH
          obtain ⟨⟨b2, M2⟩, hrec, hH⟩ := Option.bind_eq_some_iff.1 hH
          have hx : other[kk] = rd other kk := by simp [rd, hlt]
          rw [hx] at hrec
          have HR := Aside0.mk hrec
          have HH := Aside0.mk hH
          clear hrec hH hx AA
          obtain ⟨x, hxx⟩ : ∃ x : Int, x = rd other (kk : Int) := ⟨_, rfl⟩
          rw [← hxx] at HR hx5
          clear hxx
          obtain ⟨xg, xf⟩ := Kd.R_celln 0 BW.out.lr v h4 (by omega)
          try go_wp2
          refine start_ (n := 8) (S := fun w' => w'.cell? ⟨B1, 0, none⟩ = some (.slice (some ad) own.length c1) ∧ w'.cell? ⟨B2, 0, none⟩ = some (.slice (some ⟨g, 0, none⟩) 6 cg) ∧ w'.cell? (ad.add i) = some (.int .i64 v)) (ds := [7]) #[false, false, false, false, false, false, false, false] (by kernel_rfl) rfl rfl ⟨x1, x2, xo⟩ (fun hHeld => ?_)
          refine pure_ (i := 2) (N := some 27) (v := ?_) (a' := ?_) #[false, false, true, false, false, false, false, false] rfl rfl (by kernel_rfl) (fun _ _ _ h => h) (Or.inl ⟨by rfl, ?_⟩) ?_ ?_
          rotate_left
          · intro w'
            go_simp
            with_reducible rfl
          rotate_left
          · simp only [Act.put, List.setIfInBounds_toArray, List.set_cons_zero, List.set_cons_succ, i64_w, i32_w]
            rfl
          refine pure_ (i := 5) (N := some 30) (v := ?_) (a' := ?_) #[false, false, true, false, false, true, false, false] rfl rfl (by kernel_rfl) (fun _ _ _ h => h) (Or.inl ⟨by rfl, ?_⟩) ?_ ?_
          rotate_left
          · intro w'
            go_simp
            with_reducible rfl
          rotate_left
          · simp only [Act.put, List.setIfInBounds_toArray, List.set_cons_zero, List.set_cons_succ, i64_w, i32_w]
            rfl
          refine take_ (i := 0) (N := some 25) (v := ?_) (a' := ?_) #[true, false, true, false, false, true, false, false] rfl rfl (by kernel_rfl) (fun _ _ _ h => h) (Or.inl ⟨by rfl, ?_⟩) hHeld ?_ ?_
          rotate_left
          · rintro w' ⟨s0, s1, s2⟩
            go_simp
            with_reducible rfl
          rotate_left
          · simp only [Act.put, List.setIfInBounds_toArray, List.set_cons_zero, List.set_cons_succ, i64_w, i32_w]
            rfl
          refine take_ (i := 1) (N := some 26) (v := ?_) (a' := ?_) #[true, true, true, false, false, true, false, false] rfl rfl (by kernel_rfl) (fun _ _ _ h => h) (Or.inl ⟨by rfl, ?_⟩) hHeld ?_ ?_
          rotate_left
          · rintro w' ⟨s0, s1, s2⟩
            go_simp
            with_reducible rfl
          rotate_left
          · simp only [Act.put, List.setIfInBounds_toArray, List.set_cons_zero, List.set_cons_succ, i64_w, i32_w]
            rfl
          refine pure_ (i := 3) (N := some 28) (v := ?_) (a' := ?_) #[true, true, true, true, false, true, false, false] rfl rfl (by kernel_rfl) (fun _ _ _ h => h) (Or.inl ⟨by rfl, ?_⟩) ?_ ?_
          rotate_left
          · intro w'
            go_simp
            with_reducible rfl
          rotate_left
          · simp only [Act.put, List.setIfInBounds_toArray, List.set_cons_zero, List.set_cons_succ, i64_w, i32_w]
            rfl
          refine take_ (i := 4) (N := some 29) (v := ?_) (a' := ?_) #[true, true, true, true, true, true, false, false] rfl rfl (by kernel_rfl) (fun _ _ _ h => h) (Or.inl ⟨by rfl, ?_⟩) hHeld ?_ ?_
          rotate_left
          · rintro w' ⟨s0, s1, s2⟩
            go_simp
            with_reducible rfl
          rotate_left
          · simp only [Act.put, List.setIfInBounds_toArray, List.set_cons_zero, List.set_cons_succ, i64_w, i32_w]
            rfl
          refine pure_ (i := 6) (N := some 31) (v := ?_) (a' := ?_) #[true, true, true, true, true, true, true, false] rfl rfl (by kernel_rfl) (fun _ _ _ h => h) (Or.inl ⟨by rfl, ?_⟩) ?_ ?_
          rotate_left
          · intro w'
            go_simp
            with_reducible rfl
          rotate_left
          · simp only [Act.put, List.setIfInBounds_toArray, List.set_cons_zero, List.set_cons_succ, i64_w, i32_w]
            rfl
          refine last_ (i := 7) (N := none) #[true, true, true, true, true, true, true, true] rfl rfl (by kernel_rfl) (by decide) (fun K hK => ?_)
          refine skip_ (w1 := ?_) (by rfl) rfl ?_ ?_
          rotate_left
          · go_simp
            rfl
          refine hK.out _ _ ?_
          clear hK K
          refine done_ (by kernel_rfl) ?_
          have HP := Aside0.mk ((BW.out.put v x).step (below_drew (Below.refl _ _)))
          clear x1 x2 xo xg xf hx5
          generalize (wr.setCell ⟨g, v.toNat, none⟩ (.int .i64 x)).drew = w2 at HP ⊢
          have x6 : w2.cell? ⟨B6, 0, none⟩ = some fv := (blk_cell HP.out.k6 0).trans rfl
          have hcall := IH.out (i + 1) b2 (M.set v.toNat x) M2 w2 HP.out HR.out
          rw [show ((i + 1 : Nat) : Int) = (i : Int) + 1 by omega] at hcall
          rw [HF.out] at x6
          have HC := Aside0.mk hcall
          clear hcall
          have eg := E.out
          cases b2 with
          | true =>
            go_wp2_with (with_reducible refine HC.out.mono ?_; rintro e w3 ⟨rfl, hI⟩)
            go_ret
            obtain ⟨rfl, rfl⟩ : b = true ∧ L' = M2 := by simpa [eq_comm] using HH.out
            exact ⟨rfl, hI⟩
          | false =>
            go_wp2_with (with_reducible refine HC.out.mono ?_; rintro e w3 ⟨rfl, hI⟩)
            go_roundg (other.length - (kk + 1))
            case measure => omega
            case rel => exact ⟨kk + 1, M2, by omega, by omega, by go_num, ⟨hI⟩, ⟨HH.out⟩⟩
        · have hltz : ¬ (kk : Int) < (other.length : Int) := by omega
          have hH := AA.out
          rw [List.drop_eq_nil_of_le (by omega)] at hH
          obtain ⟨rfl, rfl⟩ : b = false ∧ L' = M.set v.toNat 0 := by simpa [tryAll, eq_comm] using hH
          clear hH AA
          obtain ⟨xg, xf⟩ := Kd.R_celln 0 BW.out.lr v h4 (by omega)
          have HP := Aside0.mk ((BW.out.put v 0).step (below_drew (Below.refl _ _)))
          try go_wp2
          refine start_ (n := 7) (S := fun w' => w'.cell? ⟨B1, 0, none⟩ = some (.slice (some ad) own.length c1) ∧ w'.cell? ⟨B2, 0, none⟩ = some (.slice (some ⟨g, 0, none⟩) 6 cg) ∧ w'.cell? (ad.add i) = some (.int .i64 v)) (ds := [6]) #[false, false, false, false, false, false, false] (by kernel_rfl) rfl rfl ⟨x1, x2, xo⟩ (fun hHeld => ?_)
          refine pure_ (i := 2) (N := some 39) (v := ?_) (a' := ?_) #[false, false, true, false, false, false, false] rfl rfl (by kernel_rfl) (fun _ _ _ h => h) (Or.inl ⟨by rfl, ?_⟩) ?_ ?_
          rotate_left
          · intro w'
            go_simp
            with_reducible rfl
          rotate_left
          · simp only [Act.put, List.setIfInBounds_toArray, List.set_cons_zero, List.set_cons_succ, i64_w, i32_w]
            rfl
          refine take_ (i := 0) (N := some 37) (v := ?_) (a' := ?_) #[true, false, true, false, false, false, false] rfl rfl (by kernel_rfl) (fun _ _ _ h => h) (Or.inl ⟨by rfl, ?_⟩) hHeld ?_ ?_
          rotate_left
          · rintro w' ⟨s0, s1, s2⟩
            go_simp
            with_reducible rfl
          rotate_left
          · simp only [Act.put, List.setIfInBounds_toArray, List.set_cons_zero, List.set_cons_succ, i64_w, i32_w]
            rfl
          refine take_ (i := 1) (N := some 38) (v := ?_) (a' := ?_) #[true, true, true, false, false, false, false] rfl rfl (by kernel_rfl) (fun _ _ _ h => h) (Or.inl ⟨by rfl, ?_⟩) hHeld ?_ ?_
          rotate_left
          · rintro w' ⟨s0, s1, s2⟩
            go_simp
            with_reducible rfl
          rotate_left
          · simp only [Act.put, List.setIfInBounds_toArray, List.set_cons_zero, List.set_cons_succ, i64_w, i32_w]
            rfl
          refine pure_ (i := 3) (N := some 40) (v := ?_) (a' := ?_) #[true, true, true, true, false, false, false] rfl rfl (by kernel_rfl) (fun _ _ _ h => h) (Or.inl ⟨by rfl, ?_⟩) ?_ ?_
          rotate_left
          · intro w'
            go_simp
            with_reducible rfl
          rotate_left
          · simp only [Act.put, List.setIfInBounds_toArray, List.set_cons_zero, List.set_cons_succ, i64_w, i32_w]
            rfl
          refine take_ (i := 4) (N := some 41) (v := ?_) (a' := ?_) #[true, true, true, true, true, false, false] rfl rfl (by kernel_rfl) (fun _ _ _ h => h) (Or.inl ⟨by rfl, ?_⟩) hHeld ?_ ?_
          rotate_left
          · rintro w' ⟨s0, s1, s2⟩
            go_simp
            with_reducible rfl
          rotate_left
          · simp only [Act.put, List.setIfInBounds_toArray, List.set_cons_zero, List.set_cons_succ, i64_w, i32_w]
            rfl
          refine pure_ (i := 5) (N := some 42) (v := ?_) (a' := ?_) #[true, true, true, true, true, true, false] rfl rfl (by kernel_rfl) (fun _ _ _ h => h) (Or.inl ⟨by rfl, ?_⟩) ?_ ?_
          rotate_left
          · intro w'
            go_simp
            with_reducible rfl
          rotate_left
          · simp only [Act.put, List.setIfInBounds_toArray, List.set_cons_zero, List.set_cons_succ, i64_w, i32_w]
            rfl
          refine last_ (i := 6) (N := none) #[true, true, true, true, true, true, true] rfl rfl (by kernel_rfl) (by decide) (fun K hK => ?_)
          refine skip_ (w1 := ?_) (by rfl) rfl ?_ ?_
          rotate_left
          · go_simp
            rfl
          refine hK.out _ _ ?_
          clear hK K
          refine done_ (by kernel_rfl) ?_
          clear x1 x2 xo xg xf
          generalize (wr.setCell ⟨g, v.toNat, none⟩ (.int .i64 0)).drew = w2 at HP ⊢
          go_wp2
          go_ret
          exact ⟨rfl, HP.out⟩

end Go.Proofs.Ytboligpcbndkjaa.PFnExactSameQueries
