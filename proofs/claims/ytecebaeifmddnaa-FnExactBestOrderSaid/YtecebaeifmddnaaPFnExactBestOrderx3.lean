/-
  A text of this claim's own, printed by a program of the session (wip/tools/xprint.py): functions of the program as Lean functions, each with what its call comes to.
-/
import Derived.Test.YtecebaeifmddnaaPFnExactBestOrderx0
namespace Go.Proofs.Ytecebaeifmddnaa.PFnExactBestOrder
open Go.Proofs.YtecebaeifmddnaaW.PrintWords renaming pw_below_drewN → qD, blk_cell → qC, below_drew1 → qO, below_alloc → qA, blk_frozen → qF, below_set → qS, blk_drewN → qN, blk_alloc → qL, blk_drew → qW, below_size → qZ, below_step → qT, blk_below → qB, blk_far → qR, blk_put → qP
open Go.Proofs.YtecebaeifmddnaaW.PrintWords.Aside0 renaming mk → qK
open Bool renaming true → Y, false → Z
open List renaming setIfInBounds_toArray → sIb, set_cons_zero → sZ, set_cons_succ → sS, map_toArray → mT, map_cons → mC, map_nil → mN, length_drop → lD, length_take → lT
open Go.Proofs.YtecebaeifmddnaaW.PrintWords.Kd renaming C_alloc → cL, C_drewN → cN, C_drew → cW, C_below → cB, R_alloc → rL, R_drewN → rN, R_drew → rW, R_below → rB
open Go.RowKit Go.Proofs.YtecebaeifmddnaaW.PrintWords Go.Proofs.YtecebaeifmddnaaW.PrintLast Go.Proofs.YtecebaeifmddnaaW.PrintMore
attribute [local go_sem] max2_int min2_int max_two min_two max_three min_three max_four min_four   -- for this text's walks alone
set_option linter.unusedVariables false
set_option linter.unusedSimpArgs false

/-! ### spec_l12Before: function 54 -/
def spec_l12Before.l0 : Nat→List Int→List Int→Int→Int→Option (Bool)
 | 0,_,_,_,_=>none
 | k + 1,x0,x1,x7,x8=>if x8 < x7 then (if 0≤x8 then (if x8 < (x0.length:Int) then (if x8 < (x1.length:Int) then (if (rd x0 x8)=(rd x1 x8) then (spec_l12Before.l0 k x0 x1 x7 (wrap64 (x8 + 1))) else (some (decide ((rd x0 x8) < (rd x1 x8))))) else (none)) else (none)) else (none)) else (some false)
def spec_l12Before.f (k:Nat) (l0:List Int) (l1:List Int):Option (Bool):=spec_l12Before.l0 k l0 l1 (l0.length:Int) 0
theorem spec_l12Before.mono_l : ∀ k,(∀ y0 y1 y2 y3,LeO (spec_l12Before.l0 k y0 y1 y2 y3) (spec_l12Before.l0 (k + 1) y0 y1 y2 y3))
 | 0=>fun _ _ _ _ r h=>by simp [spec_l12Before.l0] at h
 | k + 1=>by
  have ih0:=spec_l12Before.mono_l k
  ·intro y0 y1 y2 y3;unfold spec_l12Before.l0
   repeat' first
   | (with_reducible exact ih0 _ _ _ _)
   | (with_reducible exact LeO.refl _)
   | (with_reducible exact LeO.none _)
   | (with_reducible refine LeO.ite ?_ ?_)
   | (with_reducible refine LeO.bind ?_ (fun _=>?_))
   | exact ih0 _ _ _ _
   | exact LeO.none _
   | refine LeO.ite ?_ ?_
   | refine LeO.bind ?_ (fun _=>?_)
theorem spec_l12Before.mono : ∀ a0 a1 k,LeO (spec_l12Before.f k a0 a1) (spec_l12Before.f (k + 1) a0 a1):=by
 intro a0 a1 k;have ih0:=spec_l12Before.mono_l k;unfold spec_l12Before.f
 repeat' first
   | (with_reducible exact ih0 _ _ _ _)
   | (with_reducible exact LeO.refl _)
   | (with_reducible exact LeO.none _)
   | (with_reducible refine LeO.ite ?_ ?_)
   | (with_reducible refine LeO.bind ?_ (fun _=>?_))
   | exact ih0 _ _ _ _
   | exact LeO.none _
   | refine LeO.ite ?_ ?_
   | refine LeO.bind ?_ (fun _=>?_)
set_option maxHeartbeats 8000000 in
set_option maxRecDepth 100000 in
theorem spec_l12Before.calls (k:Nat) (A0:Option Addr) (c0:Nat) (l0:List Int) (A1:Option Addr) (c1:Nat) (l1:List Int) (r:Bool) (w:World) (hr0:Kd.C (Kd.int .i64) w A0 l0.length l0) (hc0:l0.length≤c0) (hr1:Kd.C (Kd.int .i64) w A1 l1.length l1) (hc1:l1.length≤c1) (h:spec_l12Before.f k l0 l1=some r) :
  Calls Try.prog 54 #[.slice A0 l0.length c0,.slice A1 l1.length c1] w fun e w'=>e=.returned (.bool r)∧Drawn0 w w':=by
 have HR0:=qK hr0;have HC0:=qK hc0;clear hr0 hc0;have HR1:=qK hr1;have HC1:=qK hc1;clear hr1 hc1;have H:(spec_l12Before.l0 k l0 l1 (l0.length:Int) 0)=some r:=h;clear h;have H':=qK H;clear H;go_enter Try.func54,Try.ntmps54
 go_wp2
 repeat (go_quiet (fail);try go_wp2)
 go_loopg [8] k (fun kq v8 w'=>∃ (x8_1:Int),v8=.int .i64 x8_1∧Aside0 (spec_l12Before.l0 kq l0 l1 (l0.length:Int) x8_1=some r)∧Aside0 (kq≤k)∧Drawn0 w w')
 case atStart=>exact ⟨(0),(by first|rfl|(simp;done)|(simp [*];done)),H',⟨Nat.le_refl _⟩,by repeat (first|exact Drawn0.refl _|apply Drawn0.step)⟩
 case round =>
  clear H';try clear c1
  try clear p2
  obtain ⟨x8_1,rfl,HA,HK1,⟨m1,rfl⟩⟩:=hrel;cases gk with
  | zero=>exact absurd HA.out (by simp [spec_l12Before.l0])
  | succ k1 =>
   have H:=HA.out;clear HA;simp only [spec_l12Before.l0] at H;by_cases c3:x8_1 < (l0.length:Int)
   ·rw [if_pos c3] at H;have c3b0:decide (x8_1 < (l0.length:Int))=true:=decide_eq_true c3;clear c3;by_cases c4:0≤x8_1
    ·rw [if_pos c4] at H;have c4b0:decide (0≤x8_1)=true:=decide_eq_true c4;clear c4;by_cases c5:x8_1 < (l0.length:Int)
     ·rw [if_pos c5] at H;have c5b0:decide (x8_1 < (l0.length:Int))=true:=decide_eq_true c5;clear c5;by_cases c6:x8_1 < (l1.length:Int)
      ·rw [if_pos c6] at H;have c6b0:decide (x8_1 < (l1.length:Int))=true:=decide_eq_true c6;clear c6;by_cases c7:(rd l0 x8_1)=(rd l1 x8_1)
       ·rw [if_pos c7] at H;have c7b0:((rd l0 x8_1) == (rd l1 x8_1))=true:=beq_iff_eq.mpr c7;have c7b1:((rd l0 x8_1) != (rd l1 x8_1))=false:=bne_eq_false_iff_eq.mpr c7;clear c7;have H':=qK H;clear H;have p207:0≤(x8_1:Int):=of_decide_eq_true (by first|(with_reducible assumption)|assumption);have q207:x8_1 < (l0.length:Int):=of_decide_eq_true (by first|(with_reducible assumption)|assumption);obtain ⟨ad207,e207,hx207_0⟩:=Kd.at_int HR0.out x8_1 p207 q207;cases e207
        replace p207:=eq_true p207;replace q207:=eq_true q207;have p208:0≤(x8_1:Int):=of_decide_eq_true (by first|(with_reducible assumption)|assumption);have q208:x8_1 < (l1.length:Int):=of_decide_eq_true (by first|(with_reducible assumption)|assumption);obtain ⟨ad208,e208,hx208_0⟩:=Kd.at_int HR1.out x8_1 p208 q208;cases e208
        replace p208:=eq_true p208;replace q208:=eq_true q208;go_wp2
        repeat (go_quiet (fail);try go_wp2)
        go_roundg k1
        case measure=>have:=HK1.out;omega
        case rel=>exact ⟨(wrap64 (x8_1 + 1)),(by first|rfl|(simp;done)|(simp [*];done)),H',⟨by have:=HK1.out;omega⟩,by repeat (first|exact Drawn0.refl _|apply Drawn0.step)⟩
       ·rw [if_neg c7] at H;have c7b0:((rd l0 x8_1) == (rd l1 x8_1))=false:=beq_eq_false_iff_ne.mpr c7;have c7b1:((rd l0 x8_1) != (rd l1 x8_1))=true:=bne_iff_ne.mpr c7;obtain rfl:=Option.some.inj H;have p207:0≤(x8_1:Int):=of_decide_eq_true (by first|(with_reducible assumption)|assumption);have q207:x8_1 < (l0.length:Int):=of_decide_eq_true (by first|(with_reducible assumption)|assumption);obtain ⟨ad207,e207,hx207_0⟩:=Kd.at_int HR0.out x8_1 p207 q207;cases e207
        replace p207:=eq_true p207;replace q207:=eq_true q207;have p208:0≤(x8_1:Int):=of_decide_eq_true (by first|(with_reducible assumption)|assumption);have q208:x8_1 < (l1.length:Int):=of_decide_eq_true (by first|(with_reducible assumption)|assumption);obtain ⟨ad208,e208,hx208_0⟩:=Kd.at_int HR1.out x8_1 p208 q208;cases e208
        replace p208:=eq_true p208;replace q208:=eq_true q208;have p209:0≤(x8_1:Int):=of_decide_eq_true (by first|(with_reducible assumption)|assumption);have q209:x8_1 < (l0.length:Int):=of_decide_eq_true (by first|(with_reducible assumption)|assumption);obtain ⟨ad209,e209,hx209_0⟩:=Kd.at_int HR0.out x8_1 p209 q209;obtain rfl:ad207=ad209:=(by injection e209);replace p209:=eq_true p209;replace q209:=eq_true q209;have p210:0≤(x8_1:Int):=of_decide_eq_true (by first|(with_reducible assumption)|assumption);have q210:x8_1 < (l1.length:Int):=of_decide_eq_true (by first|(with_reducible assumption)|assumption);obtain ⟨ad210,e210,hx210_0⟩:=Kd.at_int HR1.out x8_1 p210 q210;obtain rfl:ad208=ad210:=(by injection e210);replace p210:=eq_true p210;replace q210:=eq_true q210;go_wp2
        repeat (go_quiet (fail);try go_wp2)
        go_ret
        exact ⟨by first|rfl|(simp;done)|(simp [*];done),by repeat (first|exact Drawn0.refl _|apply Drawn0.step)⟩
      ·rw [if_neg c6] at H;exact absurd H (by simp)
     ·rw [if_neg c5] at H;exact absurd H (by simp)
    ·rw [if_neg c4] at H;exact absurd H (by simp)
   ·rw [if_neg c3] at H;have c3b0:decide (x8_1 < (l0.length:Int))=false:=decide_eq_false c3;clear c3;obtain rfl:=Option.some.inj H;go_wp2
    repeat (go_quiet (fail);try go_wp2)
    go_ret
    exact ⟨by first|rfl|(simp;done)|(simp [*];done),by repeat (first|exact Drawn0.refl _|apply Drawn0.step)⟩

end Go.Proofs.Ytecebaeifmddnaa.PFnExactBestOrder
