/-
  A text of this claim's own, printed by a program of the session (wip/tools/xprint.py): functions of the program as Lean functions, each with what its call comes to.
-/
import Derived.Test.YtecebaeifmddnaaPFnOrderedx0
namespace Go.Proofs.Ytecebaeifmddnaa.PFnOrdered
open Go.Proofs.YtecebaeifmddnaaW.PrintWords renaming pw_below_drewN → qD, blk_cell → qC, below_drew1 → qO, below_alloc → qA, blk_frozen → qF, below_set → qS, blk_drewN → qN, blk_alloc → qL, blk_drew → qW, below_size → qZ, below_step → qT, blk_below → qB, blk_far → qR, blk_put → qP
open Go.Proofs.YtecebaeifmddnaaW.PrintWords.Aside0 renaming mk → qK
open Bool renaming true → Y, false → Z
open List renaming setIfInBounds_toArray → sIb, set_cons_zero → sZ, set_cons_succ → sS, map_toArray → mT, map_cons → mC, map_nil → mN, length_drop → lD, length_take → lT
open Go.Proofs.YtecebaeifmddnaaW.PrintWords.Kd renaming C_alloc → cL, C_drewN → cN, C_drew → cW, C_below → cB, R_alloc → rL, R_drewN → rN, R_drew → rW, R_below → rB
open Go.RowKit Go.Proofs.YtecebaeifmddnaaW.PrintWords Go.Proofs.YtecebaeifmddnaaW.PrintLast Go.Proofs.YtecebaeifmddnaaW.PrintMore
attribute [local go_sem] max2_int min2_int max_two min_two max_three min_three max_four min_four   -- for this text's walks alone
set_option linter.unusedVariables false
set_option linter.unusedSimpArgs false

/-! ### spec_l12Before: function 54 -/
def spec_l12Before.l0 : Nat→List Int→List Int→Int→Int→Option (Bool)
 | 0,_,_,_,_=>none
 | k + 1,x0,x1,x7,x8=>if x8 < x7 then (if 0≤x8 then (if x8 < (x0.length:Int) then (if x8 < (x1.length:Int) then (if (rd x0 x8)=(rd x1 x8) then (spec_l12Before.l0 k x0 x1 x7 (wrap64 (x8 + 1))) else (some (decide ((rd x0 x8) < (rd x1 x8))))) else (none)) else (none)) else (none)) else (some false)
def spec_l12Before.f (k:Nat) (l0:List Int) (l1:List Int):Option (Bool):=spec_l12Before.l0 k l0 l1 (l0.length:Int) 0
theorem spec_l12Before.mono_l : ∀ k,(∀ y0 y1 y2 y3,LeO (spec_l12Before.l0 k y0 y1 y2 y3) (spec_l12Before.l0 (k + 1) y0 y1 y2 y3))
 | 0=>fun _ _ _ _ r h=>by simp [spec_l12Before.l0] at h
 | k + 1=>by
  have aa:=spec_l12Before.mono_l k
  ·intro y0 y1 y2 y3;unfold spec_l12Before.l0
   repeat' first
   | (with_reducible exact aa _ _ _ _)
   | (with_reducible exact LeO.refl _)
   | (with_reducible exact LeO.none _)
   | (with_reducible refine LeO.ite ?_ ?_)
   | (with_reducible refine LeO.bind ?_ (fun _=>?_))
   | exact aa _ _ _ _
   | exact LeO.none _
   | refine LeO.ite ?_ ?_
   | refine LeO.bind ?_ (fun _=>?_)
theorem spec_l12Before.mono : ∀ a0 a1 k,LeO (spec_l12Before.f k a0 a1) (spec_l12Before.f (k + 1) a0 a1):=by
 intro a0 a1 k;have aa:=spec_l12Before.mono_l k;unfold spec_l12Before.f
 repeat' first
   | (with_reducible exact aa _ _ _ _)
   | (with_reducible exact LeO.refl _)
   | (with_reducible exact LeO.none _)
   | (with_reducible refine LeO.ite ?_ ?_)
   | (with_reducible refine LeO.bind ?_ (fun _=>?_))
   | exact aa _ _ _ _
   | exact LeO.none _
   | refine LeO.ite ?_ ?_
   | refine LeO.bind ?_ (fun _=>?_)
set_option maxHeartbeats 8000000 in
set_option maxRecDepth 100000 in
theorem spec_l12Before.calls (k:Nat) (A0:Option Addr) (c0:Nat) (l0:List Int) (A1:Option Addr) (c1:Nat) (l1:List Int) (r:Bool) (w:World) (aC:Kd.C (Kd.int .i64) w A0 l0.length l0) (aD:l0.length≤c0) (aE:Kd.C (Kd.int .i64) w A1 l1.length l1) (aF:l1.length≤c1) (h:spec_l12Before.f k l0 l1=some r) :
  Calls Try.prog 54 #[.slice A0 l0.length c0,.slice A1 l1.length c1] w fun e w'=>e=.returned (.bool r)∧Drawn0 w w':=by
 have av:=qK aC;have aK:=qK aD;clear aC aD;have aw:=qK aE;have aL:=qK aF;clear aE aF;have H:(spec_l12Before.l0 k l0 l1 (l0.length:Int) 0)=some r:=h;clear h;have H':=qK H;clear H;go_enter Try.func54,Try.ntmps54
 go_wp2
 repeat (go_quiet (fail);try go_wp2)
 go_loopg [8] k (fun kq v8 w'=>∃ (aa:Int),v8=.int .i64 aa∧Aside0 (spec_l12Before.l0 kq l0 l1 (l0.length:Int) aa=some r)∧Aside0 (kq≤k)∧Drawn0 w w')
 case atStart=>exact ⟨(0),(by rfl),H',⟨Nat.le_refl _⟩,by repeat (first|exact Drawn0.refl _|apply Drawn0.step)⟩
 case round =>
  clear H';try clear c1
  try clear p2
  obtain ⟨aa,rfl,HA,aG,⟨m1,rfl⟩⟩:=hrel;cases gk with
  | zero=>exact absurd HA.out (by simp [spec_l12Before.l0])
  | succ k1 =>
   have H:=HA.out;clear HA;simp only [spec_l12Before.l0] at H;by_cases c3:aa < (l0.length:Int)
   ·rw [if_pos c3] at H;have ax:decide (aa < (l0.length:Int))=true:=decide_eq_true c3;clear c3;by_cases c4:0≤aa
    ·rw [if_pos c4] at H;have aH:decide (0≤aa)=true:=decide_eq_true c4;clear c4;by_cases c5:aa < (l0.length:Int)
     ·rw [if_pos c5] at H;have aI:decide (aa < (l0.length:Int))=true:=decide_eq_true c5;clear c5;by_cases c6:aa < (l1.length:Int)
      ·rw [if_pos c6] at H;have aJ:decide (aa < (l1.length:Int))=true:=decide_eq_true c6;clear c6;by_cases c7:(rd l0 aa)=(rd l1 aa)
       ·rw [if_pos c7] at H;have ay:((rd l0 aa) == (rd l1 aa))=true:=beq_iff_eq.mpr c7;have az:((rd l0 aa) != (rd l1 aa))=false:=bne_eq_false_iff_eq.mpr c7;clear c7;have H':=qK H;clear H;have ab:0≤(aa:Int):=of_decide_eq_true (by assumption);have ac:aa < (l0.length:Int):=of_decide_eq_true (by assumption);obtain ⟨ah,aj,af⟩:=Kd.at_int av.out aa ab ac;cases aj
        replace ab:=eq_true ab;replace ac:=eq_true ac;have ad:0≤(aa:Int):=of_decide_eq_true (by assumption);have ae:aa < (l1.length:Int):=of_decide_eq_true (by assumption);obtain ⟨ai,ak,ag⟩:=Kd.at_int aw.out aa ad ae;cases ak
        replace ad:=eq_true ad;replace ae:=eq_true ae;go_wp2
        repeat (go_quiet (fail);try go_wp2)
        go_roundg k1
        case measure=>have:=aG.out;omega
        case rel=>exact ⟨(wrap64 (aa + 1)),(by rfl),H',⟨by have:=aG.out;omega⟩,by repeat (first|exact Drawn0.refl _|apply Drawn0.step)⟩
       ·rw [if_neg c7] at H;have ay:((rd l0 aa) == (rd l1 aa))=false:=beq_eq_false_iff_ne.mpr c7;have az:((rd l0 aa) != (rd l1 aa))=true:=bne_iff_ne.mpr c7;obtain rfl:=Option.some.inj H;have ab:0≤(aa:Int):=of_decide_eq_true (by assumption);have ac:aa < (l0.length:Int):=of_decide_eq_true (by assumption);obtain ⟨ah,aj,af⟩:=Kd.at_int av.out aa ab ac;cases aj
        replace ab:=eq_true ab;replace ac:=eq_true ac;have ad:0≤(aa:Int):=of_decide_eq_true (by assumption);have ae:aa < (l1.length:Int):=of_decide_eq_true (by assumption);obtain ⟨ai,ak,ag⟩:=Kd.at_int aw.out aa ad ae;cases ak
        replace ad:=eq_true ad;replace ae:=eq_true ae;have al:0≤(aa:Int):=of_decide_eq_true (by assumption);have am:aa < (l0.length:Int):=of_decide_eq_true (by assumption);obtain ⟨ap,aA,ar⟩:=Kd.at_int av.out aa al am;obtain rfl:ah=ap:=(by injection aA);replace al:=eq_true al;replace am:=eq_true am;have an:0≤(aa:Int):=of_decide_eq_true (by assumption);have ao:aa < (l1.length:Int):=of_decide_eq_true (by assumption);obtain ⟨aq,aB,au⟩:=Kd.at_int aw.out aa an ao;obtain rfl:ai=aq:=(by injection aB);replace an:=eq_true an;replace ao:=eq_true ao;go_wp2
        repeat (go_quiet (fail);try go_wp2)
        go_ret
        exact ⟨by first|rfl|(simp;done)|(simp [*];done),by repeat (first|exact Drawn0.refl _|apply Drawn0.step)⟩
      ·rw [if_neg c6] at H;exact absurd H (by simp)
     ·rw [if_neg c5] at H;exact absurd H (by simp)
    ·rw [if_neg c4] at H;exact absurd H (by simp)
   ·rw [if_neg c3] at H;have ax:decide (aa < (l0.length:Int))=false:=decide_eq_false c3;clear c3;obtain rfl:=Option.some.inj H;go_wp2
    repeat (go_quiet (fail);try go_wp2)
    go_ret
    exact ⟨by first|rfl|(simp;done)|(simp [*];done),by repeat (first|exact Drawn0.refl _|apply Drawn0.step)⟩

end Go.Proofs.Ytecebaeifmddnaa.PFnOrdered
