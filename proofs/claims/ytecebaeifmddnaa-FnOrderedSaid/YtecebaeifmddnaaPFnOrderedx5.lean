/-
  A text of this claim's own, printed by a program of the session (wip/tools/xprint.py): functions of the program as Lean functions, each with what its call comes to.
-/
import Derived.Test.YtecebaeifmddnaaPFnOrderedx0
import Derived.Test.YtecebaeifmddnaaPFnOrderedx1
import Derived.Test.YtecebaeifmddnaaPFnOrderedx4
namespace Go.Proofs.Ytecebaeifmddnaa.PFnOrdered
open Go.Proofs.YtecebaeifmddnaaW.PrintWords renaming pw_below_drewN → qD, blk_cell → qC, below_drew1 → qO, below_alloc → qA, blk_frozen → qF, below_set → qS, blk_drewN → qN, blk_alloc → qL, blk_drew → qW, below_size → qZ, below_step → qT, blk_below → qB, blk_far → qR, blk_put → qP
open Go.Proofs.YtecebaeifmddnaaW.PrintWords.Aside0 renaming mk → qK
open Bool renaming true → Y, false → Z
open List renaming setIfInBounds_toArray → sIb, set_cons_zero → sZ, set_cons_succ → sS, map_toArray → mT, map_cons → mC, map_nil → mN, length_drop → lD, length_take → lT
open Go.Proofs.YtecebaeifmddnaaW.PrintWords.Kd renaming C_alloc → cL, C_drewN → cN, C_drew → cW, C_below → cB, R_alloc → rL, R_drewN → rN, R_drew → rW, R_below → rB
open Go.RowKit Go.Proofs.YtecebaeifmddnaaW.PrintWords Go.Proofs.YtecebaeifmddnaaW.PrintLast Go.Proofs.YtecebaeifmddnaaW.PrintMore
attribute [local go_sem] max2_int min2_int max_two min_two max_three min_three max_four min_four   -- for this text's walks alone
set_option linter.unusedVariables false
set_option linter.unusedSimpArgs false

/-! ### cmp_Compare_int: function 68 -/
def cmp_Compare_int.f (a0:Int) (a1:Int):Option (Int):=(cmp_isNaN_int.f a0).bind fun t233=>((cmp_isNaN_int.f a1).bind fun t234=>(if t233=true then (if t234=true then (some 0) else (some (-1))) else (if t234=true then (some 1) else (if a0 < a1 then (some (-1)) else (if a0 > a1 then (some 1) else (some 0))))))
set_option maxHeartbeats 8000000 in
set_option maxRecDepth 100000 in
theorem cmp_Compare_int.calls (a0:Int) (a1:Int) (r:Int) (w:World) (h:cmp_Compare_int.f a0 a1=some r) :
  Calls Try.prog 68 #[.int .i64 a0,.int .i64 a1] w fun e w'=>e=.returned (.int .i64 r)∧Drawn0 w w':=by
 have H:((cmp_isNaN_int.f a0).bind fun ab=>((cmp_isNaN_int.f a1).bind fun aa=>(if ab=true then (if aa=true then (some 0) else (some (-1))) else (if aa=true then (some 1) else (if a0 < a1 then (some (-1)) else (if a0 > a1 then (some 1) else (some 0)))))))=some r:=h;clear h;replace H:=Option.bind_eq_some_iff.mp H;obtain ⟨ab,ae,H⟩:=H;replace H:((cmp_isNaN_int.f a1).bind fun aa=>(if ab=true then (if aa=true then (some 0) else (some (-1))) else (if aa=true then (some 1) else (if a0 < a1 then (some (-1)) else (if a0 > a1 then (some 1) else (some 0))))))=some r:=H;have A3:=qK ae;clear ae;replace H:=Option.bind_eq_some_iff.mp H;obtain ⟨aa,af,H⟩:=H;replace H:(if ab=true then (if aa=true then (some 0) else (some (-1))) else (if aa=true then (some 1) else (if a0 < a1 then (some (-1)) else (if a0 > a1 then (some 1) else (some 0)))))=some r:=H;have A4:=qK af;clear af;by_cases c5:ab=true
 ·subst c5;have H1:(if aa=true then (some 0) else (some (-1)))=some r:=by rw [if_pos rfl] at H;exact H
  clear H;have H:=H1;clear H1;by_cases c6:aa=true
  ·subst c6;have H1:(some 0)=some r:=by rw [if_pos rfl] at H;exact H
   clear H;have H:=H1;clear H1;obtain rfl:=Option.some.inj H;go_enter Try.func68,Try.ntmps68
   go_wp2_with (first|((with_reducible refine gate_callee (f:=72) rfl ?_);refine goesL_ (some 8) rfl rfl Try.func72 (by kernel_rfl) rfl #[.int .i64 a0] rfl (by (try simp only [mT,mC,mN]);first|done|rfl|(simp only [lD,lT];rfl)) ?_;(with_reducible refine (cmp_isNaN_int.calls a0 true _ A3.out).mono ?_);rintro e w' ⟨rfl,⟨nd,rfl⟩⟩;refine ⟨_,rfl,?_⟩)|((with_reducible refine gate_callee (f:=72) rfl ?_);refine goesL_ (some 10) rfl rfl Try.func72 (by kernel_rfl) rfl #[.int .i64 a1] rfl (by (try simp only [mT,mC,mN]);first|done|rfl|(simp only [lD,lT];rfl)) ?_;(with_reducible refine (cmp_isNaN_int.calls a1 true _ A4.out).mono ?_);rintro e w' ⟨rfl,⟨nd,rfl⟩⟩;refine ⟨_,rfl,?_⟩))
   go_ret
   exact ⟨by first|rfl|(simp;done)|(simp [*];done),by repeat (first|exact Drawn0.refl _|apply Drawn0.step)⟩
  ·replace c6:=Bool.eq_false_iff.mpr c6;subst c6;have H1:(some (-1))=some r:=by rw [if_neg (show ¬ (false=true) by decide)] at H;exact H
   clear H;have H:=H1;clear H1;obtain rfl:=Option.some.inj H;go_enter Try.func68,Try.ntmps68
   go_wp2_with (first|((with_reducible refine gate_callee (f:=72) rfl ?_);refine goesL_ (some 8) rfl rfl Try.func72 (by kernel_rfl) rfl #[.int .i64 a0] rfl (by (try simp only [mT,mC,mN]);first|done|rfl|(simp only [lD,lT];rfl)) ?_;(with_reducible refine (cmp_isNaN_int.calls a0 true _ A3.out).mono ?_);rintro e w' ⟨rfl,⟨nd,rfl⟩⟩;refine ⟨_,rfl,?_⟩)|((with_reducible refine gate_callee (f:=72) rfl ?_);refine goesL_ (some 10) rfl rfl Try.func72 (by kernel_rfl) rfl #[.int .i64 a1] rfl (by (try simp only [mT,mC,mN]);first|done|rfl|(simp only [lD,lT];rfl)) ?_;(with_reducible refine (cmp_isNaN_int.calls a1 false _ A4.out).mono ?_);rintro e w' ⟨rfl,⟨nd,rfl⟩⟩;refine ⟨_,rfl,?_⟩))
   go_ret
   exact ⟨by first|rfl|(simp;done)|(simp [*];done),by repeat (first|exact Drawn0.refl _|apply Drawn0.step)⟩
 ·replace c5:=Bool.eq_false_iff.mpr c5;subst c5;have H1:(if aa=true then (some 1) else (if a0 < a1 then (some (-1)) else (if a0 > a1 then (some 1) else (some 0))))=some r:=by rw [if_neg (show ¬ (false=true) by decide)] at H;exact H
  clear H;have H:=H1;clear H1;by_cases c7:aa=true
  ·subst c7;have H1:(some 1)=some r:=by rw [if_pos rfl] at H;exact H
   clear H;have H:=H1;clear H1;obtain rfl:=Option.some.inj H;go_enter Try.func68,Try.ntmps68
   go_wp2_with (first|((with_reducible refine gate_callee (f:=72) rfl ?_);refine goesL_ (some 8) rfl rfl Try.func72 (by kernel_rfl) rfl #[.int .i64 a0] rfl (by (try simp only [mT,mC,mN]);first|done|rfl|(simp only [lD,lT];rfl)) ?_;(with_reducible refine (cmp_isNaN_int.calls a0 false _ A3.out).mono ?_);rintro e w' ⟨rfl,⟨nd,rfl⟩⟩;refine ⟨_,rfl,?_⟩)|((with_reducible refine gate_callee (f:=72) rfl ?_);refine goesL_ (some 10) rfl rfl Try.func72 (by kernel_rfl) rfl #[.int .i64 a1] rfl (by (try simp only [mT,mC,mN]);first|done|rfl|(simp only [lD,lT];rfl)) ?_;(with_reducible refine (cmp_isNaN_int.calls a1 true _ A4.out).mono ?_);rintro e w' ⟨rfl,⟨nd,rfl⟩⟩;refine ⟨_,rfl,?_⟩))
   go_ret
   exact ⟨by first|rfl|(simp;done)|(simp [*];done),by repeat (first|exact Drawn0.refl _|apply Drawn0.step)⟩
  ·replace c7:=Bool.eq_false_iff.mpr c7;subst c7;have H1:(if a0 < a1 then (some (-1)) else (if a0 > a1 then (some 1) else (some 0)))=some r:=by rw [if_neg (show ¬ (false=true) by decide)] at H;exact H
   clear H;have H:=H1;clear H1;by_cases c8:a0 < a1
   ·rw [if_pos c8] at H;have ac:decide (a0 < a1)=true:=decide_eq_true c8;clear c8;obtain rfl:=Option.some.inj H;go_enter Try.func68,Try.ntmps68
    go_wp2_with (first|((with_reducible refine gate_callee (f:=72) rfl ?_);refine goesL_ (some 8) rfl rfl Try.func72 (by kernel_rfl) rfl #[.int .i64 a0] rfl (by (try simp only [mT,mC,mN]);first|done|rfl|(simp only [lD,lT];rfl)) ?_;(with_reducible refine (cmp_isNaN_int.calls a0 false _ A3.out).mono ?_);rintro e w' ⟨rfl,⟨nd,rfl⟩⟩;refine ⟨_,rfl,?_⟩)|((with_reducible refine gate_callee (f:=72) rfl ?_);refine goesL_ (some 10) rfl rfl Try.func72 (by kernel_rfl) rfl #[.int .i64 a1] rfl (by (try simp only [mT,mC,mN]);first|done|rfl|(simp only [lD,lT];rfl)) ?_;(with_reducible refine (cmp_isNaN_int.calls a1 false _ A4.out).mono ?_);rintro e w' ⟨rfl,⟨nd,rfl⟩⟩;refine ⟨_,rfl,?_⟩))
    go_ret
    exact ⟨by first|rfl|(simp;done)|(simp [*];done),by repeat (first|exact Drawn0.refl _|apply Drawn0.step)⟩
   ·rw [if_neg c8] at H;have ac:decide (a0 < a1)=false:=decide_eq_false c8;clear c8;by_cases c9:a0 > a1
    ·rw [if_pos c9] at H;have ad:decide (a1 < a0)=true:=decide_eq_true c9;clear c9;obtain rfl:=Option.some.inj H;go_enter Try.func68,Try.ntmps68
     go_wp2_with (first|((with_reducible refine gate_callee (f:=72) rfl ?_);refine goesL_ (some 8) rfl rfl Try.func72 (by kernel_rfl) rfl #[.int .i64 a0] rfl (by (try simp only [mT,mC,mN]);first|done|rfl|(simp only [lD,lT];rfl)) ?_;(with_reducible refine (cmp_isNaN_int.calls a0 false _ A3.out).mono ?_);rintro e w' ⟨rfl,⟨nd,rfl⟩⟩;refine ⟨_,rfl,?_⟩)|((with_reducible refine gate_callee (f:=72) rfl ?_);refine goesL_ (some 10) rfl rfl Try.func72 (by kernel_rfl) rfl #[.int .i64 a1] rfl (by (try simp only [mT,mC,mN]);first|done|rfl|(simp only [lD,lT];rfl)) ?_;(with_reducible refine (cmp_isNaN_int.calls a1 false _ A4.out).mono ?_);rintro e w' ⟨rfl,⟨nd,rfl⟩⟩;refine ⟨_,rfl,?_⟩))
     go_ret
     exact ⟨by first|rfl|(simp;done)|(simp [*];done),by repeat (first|exact Drawn0.refl _|apply Drawn0.step)⟩
    ·rw [if_neg c9] at H;have ad:decide (a1 < a0)=false:=decide_eq_false c9;clear c9;obtain rfl:=Option.some.inj H;go_enter Try.func68,Try.ntmps68
     go_wp2_with (first|((with_reducible refine gate_callee (f:=72) rfl ?_);refine goesL_ (some 8) rfl rfl Try.func72 (by kernel_rfl) rfl #[.int .i64 a0] rfl (by (try simp only [mT,mC,mN]);first|done|rfl|(simp only [lD,lT];rfl)) ?_;(with_reducible refine (cmp_isNaN_int.calls a0 false _ A3.out).mono ?_);rintro e w' ⟨rfl,⟨nd,rfl⟩⟩;refine ⟨_,rfl,?_⟩)|((with_reducible refine gate_callee (f:=72) rfl ?_);refine goesL_ (some 10) rfl rfl Try.func72 (by kernel_rfl) rfl #[.int .i64 a1] rfl (by (try simp only [mT,mC,mN]);first|done|rfl|(simp only [lD,lT];rfl)) ?_;(with_reducible refine (cmp_isNaN_int.calls a1 false _ A4.out).mono ?_);rintro e w' ⟨rfl,⟨nd,rfl⟩⟩;refine ⟨_,rfl,?_⟩))
     go_ret
     exact ⟨by first|rfl|(simp;done)|(simp [*];done),by repeat (first|exact Drawn0.refl _|apply Drawn0.step)⟩

/-! ### slices_Compare_int_int: function 58 -/
def slices_Compare_int_int.l0 : Nat→List Int→List Int→List Int→Int→Int→Option (Int)
 | 0,_,_,_,_,_=>none
 | k + 1,x0,x1,x9,x10,x11=>if x11 < x10 then (if 0≤x11 then (if x11 < (x9.length:Int) then (if x11 ≥ (x1.length:Int) then (some 1) else (if x11 < (x1.length:Int) then ((cmp_Compare_int.f (rd x9 x11) (rd x1 x11)).bind fun t237=>(if t237=0 then (slices_Compare_int_int.l0 k x0 x1 x9 x10 (wrap64 (x11 + 1))) else (some t237))) else (none))) else (none)) else (none)) else (if (x0.length:Int) < (x1.length:Int) then (some (-1)) else (some 0))
def slices_Compare_int_int.f (k:Nat) (l0:List Int) (l1:List Int):Option (Int):=slices_Compare_int_int.l0 k l0 l1 l0 (l0.length:Int) 0
theorem slices_Compare_int_int.mono_l : ∀ k,(∀ y0 y1 y2 y3 y4,LeO (slices_Compare_int_int.l0 k y0 y1 y2 y3 y4) (slices_Compare_int_int.l0 (k + 1) y0 y1 y2 y3 y4))
 | 0=>fun _ _ _ _ _ r h=>by simp [slices_Compare_int_int.l0] at h
 | k + 1=>by
  have aa:=slices_Compare_int_int.mono_l k
  ·intro y0 y1 y2 y3 y4;unfold slices_Compare_int_int.l0
   repeat' first
   | (with_reducible exact aa _ _ _ _ _)
   | (with_reducible exact LeO.refl _)
   | (with_reducible exact LeO.none _)
   | (with_reducible refine LeO.ite ?_ ?_)
   | (with_reducible refine LeO.bind ?_ (fun _=>?_))
   | exact aa _ _ _ _ _
   | exact LeO.none _
   | refine LeO.ite ?_ ?_
   | refine LeO.bind ?_ (fun _=>?_)
theorem slices_Compare_int_int.mono : ∀ a0 a1 k,LeO (slices_Compare_int_int.f k a0 a1) (slices_Compare_int_int.f (k + 1) a0 a1):=by
 intro a0 a1 k;have aa:=slices_Compare_int_int.mono_l k;unfold slices_Compare_int_int.f
 repeat' first
   | (with_reducible exact aa _ _ _ _ _)
   | (with_reducible exact LeO.refl _)
   | (with_reducible exact LeO.none _)
   | (with_reducible refine LeO.ite ?_ ?_)
   | (with_reducible refine LeO.bind ?_ (fun _=>?_))
   | exact aa _ _ _ _ _
   | exact LeO.none _
   | refine LeO.ite ?_ ?_
   | refine LeO.bind ?_ (fun _=>?_)
set_option maxHeartbeats 8000000 in
set_option maxRecDepth 100000 in
theorem slices_Compare_int_int.calls (k:Nat) (A0:Option Addr) (c0:Nat) (l0:List Int) (A1:Option Addr) (c1:Nat) (l1:List Int) (r:Int) (w:World) (av:Kd.C (Kd.int .i64) w A0 l0.length l0) (aw:l0.length≤c0) (ax:Kd.C (Kd.int .i64) w A1 l1.length l1) (ay:l1.length≤c1) (h:slices_Compare_int_int.f k l0 l1=some r) :
  Calls Try.prog 58 #[.slice A0 l0.length c0,.slice A1 l1.length c1] w fun e w'=>e=.returned (.int .i64 r)∧Drawn0 w w':=by
 have ao:=qK av;have aI:=qK aw;clear av aw;have az:=qK ax;have aJ:=qK ay;clear ax ay;have H:(slices_Compare_int_int.l0 k l0 l1 l0 (l0.length:Int) 0)=some r:=h;clear h;have H':=qK H;clear H;go_enter Try.func58,Try.ntmps58
 go_wp2
 go_loopg [11] k (fun kq aD w'=>∃ (aa:Int),aD=.int .i64 aa∧Aside0 (slices_Compare_int_int.l0 kq l0 l1 l0 (l0.length:Int) aa=some r)∧Aside0 (kq≤k)∧Drawn0 w w')
 case atStart=>exact ⟨(0),(by rfl),H',⟨Nat.le_refl _⟩,by repeat (first|exact Drawn0.refl _|apply Drawn0.step)⟩
 case round =>
  clear H';try clear c1
  try clear p2
  obtain ⟨aa,rfl,HA,aA,⟨m1,rfl⟩⟩:=hrel;cases gk with
  | zero=>exact absurd HA.out (by simp [slices_Compare_int_int.l0])
  | succ k1 =>
   have H:=HA.out;clear HA;simp only [slices_Compare_int_int.l0] at H;by_cases c3:aa < (l0.length:Int)
   ·rw [if_pos c3] at H;have ap:decide (aa < (l0.length:Int))=true:=decide_eq_true c3;clear c3;by_cases c4:0≤aa
    ·rw [if_pos c4] at H;have aE:decide (0≤aa)=true:=decide_eq_true c4;clear c4;by_cases c5:aa < (l0.length:Int)
     ·rw [if_pos c5] at H;have aG:decide (aa < (l0.length:Int))=true:=decide_eq_true c5;clear c5;by_cases c6:aa ≥ (l1.length:Int)
      ·rw [if_pos c6] at H;have aq:decide ((l1.length:Int)≤aa)=true:=decide_eq_true c6;clear c6;obtain rfl:=Option.some.inj H;have ab:0≤(aa:Int):=of_decide_eq_true (by assumption);have ac:aa < (l0.length:Int):=of_decide_eq_true (by assumption);obtain ⟨aj,ah,ag⟩:=Kd.at_int ao.out aa ab ac;cases ah
       replace ab:=eq_true ab;replace ac:=eq_true ac;go_wp2
       go_ret
       exact ⟨by first|rfl|(simp;done)|(simp [*];done),by repeat (first|exact Drawn0.refl _|apply Drawn0.step)⟩
      ·rw [if_neg c6] at H;have aq:decide ((l1.length:Int)≤aa)=false:=decide_eq_false c6;clear c6;by_cases c7:aa < (l1.length:Int)
       ·rw [if_pos c7] at H;have aH:decide (aa < (l1.length:Int))=true:=decide_eq_true c7;clear c7;replace H:=Option.bind_eq_some_iff.mp H;obtain ⟨ad,aC,H⟩:=H;replace H:(if ad=0 then (slices_Compare_int_int.l0 k1 l0 l1 l0 (l0.length:Int) (wrap64 (aa + 1))) else (some ad))=some r:=H;have A8:=qK aC;clear aC;by_cases c9:ad=0
        ·rw [if_pos c9] at H;have ar:(ad == 0)=true:=beq_iff_eq.mpr c9;have au:(ad != 0)=false:=bne_eq_false_iff_eq.mpr c9;clear c9;have H':=qK H;clear H;have ab:0≤(aa:Int):=of_decide_eq_true (by assumption);have ac:aa < (l0.length:Int):=of_decide_eq_true (by assumption);obtain ⟨aj,ah,ag⟩:=Kd.at_int ao.out aa ab ac;cases ah
         replace ab:=eq_true ab;replace ac:=eq_true ac;have ae:0≤(aa:Int):=of_decide_eq_true (by assumption);have af:aa < (l1.length:Int):=of_decide_eq_true (by assumption);obtain ⟨al,ak,ai⟩:=Kd.at_int az.out aa ae af;cases ak
         replace ae:=eq_true ae;replace af:=eq_true af;go_wp2_with (first|((with_reducible refine gate_callee (f:=68) rfl ?_);refine goesL_ (some 26) rfl rfl Try.func68 (by kernel_rfl) rfl #[.int .i64 (rd l0 aa),.int .i64 (rd l1 aa)] rfl (by (try simp only [mT,mC,mN]);first|done|rfl|(simp only [lD,lT];rfl)) ?_;(with_reducible refine (cmp_Compare_int.calls (rd l0 aa) (rd l1 aa) ad _ A8.out).mono ?_);rintro e w' ⟨rfl,⟨nd,rfl⟩⟩;refine ⟨_,rfl,?_⟩))
         go_roundg k1
         case measure=>have:=aA.out;omega
         case rel=>exact ⟨(wrap64 (aa + 1)),(by rfl),H',⟨by have:=aA.out;omega⟩,by repeat (first|exact Drawn0.refl _|apply Drawn0.step)⟩
        ·rw [if_neg c9] at H;have ar:(ad == 0)=false:=beq_eq_false_iff_ne.mpr c9;have au:(ad != 0)=true:=bne_iff_ne.mpr c9;obtain rfl:=Option.some.inj H;have ab:0≤(aa:Int):=of_decide_eq_true (by assumption);have ac:aa < (l0.length:Int):=of_decide_eq_true (by assumption);obtain ⟨aj,ah,ag⟩:=Kd.at_int ao.out aa ab ac;cases ah
         replace ab:=eq_true ab;replace ac:=eq_true ac;have ae:0≤(aa:Int):=of_decide_eq_true (by assumption);have af:aa < (l1.length:Int):=of_decide_eq_true (by assumption);obtain ⟨al,ak,ai⟩:=Kd.at_int az.out aa ae af;cases ak
         replace ae:=eq_true ae;replace af:=eq_true af;go_wp2_with (first|((with_reducible refine gate_callee (f:=68) rfl ?_);refine goesL_ (some 26) rfl rfl Try.func68 (by kernel_rfl) rfl #[.int .i64 (rd l0 aa),.int .i64 (rd l1 aa)] rfl (by (try simp only [mT,mC,mN]);first|done|rfl|(simp only [lD,lT];rfl)) ?_;(with_reducible refine (cmp_Compare_int.calls (rd l0 aa) (rd l1 aa) ad _ A8.out).mono ?_);rintro e w' ⟨rfl,⟨nd,rfl⟩⟩;refine ⟨_,rfl,?_⟩))
         go_ret
         exact ⟨by first|rfl|(simp;done)|(simp [*];done),by repeat (first|exact Drawn0.refl _|apply Drawn0.step)⟩
       ·rw [if_neg c7] at H;exact absurd H (by simp)
     ·rw [if_neg c5] at H;exact absurd H (by simp)
    ·rw [if_neg c4] at H;exact absurd H (by simp)
   ·rw [if_neg c3] at H;have ap:decide (aa < (l0.length:Int))=false:=decide_eq_false c3;clear c3;by_cases c10:(l0.length:Int) < (l1.length:Int)
    ·rw [if_pos c10] at H;have am:decide ((l0.length:Int) < (l1.length:Int))=true:=decide_eq_true c10;have an:decide (l0.length < l1.length)=true:=decide_eq_true (Int.ofNat_lt.mp c10);clear c10;obtain rfl:=Option.some.inj H;go_wp2
     go_ret
     exact ⟨by first|rfl|(simp;done)|(simp [*];done),by repeat (first|exact Drawn0.refl _|apply Drawn0.step)⟩
    ·rw [if_neg c10] at H;have am:decide ((l0.length:Int) < (l1.length:Int))=false:=decide_eq_false c10;have an:decide (l0.length < l1.length)=false:=decide_eq_false (fun h=>c10 (Int.ofNat_lt.mpr h));clear c10;obtain rfl:=Option.some.inj H;go_wp2
     go_ret
     exact ⟨by first|rfl|(simp;done)|(simp [*];done),by repeat (first|exact Drawn0.refl _|apply Drawn0.step)⟩

/-! ### impl_Stats_best: function 35 -/
mutual
def impl_Stats_best.l0 : Nat → Int → List Int → Int → Int → List Int → List (List Int) → List Int → Int → Option (List Int × Int)
  | 0, _, _, _, _, _, _, _, _ => none
  | k + 1, x1, x30, x31, x32, x266000, x266001, x272000, x272001 => if x32 < x31 then (if 0 ≤ x32 then (if x32 < (x30.length : Int) then (if 0 ≤ (rd x30 x32) then ((impl_Stats_best.f k x266000 x266001 (Go.bits .andNot .i64 x1 (shl .i64 1 (rd x30 x32)))).bind fun bt273 => ((clone_Int.f bt273.1).bind fun t278 => ((some (([rd x30 x32] : List Int) : List Int)).bind fun y281 => (if t278.length + y281.length < 17592186044416 then ((some (t278 ++ y281 : List Int)).bind fun y284 => ((impl_Stats_size.f k x266000 x266001 x1).bind fun t287 => (if (x272000.length : Int) = 0 then (impl_Stats_best.l0 k x1 x30 x31 (wrap64 (x32 + 1)) x266000 x266001 y284 (wrap64 (bt273.2 + t287))) else (if (wrap64 (bt273.2 + t287)) < x272001 then (impl_Stats_best.l0 k x1 x30 x31 (wrap64 (x32 + 1)) x266000 x266001 y284 (wrap64 (bt273.2 + t287))) else (if (wrap64 (bt273.2 + t287)) = x272001 then ((slices_Compare_int_int.f k y284 x272000).bind fun t289 => (if t289 < 0 then (impl_Stats_best.l0 k x1 x30 x31 (wrap64 (x32 + 1)) x266000 x266001 y284 (wrap64 (bt273.2 + t287))) else (impl_Stats_best.l0 k x1 x30 x31 (wrap64 (x32 + 1)) x266000 x266001 x272000 x272001))) else (impl_Stats_best.l0 k x1 x30 x31 (wrap64 (x32 + 1)) x266000 x266001 x272000 x272001)))))) else (none))))) else (none)) else (none)) else (none)) else (some (x272000, x272001))
def impl_Stats_best.f : Nat → List Int → List (List Int) → Int → Option (List Int × Int)
  | 0, _, _, _ => none
  | k + 1, l0_0, l0_1, a1 => (impl_set_list.f k a1).bind fun t267 => (if (t267.length : Int) = 1 then (some (t267, 0)) else (impl_Stats_best.l0 k a1 t267 (t267.length : Int) 0 l0_0 l0_1 ([] : List Int) 0))
end
theorem impl_Stats_best.mono_l : ∀ k, (∀ y0 y1 y2, LeO (impl_Stats_best.f k y0 y1 y2) (impl_Stats_best.f (k + 1) y0 y1 y2)) ∧ (∀ y0 y1 y2 y3 y4 y5 y6 y7, LeO (impl_Stats_best.l0 k y0 y1 y2 y3 y4 y5 y6 y7) (impl_Stats_best.l0 (k + 1) y0 y1 y2 y3 y4 y5 y6 y7))
  | 0 => ⟨fun _ _ _ r h => by simp [impl_Stats_best.f] at h, fun _ _ _ _ _ _ _ _ r h => by simp [impl_Stats_best.l0] at h⟩
  | k + 1 => by
    obtain ⟨aa, ab⟩ := impl_Stats_best.mono_l k
    refine ⟨?_, ?_⟩
    · intro y0 y1 y2
      unfold impl_Stats_best.f
      repeat' first
      | (with_reducible exact aa _ _ _)
      | (with_reducible exact ab _ _ _ _ _ _ _ _)
      | (with_reducible exact impl_Stats_size.mono _ _ _ _)
      | (with_reducible exact impl_set_list.mono _ _)
      | (with_reducible exact slices_Compare_int_int.mono _ _ _)
      | (with_reducible exact LeO.refl _)
      | (with_reducible exact LeO.none _)
      | (with_reducible refine LeO.ite ?_ ?_)
      | (with_reducible refine LeO.bind ?_ (fun _ => ?_))
      | exact aa _ _ _
      | exact ab _ _ _ _ _ _ _ _
      | exact impl_Stats_size.mono _ _ _ _
      | exact impl_set_list.mono _ _
      | exact slices_Compare_int_int.mono _ _ _
      | exact LeO.none _
      | refine LeO.ite ?_ ?_
      | refine LeO.bind ?_ (fun _ => ?_)
    · intro y0 y1 y2 y3 y4 y5 y6 y7
      unfold impl_Stats_best.l0
      repeat' first
      | (with_reducible exact aa _ _ _)
      | (with_reducible exact ab _ _ _ _ _ _ _ _)
      | (with_reducible exact impl_Stats_size.mono _ _ _ _)
      | (with_reducible exact impl_set_list.mono _ _)
      | (with_reducible exact slices_Compare_int_int.mono _ _ _)
      | (with_reducible exact LeO.refl _)
      | (with_reducible exact LeO.none _)
      | (with_reducible refine LeO.ite ?_ ?_)
      | (with_reducible refine LeO.bind ?_ (fun _ => ?_))
      | exact aa _ _ _
      | exact ab _ _ _ _ _ _ _ _
      | exact impl_Stats_size.mono _ _ _ _
      | exact impl_set_list.mono _ _
      | exact slices_Compare_int_int.mono _ _ _
      | exact LeO.none _
      | refine LeO.ite ?_ ?_
      | refine LeO.bind ?_ (fun _ => ?_)
theorem impl_Stats_best.mono : ∀ a0 a1 a2 k, LeO (impl_Stats_best.f k a0 a1 a2) (impl_Stats_best.f (k + 1) a0 a1 a2) := by
  intro a0 a1 a2 k
  obtain ⟨aa, ab⟩ := impl_Stats_best.mono_l k
  exact aa a0 a1 a2
def impl_Stats_best.T11 : Bool × List (List Nat × List Nat) := (true, [([], []), ([], []), ([], []), ([2], [2]), ([1, 3], [1, 3]), ([], []), ([0, 4, 5], [0, 4, 5]), ([], []), ([7, 6, 6, 0, 1, 2, 3, 4, 5, 6, 7], [6, 7])])
def impl_Stats_best.B11 : List Nat := [0, 0, 0, 4, 14, 0, 63, 0, 255]
theorem impl_Stats_best.tab11 : rtab .any (opsOf Try.f35 11) = impl_Stats_best.T11 := by kernel_rfl
theorem impl_Stats_best.bits11 : waitsOk impl_Stats_best.T11.2 impl_Stats_best.B11 = true := by kernel_rfl
def impl_Stats_best.T12 : Bool × List (List Nat × List Nat) := (true, [([], []), ([0], [0]), ([1], [1]), ([], []), ([3], [3]), ([2, 4, 2], [2, 4]), ([], []), ([6], [6]), ([], []), ([], []), ([8, 9, 5], [8, 9]), ([7, 10], [7, 10]), ([5, 11], [5, 11]), ([], []), ([13, 12, 10, 0, 1, 2, 3, 4, 5, 6, 7, 8, 9, 10, 11, 12, 13], [12, 13])])
def impl_Stats_best.B12 : List Nat := [0, 1, 3, 0, 8, 31, 0, 64, 0, 0, 831, 2047, 4095, 0, 16383]
theorem impl_Stats_best.tab12 : rtab .any (opsOf Try.f35 12) = impl_Stats_best.T12 := by kernel_rfl
theorem impl_Stats_best.bits12 : waitsOk impl_Stats_best.T12.2 impl_Stats_best.B12 = true := by kernel_rfl
def BF (l0 : List Int) (l1 : List (List Int)) (x : Int) (o : List Int) (s : Int) : Prop := ∃ k, impl_Stats_best.f k l0 l1 x = some (o, s)
theorem best_le (l0 : List Int) (l1 : List (List Int)) (x : Int) (r : List Int × Int) (k : Nat) (h : impl_Stats_best.f k l0 l1 x = some r) : ∀ d, impl_Stats_best.f (k + d) l0 l1 x = some r
  | 0 => h
  | d + 1 => impl_Stats_best.mono _ _ _ _ _ (best_le l0 l1 x r k h d)
theorem best_one {l0 : List Int} {l1 : List (List Int)} {x : Int} {o o' : List Int} {s s' : Int} (h : BF l0 l1 x o s) (h' : BF l0 l1 x o' s') : o = o' ∧ s = s' := by
  obtain ⟨k, h⟩ := h
  obtain ⟨k', h'⟩ := h'
  have e1 := best_le l0 l1 x _ k h k'
  have e2 := best_le l0 l1 x _ k' h' k
  rw [Nat.add_comm] at e2
  rw [e1] at e2
  simpa using e2
set_option maxHeartbeats 8000000 in
set_option maxRecDepth 100000 in
theorem impl_Stats_best.calls (k:Nat):∀ (A0:Option Addr) (c0:Nat) (l0:List Int) (A1:Option Addr) (c1:Nat) (l1:List (List Int)) (a1:Int) (M:Nat) (r1:List Int) (r2:Int) (w0 w:World) (hM:w0.heap.size≤M) (bZ:Kd.C (Kd.int .i64) w0 A0 l0.length l0) (ca:l0.length≤c0) (cb:Kd.C (Kd.slice 3 (Kd.int .i64)) w0 A1 l1.length l1) (cc:l1.length≤c1) (hm:FrM (BF l0 l1) 3 w0 M w) (h:impl_Stats_best.f k l0 l1 a1=some (r1,r2)),
  Calls Try.prog 35 #[.agg #[.slice A0 l0.length c0,.slice A1 l1.length c1],.int .i64 a1,.map (some M)] w fun e w'=>∃ cm:Value,e=.returned (.agg #[cm,.int .i64 r2])∧Kd.R (Kd.int .i64) 3 w' w0.heap.size (fun k_=>k_ ≠ M) cm r1∧FrM (BF l0 l1) 3 w0 M w'∧Kept w w' (fun k_=>k_=M):=by
 induction k using Nat.strongRecOn with
 | _ k ih =>
 intro A0 c0 l0 A1 c1 l1 a1 M r1 r2 w0 w hM bZ ca cb cc hm h;cases k with
 | zero=>exact absurd h (by simp [impl_Stats_best.f])
 | succ k =>
 have HBF:=qK (show BF l0 l1 a1 r1 r2 from ⟨_,h⟩);simp only [impl_Stats_best.f] at h;have cz:=Try.underlying29;have cA:=Try.underlying54;have HM:=qK hM;have cn:=qK bZ;have cp:=qK ca;have cq:=qK cb;have cr:=qK cc;have FR:=qK hm;have HK:=qK (Kept.refl w (fun k_=>k_=M));have bk:=qK hm.below.size;clear hM bZ ca cb cc hm;have H:=h;clear h;replace H:=Option.bind_eq_some_iff.mp H;obtain ⟨aa,ct,H⟩:=H;have A3:=qK ct;clear ct;by_cases c4:(aa.length:Int)=1
 ·rw [if_pos c4] at H;have cd:((aa.length:Int) == 1)=true:=beq_iff_eq.mpr c4;clear c4;simp only [Option.some.injEq,Prod.mk.injEq] at H;obtain ⟨rfl,rfl⟩:=H;go_enter Try.func35,Try.ntmps35
  go_wp2_with (first|((with_reducible refine gate_dst (N:=3) rfl ?_);refine box_event ?hg (N:=3) ?hd (cs:=#[.slice A0 l0.length c0,.slice A1 l1.length c1]) (t:=29) ?hr ?_;(case hd=>rfl);(case hg=>rfl);(case hr=>(go_simp;try rfl));intro gA hg wa hbox hb;have FRa:=qK (FR.out.below_ hb);have HKa:=qK (Kept.below HK.out hb);have BKA:=qK hbox;clear hg hbox hb FR HK)|((with_reducible refine gate_dst (N:=6) rfl ?_);refine box_event ?hg (N:=6) ?hd (cs:=#[.slice none 0 0,.int .i64 0]) (t:=54) ?hr ?_;(case hd=>rfl);(case hg=>rfl);(case hr=>(go_simp;try rfl));intro gB hg wb hbox hb;have FRb:=qK (FRa.out.below_ hb);have HKb:=qK (Kept.below HKa.out hb);have BKB:=qK hbox;have GEB:=qK (show w.heap.size≤gB from by rw [hg];exact HKa.out.1);clear hg hbox hb FRa HKa)|((with_reducible refine gate_callee (f:=40) rfl ?_);refine goesL_ (some 16) rfl rfl Try.func40 (by kernel_rfl) rfl #[.int .i64 a1] rfl (by (try simp only [mT,mC,mN]);first|done|rfl) ?_;(with_reducible refine (impl_set_list.calls k a1 aa _ A3.out).mono ?_);rintro e wc ⟨vl,rfl,av,hb⟩;refine ⟨_,rfl,?_⟩;have FR:=qK (FRb.out.below_ hb);have HK:=qK (Kept.below HKb.out hb);have HO:=qK (Kd.R_lower (Kd.R_mono (Kd.R_bound av) (fun k_ hk_=>(show k_ ≠ M from by have:=FRb.out.lt;have:=hk_.2.1;omega))) FRb.out.below.size);have BK:=qK (qB BKB.out hb);clear hb av FRb HKb BKB;obtain ⟨Ao,co,eo⟩:=Kd.R_slice HO.out;subst eo;have cC:wc.cell? ⟨gB,0,none⟩=some (.slice none 0 0):=(qC BK.out 0).trans rfl;have cD:wc.cell? ⟨gB,1,none⟩=some (.int .i64 0):=(qC BK.out 1).trans rfl;have aC:=qF BK.out 0;have aD:=qF BK.out 1))
  have hge:=Nat.le_trans bk.out GEB.out;have ad:=qP (cs:=#[.slice none 0 0,.int .i64 0]) BK.out 0 (.slice Ao aa.length co) rfl;have F2:=FR.out.set (i:=0) (v:=.slice Ao aa.length co) hge BK.out (by decide);have F3:=F2.set (i:=1) (v:=.int .i64 0) hge ad (by decide);refine bodyPost_ret (results_cell_row rfl _ _ gB 54 #[.slice Ao aa.length co,.int .i64 0] (0,0) _ rfl (qP (cs:=#[.slice Ao aa.length co,.int .i64 0]) ad 1 _ rfl) Try.underlying54 rfl (by kernel_rfl)) rfl ?_;refine ⟨_,rfl,?_,F3,Kept.setCell (Kept.setCell HK.out (.inr GEB.out) _) (.inr GEB.out) _⟩;exact Kd.R_mono (Kd.R_far (p:=⟨gB,1,none⟩) (Kd.R_far (p:=⟨gB,0,none⟩) (Kd.R_types HO.out BK.out (by decide)) (fun _ hk=>hk.2) (.slice Ao aa.length co)) (fun _ hk=>hk.2) (.int .i64 0)) (fun _ hk=>hk.1)
 ·rw [if_neg c4] at H;have cd:((aa.length:Int) == 1)=false:=beq_eq_false_iff_ne.mpr c4;clear c4;have H':=qK H;clear H;go_enter Try.func35,Try.ntmps35
  go_upto_region 4 with (first|((with_reducible refine gate_dst (N:=3) rfl ?_);refine box_event ?hg (N:=3) ?hd (cs:=#[.slice A0 l0.length c0,.slice A1 l1.length c1]) (t:=29) ?hr ?_;(case hd=>rfl);(case hg=>rfl);(case hr=>(go_simp;try rfl));intro gA hg wa hbox hb;have FRa:=qK (FR.out.below_ hb);have HKa:=qK (Kept.below HK.out hb);have BKA:=qK hbox;have GEA:=qK (show w.heap.size≤gA from by rw [hg];exact HK.out.1);clear hg hbox hb FR HK)|((with_reducible refine gate_dst (N:=6) rfl ?_);refine box_event ?hg (N:=6) ?hd (cs:=#[.slice none 0 0,.int .i64 0]) (t:=54) ?hr ?_;(case hd=>rfl);(case hg=>rfl);(case hr=>(go_simp;try rfl));intro gB hg wb hbox hb;have FRb:=qK (FRa.out.below_ hb);have HKb:=qK (Kept.below HKa.out hb);have BKB:=qK hbox;have ap:=qK (qB BKA.out hb);have GEB:=qK (show w.heap.size≤gB from by rw [hg];exact HKa.out.1);clear hg hbox hb FRa HKa BKA)|((with_reducible refine gate_callee (f:=40) rfl ?_);refine goesL_ (some 16) rfl rfl Try.func40 (by kernel_rfl) rfl #[.int .i64 a1] rfl (by (try simp only [mT,mC,mN]);first|done|rfl) ?_;(with_reducible refine (impl_set_list.calls k a1 aa _ A3.out).mono ?_);rintro e wc ⟨vl,rfl,av,hb⟩;refine ⟨_,rfl,?_⟩;have FR:=qK (FRb.out.below_ hb);have HK:=qK (Kept.below HKb.out hb);have HO:=qK (Kd.R_lower (Kd.R_mono (Kd.R_bound av) (fun k_ hk_=>(show k_ ≠ M from by have:=FRb.out.lt;have:=hk_.2.1;omega))) FRb.out.below.size);have BKB':=qK (qB BKB.out hb);have BKA:=qK (qB ap.out hb);clear hb av FRb HKb BKB ap;have BKB:=BKB';clear BKB';obtain ⟨Ao,co,eo⟩:=Kd.R_slice HO.out;subst eo))
  obtain ⟨c,hmap,hent⟩:=FR.out.map;have hlk:=pk_run (P:=Try.prog) (t:=58) (x:=a1) Try.underlying58 Try.underlying56 (Try.zeroValue54 wc) hmap;cases hq:pget a1 c 0 with
  | some qv =>
   obtain ⟨q,v⟩:=qv;obtain ⟨d,_,hd⟩:=pget_at a1 c 0 q v hq;obtain ⟨u,o,s,e1,hu,hF⟩:=hent _ (List.mem_of_getElem? hd);obtain rfl:v=.agg #[u,.int .i64 s]:=e1;obtain ⟨rfl,rfl⟩:=best_one HBF.out hF;rw [hq] at hlk;have HU:=qK hu;clear hu hF hd hq hmap hent HO H';obtain ⟨Au,cu,eu⟩:=Kd.R_slice HU.out;subst eu;go_wp2_with (first|((with_reducible refine gate_dst (N:=8) rfl ?_);refine box_event ?hg (N:=8) ?hd (cs:=#[.slice none 0 0,.int .i64 0]) (t:=54) ?hr ?_;(case hd=>rfl);(case hg=>rfl);(case hr=>(go_simp;try rfl));intro gC hg wd hbox hb;have bx:=qK (FR.out.below_ hb);have bz:=qK (Kept.below HK.out hb);have ap:=qK (qB BKA.out hb);have aE:=qK (qB BKB.out hb);have bA:=qK (rB HU.out hb);have BKC:=qK hbox;have GEC:=qK (show w.heap.size≤gC from by rw [hg];exact HK.out.1);have NBC:=qK (show gB ≠ gC from by rw [hg];exact Nat.ne_of_lt (blk_lt BKB.out));have NAC:=qK (show gA ≠ gC from by rw [hg];exact Nat.ne_of_lt (blk_lt BKA.out));clear FR HK BKA BKB HU;have bf:wd.cell? ⟨gC,0,none⟩=some (.slice none 0 0):=(qC BKC.out 0).trans rfl;have bg:=qF BKC.out 0;have bh:wd.cell? ⟨gC,1,none⟩=some (.int .i64 0):=(qC BKC.out 1).trans rfl;have bi:=qF BKC.out 1;clear hg hbox hb)|((with_reducible refine gate_store (t:=54) (p:=8) rfl ?_);refine store_event (t:=54) (p:=8) (v:=?vo1_) (w1:=((wd.setCell ⟨gC,0,none⟩ (.slice Au r1.length cu)).setCell ⟨gC,1,none⟩ (.int .i64 r2))) ?hg ?ho ?hn ?hr ?_;(case ho=>rfl);(case hg=>rfl);(case hn=>rfl);(case hr=>(go_simp;try rfl));intro we hw;have hge:=Nat.le_trans bk.out GEC.out;have ad:=qP (cs:=#[.slice none 0 0,.int .i64 0]) BKC.out 0 (.slice Au r1.length cu) rfl;have FR:=qK (show FrM (BF l0 l1) 3 w0 M we from by rw [hw];exact (bx.out.set hge BKC.out (by decide)).set hge ad (by decide));have HK:=qK (show Kept w we (fun k_=>k_=M) from by rw [hw];exact Kept.setCell (Kept.setCell bz.out (.inr GEC.out) _) (.inr GEC.out) _);have BKA:=qK (show we.heap[gA]?=some (.cells #[.slice A0 l0.length c0,.slice A1 l1.length c1] 29 (0,0)) from by rw [hw];exact qR (qR ap.out NAC.out _) NAC.out _);have BKB:=qK (show we.heap[gB]?=some (.cells #[.slice none 0 0,.int .i64 0] 54 (0,0)) from by rw [hw];exact qR (qR aE.out NBC.out _) NBC.out _);have HU:=qK (show Kd.R (Kd.int .i64) 3 we w0.heap.size (fun k_=>k_ ≠ M) (.slice Au r1.length cu) r1 from by rw [hw];exact Kd.R_mono (Kd.R_far (p:=⟨gC,1,none⟩) (Kd.R_far (p:=⟨gC,0,none⟩) (Kd.R_types bA.out BKC.out (by decide)) (fun _ hk=>hk.2) _) (fun _ hk=>hk.2) _) (fun _ hk=>hk.1));have BKCe:=qK (show we.heap[gC]?=some (.cells #[.slice Au r1.length cu,.int .i64 r2] 54 (0,0)) from by rw [hw];exact qP (cs:=#[.slice Au r1.length cu,.int .i64 0]) ad 1 _ rfl);clear ad hge bf bh bg bi BKC bx bz ap aE bA hw;have BKC:=BKCe;clear BKCe;have bf:we.cell? ⟨gC,0,none⟩=some (.slice Au r1.length cu):=(qC BKC.out 0).trans rfl;have bg:=qF BKC.out 0;have bh:we.cell? ⟨gC,1,none⟩=some (.int .i64 r2):=(qC BKC.out 1).trans rfl;have bi:=qF BKC.out 1;have cE:we.cell? ⟨gB,0,none⟩=some (.slice none 0 0):=(qC BKB.out 0).trans rfl;have cF:=qF BKB.out 0;have cG:we.cell? ⟨gB,1,none⟩=some (.int .i64 0):=(qC BKB.out 1).trans rfl;have cH:=qF BKB.out 1))
   have hge:=Nat.le_trans bk.out GEB.out;have ad:=qP (cs:=#[.slice none 0 0,.int .i64 0]) BKB.out 0 (.slice Au r1.length cu) rfl;have F2:=FR.out.set (i:=0) (v:=.slice Au r1.length cu) hge BKB.out (by decide);have F3:=F2.set (i:=1) (v:=.int .i64 r2) hge ad (by decide);refine bodyPost_ret (results_cell_row rfl _ _ gB 54 #[.slice Au r1.length cu,.int .i64 r2] (0,0) _ rfl (qP (cs:=#[.slice Au r1.length cu,.int .i64 0]) ad 1 _ rfl) Try.underlying54 rfl (by kernel_rfl)) rfl ?_;refine ⟨_,rfl,?_,F3,Kept.setCell (Kept.setCell HK.out (.inr GEB.out) _) (.inr GEB.out) _⟩;exact Kd.R_mono (Kd.R_far (p:=⟨gB,1,none⟩) (Kd.R_far (p:=⟨gB,0,none⟩) (Kd.R_types HU.out BKB.out (by decide)) (fun _ hk=>hk.2) _) (fun _ hk=>hk.2) _) (fun _ hk=>hk.1)
  | none =>
   rw [hq] at hlk;clear hmap hent hq;go_wp2_with (first|((with_reducible refine gate_dst (N:=8) rfl ?_);refine box_event ?hg (N:=8) ?hd (cs:=#[.slice none 0 0,.int .i64 0]) (t:=54) ?hr ?_;(case hd=>rfl);(case hg=>rfl);(case hr=>(go_simp;try rfl));intro gC hg wd hbox hb;have bx:=qK (FR.out.below_ hb);have bz:=qK (Kept.below HK.out hb);have ap:=qK (qB BKA.out hb);have aE:=qK (qB BKB.out hb);have bA:=qK (rB HO.out hb);have BKC:=qK hbox;have GEC:=qK (show w.heap.size≤gC from by rw [hg];exact HK.out.1);have NBC:=qK (show gB ≠ gC from by rw [hg];exact Nat.ne_of_lt (blk_lt BKB.out));have NAC:=qK (show gA ≠ gC from by rw [hg];exact Nat.ne_of_lt (blk_lt BKA.out));clear FR HK BKA BKB HO;have bf:wd.cell? ⟨gC,0,none⟩=some (.slice none 0 0):=(qC BKC.out 0).trans rfl;have bg:=qF BKC.out 0;have bh:wd.cell? ⟨gC,1,none⟩=some (.int .i64 0):=(qC BKC.out 1).trans rfl;have bi:=qF BKC.out 1;clear hg hbox hb)|((with_reducible refine gate_store (t:=54) (p:=8) rfl ?_);refine store_event (t:=54) (p:=8) (v:=?vo2_) (w1:=((wd.setCell ⟨gC,0,none⟩ (.slice none 0 0)).setCell ⟨gC,1,none⟩ (.int .i64 0))) ?hg ?ho ?hn ?hr ?_;(case ho=>rfl);(case hg=>rfl);(case hn=>rfl);(case hr=>(go_simp;try rfl));intro we hw;have hge:=Nat.le_trans bk.out GEC.out;have ad:=qP (cs:=#[.slice none 0 0,.int .i64 0]) BKC.out 0 (.slice none 0 0) rfl;have FR:=qK (show FrM (BF l0 l1) 3 w0 M we from by rw [hw];exact (bx.out.set hge BKC.out (by decide)).set hge ad (by decide));have HK:=qK (show Kept w we (fun k_=>k_=M) from by rw [hw];exact Kept.setCell (Kept.setCell bz.out (.inr GEC.out) _) (.inr GEC.out) _);have BKA:=qK (show we.heap[gA]?=some (.cells #[.slice A0 l0.length c0,.slice A1 l1.length c1] 29 (0,0)) from by rw [hw];exact qR (qR ap.out NAC.out _) NAC.out _);have BKB:=qK (show we.heap[gB]?=some (.cells #[.slice none 0 0,.int .i64 0] 54 (0,0)) from by rw [hw];exact qR (qR aE.out NBC.out _) NBC.out _);have HU:=qK (show Kd.R (Kd.int .i64) 3 we w0.heap.size (fun k_=>k_ ≠ M) (.slice Ao aa.length co) aa from by rw [hw];exact Kd.R_mono (Kd.R_far (p:=⟨gC,1,none⟩) (Kd.R_far (p:=⟨gC,0,none⟩) (Kd.R_types bA.out BKC.out (by decide)) (fun _ hk=>hk.2) _) (fun _ hk=>hk.2) _) (fun _ hk=>hk.1));have BKCe:=qK (show we.heap[gC]?=some (.cells #[.slice none 0 0,.int .i64 0] 54 (0,0)) from by rw [hw];exact qP (cs:=#[.slice none 0 0,.int .i64 0]) ad 1 _ rfl);clear ad hge bf bh bg bi BKC bx bz ap aE bA hw BKCe;have HO:=HU;clear HU)|((with_reducible refine gate_dst (N:=10) rfl ?_);refine box_event ?hg (N:=10) ?hd (cs:=#[.slice none 0 0,.int .i64 0]) (t:=54) ?hr ?_;(case hd=>rfl);(case hg=>rfl);(case hr=>(go_simp;try rfl));intro gD hg wf hbox hb;have FRn:=qK (FR.out.below_ hb);have HKn:=qK (Kept.below HK.out hb);have BKAn:=qK (qB BKA.out hb);have BKBn:=qK (qB BKB.out hb);have HOn:=qK (rB HO.out hb);have BKD:=qK hbox;have GED:=qK (show w.heap.size≤gD from by rw [hg];exact HK.out.1);have NBD:=qK (show gB ≠ gD from by rw [hg];exact Nat.ne_of_lt (blk_lt BKB.out));have NAD:=qK (show gA ≠ gD from by rw [hg];exact Nat.ne_of_lt (blk_lt BKA.out));clear FR HK BKA BKB HO;have FR:=FRn;have HK:=HKn;have BKA:=BKAn;have BKB:=BKBn;have HO:=HOn;clear FRn HKn BKAn BKBn HOn;clear hg hbox hb))
   have dp:∀ (W:World) (A:Option Addr) (n c:Nat),(binOp .eql 22 (.slice A n c) (.slice none 0 0)).run Try.prog W=.ok (.bool A.isNone) W:=fun W A n c=>Lib.run_eql_slice_nil W _ _ A n c 0 0 Try.underlying22
   go_loopg [32] k (fun kq cI w'=>∃ (x:Int) (o:List Int) (s:Int) (u:Value),cI=.int .i64 x∧Aside0 (impl_Stats_best.l0 kq a1 aa (aa.length:Int) x l0 l1 o s=some (r1,r2))∧Aside0 (kq≤k)∧Aside0 (Kd.R (Kd.int .i64) 3 w' w0.heap.size (fun k_=>k_ ≠ M) (.slice Ao aa.length co) aa)∧Aside0 (Kd.R (Kd.int .i64) 3 w' w0.heap.size (fun k_=>k_ ≠ M) u o)∧Aside0 (o=[]→u=.slice none 0 0)∧Aside0 (w'.heap[gA]?=some (.cells #[.slice A0 l0.length c0,.slice A1 l1.length c1] 29 (0,0)))∧Aside0 (w'.heap[gB]?=some (.cells #[.slice none 0 0,.int .i64 0] 54 (0,0)))∧Aside0 (w'.heap[gD]?=some (.cells #[u,.int .i64 s] 54 (0,0)))∧Aside0 (FrM (BF l0 l1) 3 w0 M w')∧Aside0 (Kept w w' (fun k_=>k_=M)))
   case atStart=>exact ⟨0,[],0,.slice none 0 0,rfl,H',⟨Nat.le_refl _⟩,HO,⟨Kd.R_nil _ _ _ _ _⟩,⟨fun _=>rfl⟩,BKA,BKB,BKD,FR,HK⟩
   case round =>
    clear H' HO BKA BKB BKD FR HK hlk;obtain ⟨x,o,s,u,rfl,HA,aG,HO,HU,HN,BKA,BKB,BKD,FR,HK⟩:=hrel;cases gk with
    | zero=>exact absurd HA.out (by simp [impl_Stats_best.l0])
    | succ k1 =>
     have H:=HA.out;clear HA;simp only [impl_Stats_best.l0] at H;by_cases c20:x < (aa.length:Int)
     ·rw [if_pos c20] at H;by_cases c21:0≤x
      case neg=>rw [if_neg c21] at H;exact absurd H (by simp)
      rw [if_pos c21,if_pos c20] at H;have bB:decide (x < (aa.length:Int))=true:=decide_eq_true c20;by_cases c23:0≤(rd aa x)
      case neg=>rw [if_neg c23] at H;exact absurd H (by simp)
      rw [if_pos c23] at H;have cw:=eq_true c23;obtain ⟨ae,aH⟩:∃ j_:Int,(shl .i64 1 (rd aa x))=j_:=⟨_,rfl⟩;rw [aH] at H;have aI:(IntKind.i64.wrap (1 * 2 ^ min (rd aa x).toNat 64))=ae:=aH;have aJ:(rd aa x)≤64→(IntKind.i64.wrap (1 * 2 ^ (rd aa x).toNat))=ae:=shl_small aH;have ce:(IntKind.i64.wrap (2 ^ min (rd aa x).toNat 64))=ae:=by have h_:=aI;rw [Int.one_mul] at h_;exact h_
      have cf:(rd aa x)≤64→(IntKind.i64.wrap (2 ^ (rd aa x).toNat))=ae:=fun hle_=>by have h_:=aJ hle_;rw [Int.one_mul] at h_;exact h_
      have cg:(wrap64 (1 * 2 ^ min (rd aa x).toNat 64))=ae:=(i64_w _).symm.trans aI;have ch:(rd aa x)≤64→(wrap64 (1 * 2 ^ (rd aa x).toNat))=ae:=fun h_=>(i64_w _).symm.trans (aJ h_)
      replace H:=Option.bind_eq_some_iff.mp H;obtain ⟨⟨aj,ac⟩,bC,H⟩:=H;have cJ:=qK bC;clear bC;replace H:=Option.bind_eq_some_iff.mp H;obtain ⟨aK,bD,H⟩:=H;have cK:=qK bD;clear bD;obtain ⟨aq,aM⟩:∃ y_:List Int,y_=(([rd aa x]:List Int)):=⟨_,rfl⟩;simp only [Option.bind_some,← aM] at H;have bl:=qK aM;clear aM;by_cases c27:aK.length + aq.length < 17592186044416
      case neg=>rw [if_neg c27] at H;exact absurd H (by simp)
      rw [if_pos c27] at H;have bE:=qK c27;clear c27;obtain ⟨ab,aN⟩:∃ y_:List Int,y_=(aK ++ aq):=⟨_,rfl⟩;rw [← aN] at H;have bm:=qK aN;clear aN;replace H:=Option.bind_eq_some_iff.mp H;obtain ⟨ak,bF,H⟩:=H;have cM:=qK bF;clear bF;have H':=qK H;clear H;obtain ⟨aQ,ci,bG⟩:=Kd.at_int (Kd.R_reads' HO.out).2.2 x c21 c20;cases ci
      have cO:=eq_true c21;have cP:=eq_true c20;clear c20 c21 c23;go_upto_region 11 with (fail)
      have hbd:=below_drew (Below.refl wr.heap.size wr);have HOd:=qK (rW HO.out);have HUd:=qK (rW HU.out);have BKAd:=qK (qW BKA.out);have BKBd:=qK (qW BKB.out);have BKDd:=qK (qW BKD.out);have FRd:=qK (FR.out.below_ hbd);have HKd:=qK (Kept.below HK.out hbd);clear HO HU BKA BKB BKD FR HK hbd bG;have HO:=HOd;have HU:=HUd;have BKA:=BKAd;have BKB:=BKBd;have BKD:=BKDd;have FR:=FRd;have HK:=HKd;clear HOd HUd BKAd BKBd BKDd FRd HKd;refine start_ (n:=9) (S:=fun w'=>True) (ds:=[]) #[Z,Z,Z,Z,Z,Z,Z,Z,Z] (by kernel_rfl) rfl rfl trivial (fun hHeld=>?_);refine with_tabW impl_Stats_best.tab11 impl_Stats_best.bits11 (fun HT_ HW_=>?_);generalize wr.drew=W1 at HO HU BKA BKB BKD FR HK hHeld ⊢
      refine pure_ (i:=1) (N:=some 37) (v:=?_) (a':=?_) #[Z,Y,Z,Z,Z,Z,Z,Z,Z] rfl rfl (any_of HT_.out (by kernel_rfl)) (fun _ _ _ h=>h) (Or.inl ⟨by rfl,?_⟩) ?_ ?_;rotate_left
      ·intro w';go_simp;with_reducible rfl
      rotate_left
      ·simp only [Act.put,sIb,sZ,sS,i64_w,i32_w];rfl
      refine pure_ (i:=2) (N:=some 38) (v:=?_) (a':=?_) #[Z,Y,Y,Z,Z,Z,Z,Z,Z] rfl rfl (any_of HT_.out (by kernel_rfl)) (fun _ _ _ h=>h) (Or.inl ⟨by rfl,?_⟩) ?_ ?_;rotate_left
      ·intro w';go_simp;with_reducible rfl
      rotate_left
      ·simp only [Act.put,sIb,sZ,sS,i64_w,i32_w];rfl
      refine pure_ (i:=5) (N:=some 41) (v:=?_) (a':=?_) #[Z,Y,Y,Z,Z,Y,Z,Z,Z] rfl rfl (any_of HT_.out (by kernel_rfl)) (fun _ _ _ h=>h) (Or.inl ⟨by rfl,?_⟩) ?_ ?_;rotate_left
      ·intro w';go_simp;with_reducible rfl
      rotate_left
      ·simp only [Act.put,sIb,sZ,sS,i64_w,i32_w];rfl
      have MLT:=qK FR.out.lt;have ANE:=qK (FR.out.ne BKA.out);refine inv_at [0,3,4,6,7,8] (fun cj b a w'=>∃ (v:Value) (g:Nat) (m6:Value) (m7:Value),a=putSel cj b [(0,36,.agg #[.slice A0 l0.length c0,.slice A1 l1.length c1]),(3,39,.int .i64 ae),(4,40,.int .i64 (Go.bits .andNot .i64 a1 (ae))),(6,42,m6),(7,13,m7)]∧FrM (BF l0 l1) 3 w0 M w'∧Kept W1 w' (fun k_=>k_=M)∧(b 6=true→m6=.agg #[v,.int .i64 ac]∧Kd.R (Kd.int .i64) 3 w' w0.heap.size (fun k_=>k_ ≠ M) v aj)∧(b 7=true→m7=.pointer (some ⟨g,0,none⟩)∧W1.heap.size≤g)∧(b 7=true→b 8=false→w'.heap[g]?=some (.cells #[.slice none 0 0,.int .i64 0] 54 (0,0)))∧(b 8=true→w'.heap[g]?=some (.cells #[v,.int .i64 ac] 54 (0,0)))) HT_.out HW_.out (by kernel_rfl) (by kernel_rfl) ?_ ?_ ?_
      ·exact ⟨.bool false,0,.bool false,.bool false,by simp only [putSel,Bool.false_eq_true,if_false],FR.out,Kept.refl _ _,fun h_=>absurd h_ (by decide),fun h_=>absurd h_ (by decide),fun h_=>absurd h_ (by decide),fun h_=>absurd h_ (by decide)⟩
      ·refine steps_cons ?_ ?_
       ·rintro b a w' ⟨v,g,m6,m7,ha,QF,QK,Q6,Q7,ax,Q8⟩ hb_ hon hoff;refine ⟨_,rfl,fun K hK=>?_⟩;have e3:a.tmps[3]?=some (.pointer (some ⟨gA,0,none⟩)):=by rw [ha];exact (putSel_off rfl).trans rfl
        replace ha:=qK ha;have BA:=qK (blk_kept BKA.out QK ANE.out);have cQ:w'.cell? ⟨gA,0,none⟩=some (.slice A0 l0.length c0):=(qC BA.out 0).trans rfl;have cR:w'.cell? ⟨gA,1,none⟩=some (.slice A1 l1.length c1):=(qC BA.out 1).trans rfl;refine value_ (w1:=w') (v:=.agg #[.slice A0 l0.length c0,.slice A1 l1.length c1]) (by rfl) rfl ?_ ?_
        ·go_simp;(try simp only [i64_w]);try rfl
        exact hK.out _ _ ⟨v,g,m6,m7,(by rw [ha.out];exact putSel_upk 0 hb_ rfl rfl rfl),QF,QK,Q6,Q7,ax,Q8⟩
       refine steps_cons ?_ ?_
       ·rintro b a w' ⟨v,g,m6,m7,ha,QF,QK,Q6,Q7,ax,Q8⟩ hb_ hon hoff;refine ⟨_,rfl,fun K hK=>?_⟩;have dq:a.tmps[38]?=some (.int .i64 (rd aa x)):=by rw [ha];exact (putSel_off rfl).trans rfl
        replace ha:=qK ha;refine value_ (w1:=w') (v:=.int .i64 ae) (by rfl) rfl ?_ ?_
        ·go_simp;(try simp only [i64_w]);try rfl
        exact hK.out _ _ ⟨v,g,m6,m7,(by rw [ha.out];exact putSel_upk 1 hb_ rfl rfl rfl),QF,QK,Q6,Q7,ax,Q8⟩
       refine steps_cons ?_ ?_
       ·rintro b a w' ⟨v,g,m6,m7,ha,QF,QK,Q6,Q7,ax,Q8⟩ hb_ hon hoff;refine ⟨_,rfl,fun K hK=>?_⟩;have dr:a.tmps[37]?=some (.int .i64 a1):=by rw [ha];exact (putSel_off rfl).trans rfl
        have dt:a.tmps[39]?=some (.int .i64 ae):=by rw [ha];exact putSel_on (e:=(3,39,.int .i64 ae)) 1 rfl rfl (hon 3 (by kernel_rfl)) rfl
        replace ha:=qK ha;refine value_ (w1:=w') (v:=.int .i64 (Go.bits .andNot .i64 a1 (ae))) (by rfl) rfl ?_ ?_
        ·go_simp;(try simp only [i64_w]);try rfl
        exact hK.out _ _ ⟨v,g,m6,m7,(by rw [ha.out];exact putSel_upk 2 hb_ rfl rfl rfl),QF,QK,Q6,Q7,ax,Q8⟩
       refine steps_cons ?_ ?_
       ·rintro b a w' ⟨v,g,m6,m7,ha,QF,QK,Q6,Q7,ax,Q8⟩ hb_ hon hoff;refine ⟨_,rfl,fun K hK=>?_⟩;have cS:a.tmps[36]?=some (.agg #[.slice A0 l0.length c0,.slice A1 l1.length c1]):=by rw [ha];exact putSel_on (e:=(0,36,.agg #[.slice A0 l0.length c0,.slice A1 l1.length c1])) 0 rfl rfl (hon 0 (by kernel_rfl)) rfl
        have cT:a.tmps[40]?=some (.int .i64 (Go.bits .andNot .i64 a1 (ae))):=by rw [ha];exact putSel_on (e:=(4,40,.int .i64 (Go.bits .andNot .i64 a1 (ae)))) 2 rfl rfl (hon 4 (by kernel_rfl)) rfl
        have cV:a.tmps[41]?=some (.map (some M)):=by rw [ha];exact (putSel_off rfl).trans rfl
        replace ha:=qK ha;refine goes_ Try.func35 (by kernel_rfl) rfl #[.agg #[.slice A0 l0.length c0,.slice A1 l1.length c1],.int .i64 (Go.bits .andNot .i64 a1 (ae)),.map (some M)] (by rfl) rfl rfl (by simp only [mT,mC,mN,Act.eval,cS,cT,cV,Array.getD_eq_getD_getElem?,Option.getD_some]) ?_;with_reducible refine (ih k1 (by have:=aG.out;omega) _ _ l0 _ _ l1 (Go.bits .andNot .i64 a1 (ae)) M aj ac w0 _ HM.out cn.out cp.out cq.out cr.out QF cJ.out).mono ?_
        rintro e bw ⟨v2,rfl,av,hf,hk⟩;refine ⟨_,rfl,?_⟩;exact hK.out _ _ ⟨v2,g,(.agg #[v2,.int .i64 ac]),m7,(by rw [ha.out];exact putSel_upk 3 hb_ rfl rfl rfl),hf,Kept.then_ QK hk (fun k_ h_=>.inl h_),fun _=>⟨rfl,av⟩,Q7,fun h7 h8=>blk_kept (ax h7 h8) hk (by have:=(Q7 h7).2;have:=MLT.out;omega),fun h8=>absurd ((hoff 8 (by kernel_rfl)).symm.trans h8) (by decide)⟩
       refine steps_cons ?_ ?_
       ·rintro b a w' ⟨v,g,m6,m7,ha,QF,QK,Q6,Q7,ax,Q8⟩ hb_ hon hoff;refine ⟨_,rfl,fun K hK=>?_⟩;replace ha:=qK ha;refine box_step ?hg (N:=13) ?hd (cs:=#[.slice none 0 0,.int .i64 0]) (t:=54) ?hr ?_;(case hd=>rfl);(case hg=>rfl);(case hr=>(go_simp;try rfl));intro g2 hg bw hbox hb;exact hK.out _ _ ⟨v,g2,m6,(.pointer (some ⟨g2,0,none⟩)),(by rw [ha.out];exact putSel_upk 4 hb_ rfl rfl rfl),QF.below_ hb,Kept.below QK hb,fun h6=>⟨(Q6 h6).1,rB (Q6 h6).2 hb⟩,fun _=>⟨rfl,by rw [hg];exact QK.1⟩,fun _ _=>hbox,fun h8=>absurd ((hoff 8 (by kernel_rfl)).symm.trans h8) (by decide)⟩
       refine steps_cons ?_ ?_
       ·rintro b a w' ⟨v,g,m6,m7,ha,QF,QK,Q6,Q7,ax,Q8⟩ hb_ hon hoff;refine ⟨_,rfl,fun K hK=>?_⟩;have h6:=hon 6 (by kernel_rfl);have h7:=hon 7 (by kernel_rfl);have cX:a.tmps[13]?=some (m7):=by rw [ha];exact putSel_on (e:=(7,13,m7)) 4 rfl rfl h7 rfl
        rw [(Q7 h7).1] at cX;have cY:a.tmps[42]?=some (m6):=by rw [ha];exact putSel_on (e:=(6,42,m6)) 3 rfl rfl h6 rfl
        rw [(Q6 h6).1] at cY;replace ha:=qK ha;have BX:=qK (ax h7 hb_);have RV:=qK (Q6 h6).2;have GX:=qK (show w0.heap.size≤g from Nat.le_trans FR.out.below.size (Q7 h7).2);obtain ⟨Av,cv,ev⟩:=Kd.R_slice RV.out;subst ev;have cZ:w'.cell? ⟨g,0,none⟩=some (.slice none 0 0):=(qC BX.out 0).trans rfl;have da:w'.cell? ⟨g,1,none⟩=some (.int .i64 0):=(qC BX.out 1).trans rfl;have db:=qF BX.out 0;have dc:=qF BX.out 1;have Q6':=qK Q6;have Q7':=qK Q7;clear Q6 Q7 ax Q8;refine skip_ (w1:=?_) (by rfl) rfl ?_ ?_;rotate_left
        ·go_simp;rfl
        have ad:=qP (cs:=#[.slice none 0 0,.int .i64 0]) BX.out 0 (.slice Av aj.length cv) rfl;exact hK.out _ _ ⟨.slice Av aj.length cv,g,m6,m7,(by rw [ha.out];exact putSel_none (v:=undef) rfl),(QF.set GX.out BX.out (by decide)).set GX.out ad (by decide),Kept.setCell (Kept.setCell QK (.inr (Q7'.out h7).2) _) (.inr (Q7'.out h7).2) _,fun _=>⟨(Q6'.out h6).1,Kd.R_mono (Kd.R_far (p:=⟨g,1,none⟩) (Kd.R_far (p:=⟨g,0,none⟩) (Kd.R_types RV.out BX.out (by decide)) (fun _ hk=>hk.2) _) (fun _ hk=>hk.2) _) (fun _ hk=>hk.1)⟩,Q7'.out,fun _ h8=>absurd (show true=false from h8) (by decide),fun _=>qP (cs:=#[.slice Av aj.length cv,.int .i64 0]) ad 1 _ rfl⟩
       exact steps_nil
      rintro b a ck hall ⟨v,g,m6,m7,ha,QF,QK,Q6,Q7,ax,Q8⟩;have bH:=hall 0 (by kernel_rfl);have bI:=hall 3 (by kernel_rfl);have aR:=hall 4 (by kernel_rfl);have bj:=hall 6 (by kernel_rfl);have ay:=hall 7 (by kernel_rfl);have az:=hall 8 (by kernel_rfl);subst ha;obtain rfl:=(Q6 bj).1;obtain rfl:=(Q7 ay).1;simp only [putSel,bH,bI,aR,bj,ay,az,if_true,Act.put,List.setIfInBounds_toArray,List.set_cons_zero,List.set_cons_succ];have hbd:=below_drew (Below.refl ck.heap.size ck);have HOd:=qK (rW (Kd.R_step HO.out (fun k ho hk=>QK.2 k hk ho)));have HUd:=qK (rW (Kd.R_step HU.out (fun k ho hk=>QK.2 k hk ho)));have BKAd:=qK (qW (blk_kept BKA.out QK ANE.out));have BKBd:=qK (qW (blk_kept BKB.out QK (FR.out.ne BKB.out)));have BKDd:=qK (qW (blk_kept BKD.out QK (FR.out.ne BKD.out)));have FRd:=qK (QF.below_ hbd);have HKd:=qK (Kept.below (Kept.then_ HK.out QK (fun k_ h_=>.inl h_)) hbd);have RV:=qK (rW (Q6 bj).2);have BKG:=qK (qW (Q8 az));clear HO HU BKA BKB BKD FR HK hbd QF QK Q6 Q7 ax Q8 hall bH bI aR bj ay az MLT ANE;have HO:=HOd;have HU:=HUd;have BKA:=BKAd;have BKB:=BKBd;have BKD:=BKDd;have FR:=FRd;have HK:=HKd;clear HOd HUd BKAd BKBd BKDd FRd HKd;obtain ⟨Av,cv,ev⟩:=Kd.R_slice RV.out;subst ev;try go_wp2
      refine start_ (n:=15) (S:=fun w'=>True) (ds:=[]) #[Z,Z,Z,Z,Z,Z,Z,Z,Z,Z,Z,Z,Z,Z,Z] (by kernel_rfl) rfl rfl trivial (fun hHeld=>?_);refine with_tabW impl_Stats_best.tab12 impl_Stats_best.bits12 (fun HT_ HW_=>?_);generalize ck.drew=W2 at HO HU BKA BKB BKD FR HK RV BKG hHeld ⊢
      refine pure_ (i:=0) (N:=some 43) (v:=?_) (a':=?_) #[Y,Z,Z,Z,Z,Z,Z,Z,Z,Z,Z,Z,Z,Z,Z] rfl rfl (any_of HT_.out (by kernel_rfl)) (fun _ _ _ h=>h) (Or.inl ⟨by rfl,?_⟩) ?_ ?_;rotate_left
      ·intro w';go_simp;with_reducible rfl
      rotate_left
      ·simp only [Act.put,sIb,sZ,sS,i64_w,i32_w];rfl
      refine pure_ (i:=3) (N:=some 46) (v:=?_) (a':=?_) #[Y,Z,Z,Y,Z,Z,Z,Z,Z,Z,Z,Z,Z,Z,Z] rfl rfl (any_of HT_.out (by kernel_rfl)) (fun _ _ _ h=>h) (Or.inl ⟨by rfl,?_⟩) ?_ ?_;rotate_left
      ·intro w';go_simp;with_reducible rfl
      rotate_left
      ·simp only [Act.put,sIb,sZ,sS,i64_w,i32_w];rfl
      refine pure_ (i:=6) (N:=some 49) (v:=?_) (a':=?_) #[Y,Z,Z,Y,Z,Z,Y,Z,Z,Z,Z,Z,Z,Z,Z] rfl rfl (any_of HT_.out (by kernel_rfl)) (fun _ _ _ h=>h) (Or.inl ⟨by rfl,?_⟩) ?_ ?_;rotate_left
      ·intro w';go_simp;with_reducible rfl
      rotate_left
      ·simp only [Act.put,sIb,sZ,sS,i64_w,i32_w];rfl
      refine pure_ (i:=9) (N:=some 52) (v:=?_) (a':=?_) #[Y,Z,Z,Y,Z,Z,Y,Z,Z,Y,Z,Z,Z,Z,Z] rfl rfl (any_of HT_.out (by kernel_rfl)) (fun _ _ _ h=>h) (Or.inl ⟨by rfl,?_⟩) ?_ ?_;rotate_left
      ·intro w';go_simp;with_reducible rfl
      rotate_left
      ·simp only [Act.put,sIb,sZ,sS,i64_w,i32_w];rfl
      refine inv_at [1,2,4,5,7,8,10,11,12,13,14] (fun cj b a w'=>∃ (m2 m4 m5 ah:Value) (g2:Nat) (ai:Value),a=putSel cj b [(1,44,.slice Av aj.length cv),(2,45,m2),(4,47,m4),(5,48,m5),(7,50,.int .i64 ac),(8,51,.agg #[.slice A0 l0.length c0,.slice A1 l1.length c1]),(10,53,.int .i64 ak),(11,54,.int .i64 (wrap64 (ac + ak))),(12,55,ah),(13,14,ai)]∧Below W2.heap.size W2 w'∧(b 2=true→b 5=false→Kd.R (Kd.int .i64) 3 w' W2.heap.size (fun _=>True) m2 aK)∧(b 4=true→b 5=false→Kd.R (Kd.int .i64) 3 w' W2.heap.size (fun _=>True) m4 aq)∧(b 5=true→Kd.R (Kd.int .i64) 3 w' W2.heap.size (fun _=>True) m5 ab)∧(b 12=true→ah=.agg #[m5,.int .i64 (wrap64 (ac + ak))])∧(b 13=true→ai=.pointer (some ⟨g2,0,none⟩)∧W2.heap.size≤g2)∧(b 13=true→b 14=false→w'.heap[g2]?=some (.cells #[.slice none 0 0,.int .i64 0] 54 (0,0)))∧(b 14=true→w'.heap[g2]?=some (.cells #[m5,.int .i64 (wrap64 (ac + ak))] 54 (0,0)))) HT_.out HW_.out (by kernel_rfl) (by kernel_rfl) ?_ ?_ ?_
      ·exact ⟨.bool false,.bool false,.bool false,.bool false,0,.bool false,by simp only [putSel,Bool.false_eq_true,if_false],Below.refl _ _,fun h_=>absurd h_ (by decide),fun h_=>absurd h_ (by decide),fun h_=>absurd h_ (by decide),fun h_=>absurd h_ (by decide),fun h_=>absurd h_ (by decide),fun h_=>absurd h_ (by decide),fun h_=>absurd h_ (by decide)⟩
      ·skip
       refine steps_cons ?_ ?_
       ·rintro b a w' ⟨m2,m4,m5,ah,g2,ai,ha,QB,Q2,Q4,Q5,al,af,QZ,am⟩ hb_ hon hoff;refine ⟨_,rfl,fun K hK=>?_⟩;have du:a.tmps[43]?=some (.pointer (some ⟨g,0,none⟩)):=by rw [ha];exact (putSel_off rfl).trans rfl
        replace ha:=qK ha;have BX:=qK (qB BKG.out QB);have bd:w'.cell? ⟨g,0,none⟩=some (.slice Av aj.length cv):=(qC BX.out 0).trans rfl;refine value_ (w1:=w') (v:=.slice Av aj.length cv) (by rfl) rfl ?_ ?_
        ·go_simp;(try simp only [i64_w]);try rfl
        exact hK.out _ _ ⟨m2,m4,m5,ah,g2,ai,(by rw [ha.out];exact putSel_upk 0 hb_ rfl rfl rfl),QB,Q2,Q4,Q5,al,af,QZ,am⟩
       refine steps_cons ?_ ?_
       ·rintro b a w' ⟨m2,m4,m5,ah,g2,ai,ha,QB,Q2,Q4,Q5,al,af,QZ,am⟩ hb_ hon hoff;refine ⟨_,rfl,fun K hK=>?_⟩;have dd:a.tmps[44]?=some (.slice Av aj.length cv):=by rw [ha];exact putSel_on (e:=(1,44,.slice Av aj.length cv)) 0 rfl rfl (hon 1 (by kernel_rfl)) rfl
        replace ha:=qK ha;refine goes_ Try.func57 (by kernel_rfl) rfl #[.slice Av aj.length cv] (by rfl) rfl rfl (by simp only [mT,mC,mN,Act.eval,dd,Array.getD_eq_getD_getElem?,Option.getD_some]) ?_;have cx:=rB RV.out QB;with_reducible refine (clone_Int.calls _ _ aj aK _ (Kd.R_reads' cx).2.2 (Kd.R_reads' cx).2.1 cK.out).mono ?_
        rintro e bw ⟨v2,rfl,av,hb⟩;refine ⟨_,rfl,?_⟩;exact hK.out _ _ ⟨v2,m4,m5,ah,g2,ai,(by rw [ha.out];exact putSel_upk 1 hb_ rfl rfl rfl),qT QB hb,fun _ _=>Kd.R_lower av QB.size,fun h4 h5=>rB (Q4 h4 h5) hb,fun h_=>absurd ((hoff 5 (by kernel_rfl)).symm.trans h_) (by decide),al,af,fun aA aw=>qB (QZ aA aw) hb,fun aw=>qB (am aw) hb⟩
       refine steps_cons ?_ ?_
       ·rintro b a w' ⟨m2,m4,m5,ah,g2,ai,ha,QB,Q2,Q4,Q5,al,af,QZ,am⟩ hb_ hon hoff;refine ⟨_,rfl,fun K hK=>?_⟩;have dv:a.tmps[46]?=some (.int .i64 (rd aa x)):=by rw [ha];exact (putSel_off rfl).trans rfl
        replace ha:=qK ha;refine Kd.R_lit_step (Kd.int .i64) _ 3 ?hg (N:=47) ?hd (xs:=([rd aa x]:List Int)) (inner:=[.int .i64 (rd aa x)]) (ok:=fun _=>True) (okp:=fun _=>True) ?hr ?hp (fun _ hk=>hk) trivial (Below.refl _ _) (Nat.le_refl _) (by simp) ?_;(case hd=>rfl);(case hg=>rfl);(case hr=>(go_simp;try rfl));(case hp=>exact (Reps.one (show Kd.M (Kd.int .i64) _ _ _ (rd aa x) [.int .i64 (rd aa x)] from rfl) (Reps.none _ _)));intro v2 bw av hb hg_ hnew_;rw [← bl.out] at av;exact hK.out _ _ ⟨m2,v2,m5,ah,g2,ai,(by rw [ha.out];exact putSel_upk 2 hb_ rfl rfl rfl),qT QB hb,fun h2 h5=>rB (Q2 h2 h5) hb,fun _ _=>Kd.R_lower av QB.size,fun h_=>absurd ((hoff 5 (by kernel_rfl)).symm.trans h_) (by decide),al,af,fun aA aw=>qB (QZ aA aw) hb,fun aw=>qB (am aw) hb⟩
       refine steps_cons ?_ ?_
       ·rintro b a w' ⟨m2,m4,m5,ah,g2,ai,ha,QB,Q2,Q4,Q5,al,af,QZ,am⟩ hb_ hon hoff;refine ⟨_,rfl,fun K hK=>?_⟩;have h2:=hon 2 (by kernel_rfl);have h4:=hon 4 (by kernel_rfl);have R2:=qK (Q2 h2 hb_);have R4:=qK (Q4 h4 hb_);obtain ⟨bV,bW,de⟩:=Kd.R_slice R4.out;subst de;have df:a.tmps[45]?=some (m2):=by rw [ha];exact putSel_on (e:=(2,45,m2)) 1 rfl rfl (hon 2 (by kernel_rfl)) rfl
        have dg:a.tmps[47]?=some (.slice bV aq.length bW):=by rw [ha];exact putSel_on (e:=(4,47,.slice bV aq.length bW)) 2 rfl rfl (hon 4 (by kernel_rfl)) rfl
        replace ha:=qK ha;refine Kd.R_append_rows_step (Kd.int .i64) (w0:=W2) W2.heap.size (by rfl) (.tmp 45) (.tmp 47) 22 3 (.int .i64 0) 8 rfl Try.underlying22 info3 rfl (by decide) (by omega) m2 aK aq bV aq.length bW (fun _=>True) (fun _=>False) (by simp only [Act.eval,df,Array.getD_eq_getD_getElem?,Option.getD_some]) (by simp only [Act.eval,dg,Array.getD_eq_getD_getElem?,Option.getD_some]) R2.out (Kd.R_reads' R4.out).2.2 (fun _ _ h=>h) (fun _ h=>h.elim) (fun _ _=>trivial) QB QB.size (by have:=bE.out;omega) ?_;intro v2 bw ho hb hg hat;rw [← bm.out] at ho;exact hK.out _ _ ⟨m2,(.slice bV aq.length bW),v2,ah,g2,ai,(by rw [ha.out];exact putSel_upk 3 hb_ rfl rfl rfl),hb,fun _ h_=>absurd (show true=false from h_) (by decide),fun _ h_=>absurd (show true=false from h_) (by decide),fun _=>ho,fun h_=>absurd ((hoff 12 (by kernel_rfl)).symm.trans h_) (by decide),af,fun aA aw=>blk_grown (QZ aA aw) hg (Kd.R_ne R2.out (QZ aA aw) (by decide)),fun h_=>absurd ((hoff 14 (by kernel_rfl)).symm.trans h_) (by decide)⟩
       refine steps_cons ?_ ?_
       ·rintro b a w' ⟨m2,m4,m5,ah,g2,ai,ha,QB,Q2,Q4,Q5,al,af,QZ,am⟩ hb_ hon hoff;refine ⟨_,rfl,fun K hK=>?_⟩;have dw:a.tmps[49]?=some (.pointer (some ⟨g,1,none⟩)):=by rw [ha];exact (putSel_off rfl).trans rfl
        replace ha:=qK ha;have BX:=qK (qB BKG.out QB);have be:w'.cell? ⟨g,1,none⟩=some (.int .i64 ac):=(qC BX.out 1).trans rfl;refine value_ (w1:=w') (v:=.int .i64 ac) (by rfl) rfl ?_ ?_
        ·go_simp;(try simp only [i64_w]);try rfl
        exact hK.out _ _ ⟨m2,m4,m5,ah,g2,ai,(by rw [ha.out];exact putSel_upk 4 hb_ rfl rfl rfl),QB,Q2,Q4,Q5,al,af,QZ,am⟩
       refine steps_cons ?_ ?_
       ·rintro b a w' ⟨m2,m4,m5,ah,g2,ai,ha,QB,Q2,Q4,Q5,al,af,QZ,am⟩ hb_ hon hoff;refine ⟨_,rfl,fun K hK=>?_⟩;have e3:a.tmps[3]?=some (.pointer (some ⟨gA,0,none⟩)):=by rw [ha];exact (putSel_off rfl).trans rfl
        replace ha:=qK ha;have BX:=qK (qB BKA.out QB);have bd:w'.cell? ⟨gA,0,none⟩=some (.slice A0 l0.length c0):=(qC BX.out 0).trans rfl;have be:w'.cell? ⟨gA,1,none⟩=some (.slice A1 l1.length c1):=(qC BX.out 1).trans rfl;refine value_ (w1:=w') (v:=.agg #[.slice A0 l0.length c0,.slice A1 l1.length c1]) (by rfl) rfl ?_ ?_
        ·go_simp;(try simp only [i64_w]);try rfl
        exact hK.out _ _ ⟨m2,m4,m5,ah,g2,ai,(by rw [ha.out];exact putSel_upk 5 hb_ rfl rfl rfl),QB,Q2,Q4,Q5,al,af,QZ,am⟩
       refine steps_cons ?_ ?_
       ·rintro b a w' ⟨m2,m4,m5,ah,g2,ai,ha,QB,Q2,Q4,Q5,al,af,QZ,am⟩ hb_ hon hoff;refine ⟨_,rfl,fun K hK=>?_⟩;have dh:a.tmps[51]?=some (.agg #[.slice A0 l0.length c0,.slice A1 l1.length c1]):=by rw [ha];exact putSel_on (e:=(8,51,.agg #[.slice A0 l0.length c0,.slice A1 l1.length c1])) 5 rfl rfl (hon 8 (by kernel_rfl)) rfl
        have di:a.tmps[52]?=some (.int .i64 a1):=by rw [ha];exact (putSel_off rfl).trans rfl
        replace ha:=qK ha;refine goes_ Try.func43 (by kernel_rfl) rfl #[.agg #[.slice A0 l0.length c0,.slice A1 l1.length c1],.int .i64 a1] (by rfl) rfl rfl (by simp only [mT,mC,mN,Act.eval,dh,di,Array.getD_eq_getD_getElem?,Option.getD_some]) ?_;have BW:=(FR.out.below_ QB).below;with_reducible refine (impl_Stats_size.calls k1 _ _ l0 _ _ l1 a1 ak _ (cB cn.out BW) cp.out (cB cq.out BW) cr.out cM.out).mono ?_
        rintro e bw ⟨rfl,hb⟩;refine ⟨_,rfl,?_⟩;exact hK.out _ _ ⟨m2,m4,m5,ah,g2,ai,(by rw [ha.out];exact putSel_upk 6 hb_ rfl rfl rfl),qT QB hb,fun h2 h5=>rB (Q2 h2 h5) hb,fun h4 h5=>rB (Q4 h4 h5) hb,fun h5=>rB (Q5 h5) hb,al,af,fun aA aw=>qB (QZ aA aw) hb,fun aw=>qB (am aw) hb⟩
       refine steps_cons ?_ ?_
       ·rintro b a w' ⟨m2,m4,m5,ah,g2,ai,ha,QB,Q2,Q4,Q5,al,af,QZ,am⟩ hb_ hon hoff;refine ⟨_,rfl,fun K hK=>?_⟩;have dx:a.tmps[50]?=some (.int .i64 ac):=by rw [ha];exact putSel_on (e:=(7,50,.int .i64 ac)) 4 rfl rfl (hon 7 (by kernel_rfl)) rfl
        have dy:a.tmps[53]?=some (.int .i64 ak):=by rw [ha];exact putSel_on (e:=(10,53,.int .i64 ak)) 6 rfl rfl (hon 10 (by kernel_rfl)) rfl
        replace ha:=qK ha;refine value_ (w1:=w') (v:=.int .i64 (wrap64 (ac + ak))) (by rfl) rfl ?_ ?_
        ·go_simp;(try simp only [i64_w]);try rfl
        exact hK.out _ _ ⟨m2,m4,m5,ah,g2,ai,(by rw [ha.out];exact putSel_upk 7 hb_ rfl rfl rfl),QB,Q2,Q4,Q5,al,af,QZ,am⟩
       refine steps_cons ?_ ?_
       ·rintro b a w' ⟨m2,m4,m5,ah,g2,ai,ha,QB,Q2,Q4,Q5,al,af,QZ,am⟩ hb_ hon hoff;refine ⟨_,rfl,fun K hK=>?_⟩;have R5:=Q5 (hon 5 (by kernel_rfl));obtain ⟨bn,bo,cl⟩:=Kd.R_slice R5;subst cl;have dz:a.tmps[48]?=some (.slice bn ab.length bo):=by rw [ha];exact putSel_on (e:=(5,48,.slice bn ab.length bo)) 3 rfl rfl (hon 5 (by kernel_rfl)) rfl
        have dA:a.tmps[54]?=some (.int .i64 (wrap64 (ac + ak))):=by rw [ha];exact putSel_on (e:=(11,54,.int .i64 (wrap64 (ac + ak)))) 7 rfl rfl (hon 11 (by kernel_rfl)) rfl
        replace ha:=qK ha;refine value_ (w1:=w') (v:=.agg #[.slice bn ab.length bo,.int .i64 (wrap64 (ac + ak))]) (by rfl) rfl ?_ ?_
        ·go_simp;(try simp only [i64_w]);try rfl
        exact hK.out _ _ ⟨m2,m4,.slice bn ab.length bo,_,g2,ai,(by rw [ha.out];exact putSel_upk 8 hb_ rfl rfl rfl),QB,Q2,Q4,Q5,fun _=>rfl,af,QZ,am⟩
       refine steps_cons ?_ ?_
       ·rintro b a w' ⟨m2,m4,m5,ah,g2,ai,ha,QB,Q2,Q4,Q5,al,af,QZ,am⟩ hb_ hon hoff;refine ⟨_,rfl,fun K hK=>?_⟩;replace ha:=qK ha;refine box_step ?hg (N:=14) ?hd (cs:=#[.slice none 0 0,.int .i64 0]) (t:=54) ?hr ?_;(case hd=>rfl);(case hg=>rfl);(case hr=>(go_simp;try rfl));intro g3 hg bw hbox hb;exact hK.out _ _ ⟨m2,m4,m5,ah,g3,(.pointer (some ⟨g3,0,none⟩)),(by rw [ha.out];exact putSel_upk 9 hb_ rfl rfl rfl),qT QB hb,fun h2 h5=>rB (Q2 h2 h5) hb,fun h4 h5=>rB (Q4 h4 h5) hb,fun h5=>rB (Q5 h5) hb,al,fun _=>⟨rfl,by rw [hg];exact QB.size⟩,fun _ _=>hbox,fun h_=>absurd ((hoff 14 (by kernel_rfl)).symm.trans h_) (by decide)⟩
       refine steps_cons ?_ ?_
       ·rintro b a w' ⟨m2,m4,m5,ah,g2,ai,ha,QB,Q2,Q4,Q5,al,af,QZ,am⟩ hb_ hon hoff;refine ⟨_,rfl,fun K hK=>?_⟩;have h5:=hon 5 (by kernel_rfl);have dj:=hon 12 (by kernel_rfl);have aA:=hon 13 (by kernel_rfl);have dk:a.tmps[14]?=some (ai):=by rw [ha];exact putSel_on (e:=(13,14,ai)) 9 rfl rfl (hon 13 (by kernel_rfl)) rfl
        rw [(af aA).1] at dk;have dl:a.tmps[55]?=some (ah):=by rw [ha];exact putSel_on (e:=(12,55,ah)) 8 rfl rfl (hon 12 (by kernel_rfl)) rfl
        rw [al dj] at dl;replace ha:=qK ha;have BX:=qK (QZ aA hb_);have R5:=qK (Q5 h5);have GX:=qK (af aA).2;obtain ⟨bn,bo,cl⟩:=Kd.R_slice R5.out;subst cl;have cZ:w'.cell? ⟨g2,0,none⟩=some (.slice none 0 0):=(qC BX.out 0).trans rfl;have da:w'.cell? ⟨g2,1,none⟩=some (.int .i64 0):=(qC BX.out 1).trans rfl;have db:=qF BX.out 0;have dc:=qF BX.out 1;have Q12':=qK al;have Q13':=qK af;clear Q2 Q4 Q5 al af QZ am;refine skip_ (w1:=?_) (by rfl) rfl ?_ ?_;rotate_left
        ·go_simp;rfl
        have ad:=qP (cs:=#[.slice none 0 0,.int .i64 0]) BX.out 0 (.slice bn ab.length bo) rfl;exact hK.out _ _ ⟨m2,m4,.slice bn ab.length bo,ah,g2,ai,(by rw [ha.out];exact putSel_none (v:=undef) rfl),(QB.setCell GX.out _).setCell GX.out _,fun _ h_=>absurd ((show b 5=true from h5).symm.trans h_) (by decide),fun _ h_=>absurd ((show b 5=true from h5).symm.trans h_) (by decide),fun _=>Kd.R_mono (Kd.R_far (p:=⟨g2,1,none⟩) (Kd.R_far (p:=⟨g2,0,none⟩) (Kd.R_types R5.out BX.out (by decide)) (fun _ hk=>hk.2) _) (fun _ hk=>hk.2) _) (fun _ hk=>hk.1),Q12'.out,Q13'.out,fun _ h_=>absurd (show true=false from h_) (by decide),fun _=>qP (cs:=#[.slice bn ab.length bo,.int .i64 0]) ad 1 _ rfl⟩
       exact steps_nil
      rintro b a bp hall ⟨m2,m4,m5,ah,g2,ai,ha,QB,Q2,Q4,Q5,al,af,QZ,am⟩;have bJ:=hall 1 (by kernel_rfl);have bK:=hall 2 (by kernel_rfl);have aR:=hall 4 (by kernel_rfl);have bs:=hall 5 (by kernel_rfl);have ay:=hall 7 (by kernel_rfl);have az:=hall 8 (by kernel_rfl);have bq:=hall 10 (by kernel_rfl);have br:=hall 11 (by kernel_rfl);have aT:=hall 12 (by kernel_rfl);have ar:=hall 13 (by kernel_rfl);have aU:=hall 14 (by kernel_rfl);subst ha;obtain rfl:=al aT;obtain rfl:=(af ar).1;simp only [putSel,bJ,bK,aR,bs,ay,az,bq,br,aT,ar,aU,if_true,Act.put,List.setIfInBounds_toArray,List.set_cons_zero,List.set_cons_succ];have RN:=qK (Kd.R_lower (Kd.R_mono (Kd.R_bound (Q5 bs)) (fun k_ hk_=>(show k_ ≠ M from by have:=FR.out.lt;have:=hk_.2.1;omega))) FR.out.below.size);have ao:=qK (am aU);have dB:=qK (show w0.heap.size≤g2 from Nat.le_trans FR.out.below.size (af ar).2);have N2D:=qK (show gD ≠ g2 from by have:=blk_lt BKD.out;have:=(af ar).2;omega);have HOd:=qK (rB HO.out QB);have HUd:=qK (rB HU.out QB);have BKAd:=qK (qB BKA.out QB);have BKBd:=qK (qB BKB.out QB);have BKDd:=qK (qB BKD.out QB);have HKd:=qK (Kept.below HK.out QB);have FRd:=qK (FR.out.below_ QB);clear HO HU BKA BKB BKD FR HK RV BKG QB Q2 Q4 Q5 al af QZ am hall bJ bK aR bs ay az bq br aT ar aU;have HO:=HOd;have HU:=HUd;have BKA:=BKAd;have BKB:=BKBd;have BKD:=BKDd;have FR:=FRd;have HK:=HKd;clear HOd HUd BKAd BKBd BKDd FRd HKd;obtain ⟨A5,c5,e5⟩:=Kd.R_slice RN.out;subst e5;obtain ⟨S,hS⟩:∃ S,S=wrap64 (ac + ak):=⟨_,rfl⟩;rw [← hS] at H' ao ⊢;clear hS;have bX:bp.cell? ⟨g2,0,none⟩=some (.slice A5 ab.length c5):=(qC ao.out 0).trans rfl;have bY:bp.cell? ⟨g2,1,none⟩=some (.int .i64 S):=(qC ao.out 1).trans rfl;have aC:=qF ao.out 0;have aD:=qF ao.out 1;have hNe:=qK (show ab ≠ [] from by rw [bm.out,bl.out];simp);by_cases c29:(o.length:Int)=0
      ·have H2:=H'.out;rw [if_pos c29] at H2;have H':=qK H2;clear H2;have av:o=[]:=List.eq_nil_of_length_eq_zero (by omega);obtain rfl:=HN.out av;clear av c29 HN;have bd:bp.cell? ⟨gD,0,none⟩=some (.slice none 0 0):=(qC BKD.out 0).trans rfl;have be:bp.cell? ⟨gD,1,none⟩=some (.int .i64 s):=(qC BKD.out 1).trans rfl;have aV:=qF BKD.out 0;have aW:=qF BKD.out 1;have hnd:=N2D.out;have hnd':=N2D.out.symm;go_wp2_with (first|((with_reducible refine gate_store (t:=54) (p:=10) rfl ?_);refine store_event (t:=54) (p:=10) (v:=?vo3_) (w1:=((bp.setCell ⟨gD,0,none⟩ (.slice A5 ab.length c5)).setCell ⟨gD,1,none⟩ (.int .i64 S))) ?hg ?ho ?hn ?hr ?_;(case ho=>rfl);(case hg=>rfl);(case hn=>rfl);(case hr=>(go_simp;try rfl));intro w6 hw;have hge:=Nat.le_trans bk.out GED.out;have ad:=qP (cs:=#[.slice none 0 0,.int .i64 s]) BKD.out 0 (.slice A5 ab.length c5) rfl;have bL:=qK (show FrM (BF l0 l1) 3 w0 M w6 from by rw [hw];exact (FR.out.set hge BKD.out (by decide)).set hge ad (by decide));have bM:=qK (show Kept w w6 (fun k_=>k_=M) from by rw [hw];exact Kept.setCell (Kept.setCell HK.out (.inr GED.out) _) (.inr GED.out) _);have aX:=qK (show w6.heap[gA]?=some (.cells #[.slice A0 l0.length c0,.slice A1 l1.length c1] 29 (0,0)) from by rw [hw];exact qR (qR BKA.out NAD.out _) NAD.out _);have aY:=qK (show w6.heap[gB]?=some (.cells #[.slice none 0 0,.int .i64 0] 54 (0,0)) from by rw [hw];exact qR (qR BKB.out NBD.out _) NBD.out _);have aZ:=qK (show w6.heap[gD]?=some (.cells #[.slice A5 ab.length c5,.int .i64 S] 54 (0,0)) from by rw [hw];exact qP (cs:=#[.slice A5 ab.length c5,.int .i64 s]) ad 1 _ rfl);have bN:=qK (show Kd.R (Kd.int .i64) 3 w6 w0.heap.size (fun k_=>k_ ≠ M) (.slice (some aQ) aa.length co) aa from by rw [hw];exact Kd.R_mono (Kd.R_far (p:=⟨gD,1,none⟩) (Kd.R_far (p:=⟨gD,0,none⟩) (Kd.R_types HO.out BKD.out (by decide)) (fun _ hk=>hk.2) _) (fun _ hk=>hk.2) _) (fun _ hk=>hk.1));have bO:=qK (show Kd.R (Kd.int .i64) 3 w6 w0.heap.size (fun k_=>k_ ≠ M) (.slice A5 ab.length c5) ab from by rw [hw];exact Kd.R_mono (Kd.R_far (p:=⟨gD,1,none⟩) (Kd.R_far (p:=⟨gD,0,none⟩) (Kd.R_types RN.out BKD.out (by decide)) (fun _ hk=>hk.2) _) (fun _ hk=>hk.2) _) (fun _ hk=>hk.1));clear hw ad hge))
       go_roundg k1
       case measure=>have:=aG.out;omega
       case rel=>exact ⟨wrap64 (x + 1),ab,S,.slice A5 ab.length c5,(by rfl),H',⟨by have:=aG.out;omega⟩,bN,bO,⟨fun e_=>absurd e_ hNe.out⟩,aX,aY,aZ,bL,bM⟩
      ·have H2:=H'.out;rw [if_neg c29] at H2;obtain ⟨gU,cU,eU,_,_,_⟩:=Kd.R_form HU.out (by omega);subst eU;clear c29;have bd:bp.cell? ⟨gD,0,none⟩=some (.slice (some ⟨gU,0,none⟩) o.length cU):=(qC BKD.out 0).trans rfl;have be:bp.cell? ⟨gD,1,none⟩=some (.int .i64 s):=(qC BKD.out 1).trans rfl;have aV:=qF BKD.out 0;have aW:=qF BKD.out 1;have hnd:=N2D.out;have hnd':=N2D.out.symm;by_cases c30:S < s
       ·have H':=qK (show impl_Stats_best.l0 k1 a1 aa (aa.length:Int) (wrap64 (x + 1)) l0 l1 ab S=some (r1,r2) from by rw [if_pos c30] at H2;exact H2);clear H2;have bP:decide (S < s)=true:=decide_eq_true c30;clear c30;go_wp2_with (first|((with_reducible refine gate_store (t:=54) (p:=10) rfl ?_);refine store_event (t:=54) (p:=10) (v:=?vo4_) (w1:=((bp.setCell ⟨gD,0,none⟩ (.slice A5 ab.length c5)).setCell ⟨gD,1,none⟩ (.int .i64 S))) ?hg ?ho ?hn ?hr ?_;(case ho=>rfl);(case hg=>rfl);(case hn=>rfl);(case hr=>(go_simp;try rfl));intro w6 hw;have hge:=Nat.le_trans bk.out GED.out;have ad:=qP (cs:=#[.slice (some ⟨gU,0,none⟩) o.length cU,.int .i64 s]) BKD.out 0 (.slice A5 ab.length c5) rfl;have bL:=qK (show FrM (BF l0 l1) 3 w0 M w6 from by rw [hw];exact (FR.out.set hge BKD.out (by decide)).set hge ad (by decide));have bM:=qK (show Kept w w6 (fun k_=>k_=M) from by rw [hw];exact Kept.setCell (Kept.setCell HK.out (.inr GED.out) _) (.inr GED.out) _);have aX:=qK (show w6.heap[gA]?=some (.cells #[.slice A0 l0.length c0,.slice A1 l1.length c1] 29 (0,0)) from by rw [hw];exact qR (qR BKA.out NAD.out _) NAD.out _);have aY:=qK (show w6.heap[gB]?=some (.cells #[.slice none 0 0,.int .i64 0] 54 (0,0)) from by rw [hw];exact qR (qR BKB.out NBD.out _) NBD.out _);have aZ:=qK (show w6.heap[gD]?=some (.cells #[.slice A5 ab.length c5,.int .i64 S] 54 (0,0)) from by rw [hw];exact qP (cs:=#[.slice A5 ab.length c5,.int .i64 s]) ad 1 _ rfl);have bN:=qK (show Kd.R (Kd.int .i64) 3 w6 w0.heap.size (fun k_=>k_ ≠ M) (.slice (some aQ) aa.length co) aa from by rw [hw];exact Kd.R_mono (Kd.R_far (p:=⟨gD,1,none⟩) (Kd.R_far (p:=⟨gD,0,none⟩) (Kd.R_types HO.out BKD.out (by decide)) (fun _ hk=>hk.2) _) (fun _ hk=>hk.2) _) (fun _ hk=>hk.1));have bO:=qK (show Kd.R (Kd.int .i64) 3 w6 w0.heap.size (fun k_=>k_ ≠ M) (.slice A5 ab.length c5) ab from by rw [hw];exact Kd.R_mono (Kd.R_far (p:=⟨gD,1,none⟩) (Kd.R_far (p:=⟨gD,0,none⟩) (Kd.R_types RN.out BKD.out (by decide)) (fun _ hk=>hk.2) _) (fun _ hk=>hk.2) _) (fun _ hk=>hk.1));clear hw ad hge))
        go_roundg k1
        case measure=>have:=aG.out;omega
        case rel=>exact ⟨wrap64 (x + 1),ab,S,.slice A5 ab.length c5,(by rfl),H',⟨by have:=aG.out;omega⟩,bN,bO,⟨fun e_=>absurd e_ hNe.out⟩,aX,aY,aZ,bL,bM⟩
       ·rw [if_neg c30] at H2;have bP:decide (S < s)=false:=decide_eq_false c30;clear c30;by_cases c31:S=s
        ·rw [if_pos c31] at H2;have bQ:(S == s)=true:=beq_iff_eq.mpr c31;replace H2:=Option.bind_eq_some_iff.mp H2;obtain ⟨ba,bR,H2⟩:=H2;have cy:=qK bR;clear bR;by_cases c32:ba < 0
         ·have H':=qK (show impl_Stats_best.l0 k1 a1 aa (aa.length:Int) (wrap64 (x + 1)) l0 l1 ab S=some (r1,r2) from by rw [if_pos c32] at H2;exact H2);clear H2;have bS:decide (ba < 0)=true:=decide_eq_true c32;clear c32 c31;go_wp2_with (first|(go_at_call 58;(with_reducible refine (slices_Compare_int_int.calls k1 _ _ ab _ _ o ba _ (Kd.R_reads' RN.out).2.2 (Kd.R_reads' RN.out).2.1 (Kd.R_reads' HU.out).2.2 (Kd.R_reads' HU.out).2.1 cy.out).mono ?_);rintro e w5 ⟨rfl,hdr⟩;have an:=hdr.below;have bT:=qK (rB HO.out an);have bt:=qK (rB HU.out an);have bU:=qK (rB RN.out an);have bb:=qK (qB BKA.out an);have ag:=qK (qB BKB.out an);have au:=qK (qB BKD.out an);have bc:=qK (qB ao.out an);have bu:=qK (Kept.below HK.out an);have bv:=qK (FR.out.below_ an);clear HO HU RN BKA BKB BKD ao HK FR an hdr bd be aV aW bX bY aC aD;have HO:=bT;have HU:=bt;have RN:=bU;have BKA:=bb;have BKB:=ag;have BKD:=au;have ao:=bc;have HK:=bu;have FR:=bv;clear bT bt bU bb ag au bc bu bv;have bX:w5.cell? ⟨g2,0,none⟩=some (.slice A5 ab.length c5):=(qC ao.out 0).trans rfl;have bY:w5.cell? ⟨g2,1,none⟩=some (.int .i64 S):=(qC ao.out 1).trans rfl;have aC:=qF ao.out 0;have aD:=qF ao.out 1;have bd:w5.cell? ⟨gD,0,none⟩=some (.slice (some ⟨gU,0,none⟩) o.length cU):=(qC BKD.out 0).trans rfl;have be:w5.cell? ⟨gD,1,none⟩=some (.int .i64 s):=(qC BKD.out 1).trans rfl;have aV:=qF BKD.out 0;have aW:=qF BKD.out 1)|((with_reducible refine gate_store (t:=54) (p:=10) rfl ?_);refine store_event (t:=54) (p:=10) (v:=?vo5_) (w1:=((w5.setCell ⟨gD,0,none⟩ (.slice A5 ab.length c5)).setCell ⟨gD,1,none⟩ (.int .i64 S))) ?hg ?ho ?hn ?hr ?_;(case ho=>rfl);(case hg=>rfl);(case hn=>rfl);(case hr=>(go_simp;try rfl));intro w6 hw;have hge:=Nat.le_trans bk.out GED.out;have ad:=qP (cs:=#[.slice (some ⟨gU,0,none⟩) o.length cU,.int .i64 s]) BKD.out 0 (.slice A5 ab.length c5) rfl;have bL:=qK (show FrM (BF l0 l1) 3 w0 M w6 from by rw [hw];exact (FR.out.set hge BKD.out (by decide)).set hge ad (by decide));have bM:=qK (show Kept w w6 (fun k_=>k_=M) from by rw [hw];exact Kept.setCell (Kept.setCell HK.out (.inr GED.out) _) (.inr GED.out) _);have aX:=qK (show w6.heap[gA]?=some (.cells #[.slice A0 l0.length c0,.slice A1 l1.length c1] 29 (0,0)) from by rw [hw];exact qR (qR BKA.out NAD.out _) NAD.out _);have aY:=qK (show w6.heap[gB]?=some (.cells #[.slice none 0 0,.int .i64 0] 54 (0,0)) from by rw [hw];exact qR (qR BKB.out NBD.out _) NBD.out _);have aZ:=qK (show w6.heap[gD]?=some (.cells #[.slice A5 ab.length c5,.int .i64 S] 54 (0,0)) from by rw [hw];exact qP (cs:=#[.slice A5 ab.length c5,.int .i64 s]) ad 1 _ rfl);have bN:=qK (show Kd.R (Kd.int .i64) 3 w6 w0.heap.size (fun k_=>k_ ≠ M) (.slice (some aQ) aa.length co) aa from by rw [hw];exact Kd.R_mono (Kd.R_far (p:=⟨gD,1,none⟩) (Kd.R_far (p:=⟨gD,0,none⟩) (Kd.R_types HO.out BKD.out (by decide)) (fun _ hk=>hk.2) _) (fun _ hk=>hk.2) _) (fun _ hk=>hk.1));have bO:=qK (show Kd.R (Kd.int .i64) 3 w6 w0.heap.size (fun k_=>k_ ≠ M) (.slice A5 ab.length c5) ab from by rw [hw];exact Kd.R_mono (Kd.R_far (p:=⟨gD,1,none⟩) (Kd.R_far (p:=⟨gD,0,none⟩) (Kd.R_types RN.out BKD.out (by decide)) (fun _ hk=>hk.2) _) (fun _ hk=>hk.2) _) (fun _ hk=>hk.1));clear hw ad hge))
          go_roundg k1
          case measure=>have:=aG.out;omega
          case rel=>exact ⟨wrap64 (x + 1),ab,S,.slice A5 ab.length c5,(by rfl),H',⟨by have:=aG.out;omega⟩,bN,bO,⟨fun e_=>absurd e_ hNe.out⟩,aX,aY,aZ,bL,bM⟩
         ·have H':=qK (show impl_Stats_best.l0 k1 a1 aa (aa.length:Int) (wrap64 (x + 1)) l0 l1 o s=some (r1,r2) from by rw [if_neg c32] at H2;exact H2);clear H2;have bS:decide (ba < 0)=false:=decide_eq_false c32;clear c32 c31;go_wp2_with (first|(go_at_call 58;(with_reducible refine (slices_Compare_int_int.calls k1 _ _ ab _ _ o ba _ (Kd.R_reads' RN.out).2.2 (Kd.R_reads' RN.out).2.1 (Kd.R_reads' HU.out).2.2 (Kd.R_reads' HU.out).2.1 cy.out).mono ?_);rintro e w5 ⟨rfl,hdr⟩;have an:=hdr.below;have bT:=qK (rB HO.out an);have bt:=qK (rB HU.out an);have bU:=qK (rB RN.out an);have bb:=qK (qB BKA.out an);have ag:=qK (qB BKB.out an);have au:=qK (qB BKD.out an);have bc:=qK (qB ao.out an);have bu:=qK (Kept.below HK.out an);have bv:=qK (FR.out.below_ an);clear HO HU RN BKA BKB BKD ao HK FR an hdr bd be aV aW bX bY aC aD;have HO:=bT;have HU:=bt;have RN:=bU;have BKA:=bb;have BKB:=ag;have BKD:=au;have ao:=bc;have HK:=bu;have FR:=bv;clear bT bt bU bb ag au bc bu bv;have bX:w5.cell? ⟨g2,0,none⟩=some (.slice A5 ab.length c5):=(qC ao.out 0).trans rfl;have bY:w5.cell? ⟨g2,1,none⟩=some (.int .i64 S):=(qC ao.out 1).trans rfl;have aC:=qF ao.out 0;have aD:=qF ao.out 1;have bd:w5.cell? ⟨gD,0,none⟩=some (.slice (some ⟨gU,0,none⟩) o.length cU):=(qC BKD.out 0).trans rfl;have be:w5.cell? ⟨gD,1,none⟩=some (.int .i64 s):=(qC BKD.out 1).trans rfl;have aV:=qF BKD.out 0;have aW:=qF BKD.out 1))
          go_roundg k1
          case measure=>have:=aG.out;omega
          case rel=>exact ⟨wrap64 (x + 1),o,s,.slice (some ⟨gU,0,none⟩) o.length cU,(by rfl),H',⟨by have:=aG.out;omega⟩,HO,HU,HN,BKA,BKB,BKD,FR,HK⟩
        ·have H':=qK (show impl_Stats_best.l0 k1 a1 aa (aa.length:Int) (wrap64 (x + 1)) l0 l1 o s=some (r1,r2) from by rw [if_neg c31] at H2;exact H2);clear H2;have bQ:(S == s)=false:=beq_eq_false_iff_ne.mpr c31;clear c31;go_wp2
         go_roundg k1
         case measure=>have:=aG.out;omega
         case rel=>exact ⟨wrap64 (x + 1),o,s,.slice (some ⟨gU,0,none⟩) o.length cU,(by rfl),H',⟨by have:=aG.out;omega⟩,HO,HU,HN,BKA,BKB,BKD,FR,HK⟩
     ·rw [if_neg c20] at H;have bB:decide (x < (aa.length:Int))=false:=decide_eq_false c20;clear c20;simp only [Option.some.injEq,Prod.mk.injEq] at H;obtain ⟨rfl,rfl⟩:=H;obtain ⟨Au,cu,eu⟩:=Kd.R_slice HU.out;subst eu;obtain ⟨c,hmap,hent⟩:=FR.out.map;have HMAP:=qK hmap;have HENT:=qK hent;clear hmap hent;have bd:wr.cell? ⟨gD,0,none⟩=some (.slice Au o.length cu):=(qC BKD.out 0).trans rfl;have be:wr.cell? ⟨gD,1,none⟩=some (.int .i64 s):=(qC BKD.out 1).trans rfl;go_wp2_with (first|((with_reducible refine gate_pput (t:=58) rfl ?_);refine pput_event (t:=58) (g:=M) (c:=c) (y:=a1) (u:=.agg #[.slice Au o.length cu,.int .i64 s]) rfl rfl rfl (by rfl) (by rfl) (by rfl) Try.underlying58 Try.underlying56 HMAP.out ?_;intro w5 hw;have bv:=qK (show FrM (BF l0 l1) 3 w0 M w5 from by rw [hw];exact FR.out.put HM.out HMAP.out HENT.out HU.out HBF.out);have bu:=qK (show Kept w w5 (fun k_=>k_=M) from by rw [hw];exact Kept.then_ HK.out (pobj_kept HMAP.out) (fun k_ h_=>.inl h_));have ag:=qK (show w5.heap[gB]?=some (.cells #[.slice none 0 0,.int .i64 0] 54 (0,0)) from by rw [hw];exact (pobj_other HMAP.out (FR.out.ne BKB.out)).trans BKB.out);have au:=qK (show w5.heap[gD]?=some (.cells #[.slice Au o.length cu,.int .i64 s] 54 (0,0)) from by rw [hw];exact (pobj_other HMAP.out (FR.out.ne BKD.out)).trans BKD.out);have bt:=qK (show Kd.R (Kd.int .i64) 3 w5 w0.heap.size (fun k_=>k_ ≠ M) (.slice Au o.length cu) o from by rw [hw];exact Kd.R_step HU.out (fun k_ ho hk=>pobj_other HMAP.out ho));clear hw bd be FR HK BKB BKD HU;have bd:w5.cell? ⟨gD,0,none⟩=some (.slice Au o.length cu):=(qC au.out 0).trans rfl;have be:w5.cell? ⟨gD,1,none⟩=some (.int .i64 s):=(qC au.out 1).trans rfl;have dC:w5.cell? ⟨gB,0,none⟩=some (.slice none 0 0):=(qC ag.out 0).trans rfl;have dD:w5.cell? ⟨gB,1,none⟩=some (.int .i64 0):=(qC ag.out 1).trans rfl;have dm:=qF ag.out 0;have dn:=qF ag.out 1))
      have hge:=Nat.le_trans bk.out GEB.out;have ad:=qP (cs:=#[.slice none 0 0,.int .i64 0]) ag.out 0 (.slice Au o.length cu) rfl;have F2:=bv.out.set (i:=0) (v:=.slice Au o.length cu) hge ag.out (by decide);have F3:=F2.set (i:=1) (v:=.int .i64 s) hge ad (by decide);refine bodyPost_ret (results_cell_row rfl _ _ gB 54 #[.slice Au o.length cu,.int .i64 s] (0,0) _ rfl (qP (cs:=#[.slice Au o.length cu,.int .i64 0]) ad 1 _ rfl) Try.underlying54 rfl (by kernel_rfl)) rfl ?_;refine ⟨_,rfl,?_,F3,Kept.setCell (Kept.setCell bu.out (.inr GEB.out) _) (.inr GEB.out) _⟩;exact Kd.R_mono (Kd.R_far (p:=⟨gB,1,none⟩) (Kd.R_far (p:=⟨gB,0,none⟩) (Kd.R_types bt.out ag.out (by decide)) (fun _ hk=>hk.2) _) (fun _ hk=>hk.2) _) (fun _ hk=>hk.1)

/-! ### impl_setOf: function 36 -/
def impl_setOf.l0 : Nat→Int→List Int→Int→Int→Option (Int)
 | 0,_,_,_,_=>none
 | k + 1,x3,x6,x7,x8=>if x8 < x7 then (if 0≤x8 then (if x8 < (x6.length:Int) then (if 0≤(rd x6 x8) then (impl_setOf.l0 k (Go.bits .or .i64 x3 (shl .i64 1 (rd x6 x8))) x6 x7 (wrap64 (x8 + 1))) else (none)) else (none)) else (none)) else (some x3)
def impl_setOf.f (k:Nat) (l0:List Int):Option (Int):=impl_setOf.l0 k 0 l0 (l0.length:Int) 0
theorem impl_setOf.mono_l : ∀ k,(∀ y0 y1 y2 y3,LeO (impl_setOf.l0 k y0 y1 y2 y3) (impl_setOf.l0 (k + 1) y0 y1 y2 y3))
 | 0=>fun _ _ _ _ r h=>by simp [impl_setOf.l0] at h
 | k + 1=>by
  have aa:=impl_setOf.mono_l k
  ·intro y0 y1 y2 y3;unfold impl_setOf.l0
   repeat' first
   | (with_reducible exact aa _ _ _ _)
   | (with_reducible exact LeO.refl _)
   | (with_reducible exact LeO.none _)
   | (with_reducible refine LeO.ite ?_ ?_)
   | (with_reducible refine LeO.bind ?_ (fun _=>?_))
   | exact aa _ _ _ _
   | exact LeO.none _
   | refine LeO.ite ?_ ?_
   | refine LeO.bind ?_ (fun _=>?_)
theorem impl_setOf.mono : ∀ a0 k,LeO (impl_setOf.f k a0) (impl_setOf.f (k + 1) a0):=by
 intro a0 k;have aa:=impl_setOf.mono_l k;unfold impl_setOf.f
 repeat' first
   | (with_reducible exact aa _ _ _ _)
   | (with_reducible exact LeO.refl _)
   | (with_reducible exact LeO.none _)
   | (with_reducible refine LeO.ite ?_ ?_)
   | (with_reducible refine LeO.bind ?_ (fun _=>?_))
   | exact aa _ _ _ _
   | exact LeO.none _
   | refine LeO.ite ?_ ?_
   | refine LeO.bind ?_ (fun _=>?_)
set_option maxHeartbeats 8000000 in
set_option maxRecDepth 100000 in
theorem impl_setOf.calls (k:Nat) (A0:Option Addr) (c0:Nat) (l0:List Int) (r:Int) (w:World) (al:Kd.C (Kd.int .i64) w A0 l0.length l0) (am:l0.length≤c0) (h:impl_setOf.f k l0=some r) :
  Calls Try.prog 36 #[.slice A0 l0.length c0] w fun e w'=>e=.returned (.int .i64 r)∧Drawn0 w w':=by
 have av:=qK al;have aA:=qK am;clear al am;have H:(impl_setOf.l0 k 0 l0 (l0.length:Int) 0)=some r:=h;clear h;have H':=qK H;clear H;go_enter Try.func36,Try.ntmps36
 go_wp2
 go_loopg [3,8] k (fun kq v3 v8 w'=>∃ (ab:Int) (aa:Int),v3=.int .i64 ab∧v8=.int .i64 aa∧Aside0 (impl_setOf.l0 kq ab l0 (l0.length:Int) aa=some r)∧Aside0 (kq≤k)∧Drawn0 w w')
 case atStart=>exact ⟨(0),(0),(by rfl),(by rfl),H',⟨Nat.le_refl _⟩,by repeat (first|exact Drawn0.refl _|apply Drawn0.step)⟩
 case round =>
  clear H';obtain ⟨ab,aa,rfl,rfl,HA,an,⟨m1,rfl⟩⟩:=hrel;cases gk with
  | zero=>exact absurd HA.out (by simp [impl_setOf.l0])
  | succ k1 =>
   have H:=HA.out;clear HA;simp only [impl_setOf.l0] at H;by_cases c2:aa < (l0.length:Int)
   ·rw [if_pos c2] at H;have aj:decide (aa < (l0.length:Int))=true:=decide_eq_true c2;clear c2;by_cases c3:0≤aa
    ·rw [if_pos c3] at H;have aw:decide (0≤aa)=true:=decide_eq_true c3;clear c3;by_cases c4:aa < (l0.length:Int)
     ·rw [if_pos c4] at H;have ax:decide (aa < (l0.length:Int))=true:=decide_eq_true c4;clear c4;by_cases c5:0≤(rd l0 aa)
      ·rw [if_pos c5] at H;have ay:=eq_true c5;have az:decide (0≤(rd l0 aa))=true:=decide_eq_true c5;clear c5;obtain ⟨ad,ac⟩:∃ j_:Int,(shl .i64 1 (rd l0 aa))=j_:=⟨_,rfl⟩;replace H:(impl_setOf.l0 k1 (Go.bits .or .i64 ab (ad)) l0 (l0.length:Int) (wrap64 (aa + 1)))=some r:=by first|(rw [ac] at H;exact H)|(simp only [ac] at H ⊢;exact H)
       have ae:(IntKind.i64.wrap (1 * 2 ^ min (rd l0 aa).toNat 64))=ad:=ac;have af:(rd l0 aa)≤64→(IntKind.i64.wrap (1 * 2 ^ (rd l0 aa).toNat))=ad:=shl_small ac;have ao:(IntKind.i64.wrap (2 ^ min (rd l0 aa).toNat 64))=ad:=by have h_:=ae;rw [Int.one_mul] at h_;exact h_
       have ap:(rd l0 aa)≤64→(IntKind.i64.wrap (2 ^ (rd l0 aa).toNat))=ad:=fun hle_=>by have h_:=af hle_;rw [Int.one_mul] at h_;exact h_
       have aq:(wrap64 (1 * 2 ^ min (rd l0 aa).toNat 64))=ad:=(i64_w _).symm.trans ae;have ar:(rd l0 aa)≤64→(wrap64 (1 * 2 ^ (rd l0 aa).toNat))=ad:=fun h_=>(i64_w _).symm.trans (af h_)
       have H':=qK H;clear H;have ag:0≤(aa:Int):=of_decide_eq_true (by assumption);have ah:aa < (l0.length:Int):=of_decide_eq_true (by assumption);obtain ⟨au,ak,ai⟩:=Kd.at_int av.out aa ag ah;cases ak
       replace ag:=eq_true ag;replace ah:=eq_true ah;go_wp2
       go_roundg k1
       case measure=>have:=an.out;omega
       case rel=>exact ⟨(Go.bits .or .i64 ab (ad)),(wrap64 (aa + 1)),(by first|rfl|(simp;done)|(simp only [← ac] <;> (first|rfl|simp))|(simp [*];done)),(by rfl),H',⟨by have:=an.out;omega⟩,by repeat (first|exact Drawn0.refl _|apply Drawn0.step)⟩
      ·rw [if_neg c5] at H;exact absurd H (by simp)
     ·rw [if_neg c4] at H;exact absurd H (by simp)
    ·rw [if_neg c3] at H;exact absurd H (by simp)
   ·rw [if_neg c2] at H;have aj:decide (aa < (l0.length:Int))=false:=decide_eq_false c2;clear c2;obtain rfl:=Option.some.inj H;go_wp2
    go_ret
    exact ⟨by first|rfl|(simp;done)|(simp [*];done),by repeat (first|exact Drawn0.refl _|apply Drawn0.step)⟩

/-! ### impl_BestOf: function 10 -/
def impl_BestOf.j0 : Nat→List Int→Bool→List Int→List (List Int)→Option (List Int × Int × Bool)
 | 0,_,_,_,_=>none
 | k + 1,x1,x16,x240000,x240001=>if x16=true then (some (([]:List Int),0,false)) else ((impl_setOf.f k x1).bind fun t242=>((impl_Stats_best.f k x240000 x240001 t242).bind fun bt243=>(some (bt243.1,bt243.2,true))))
def impl_BestOf.f (k:Nat) (l0_0:List Int) (l0_1:List (List Int)) (l1:List Int):Option (List Int × Int × Bool):=(impl_GoodStats.f k l0_0 l0_1).bind fun t240=>(if t240=true then ((impl_Stats_areSome.f k l0_0 l0_1 l1).bind fun t241=>(impl_BestOf.j0 k l1 (!t241) l0_0 l0_1)) else (impl_BestOf.j0 k l1 true l0_0 l0_1))
theorem impl_BestOf.mono_l : ∀ k,(∀ y0 y1 y2 y3,LeO (impl_BestOf.j0 k y0 y1 y2 y3) (impl_BestOf.j0 (k + 1) y0 y1 y2 y3))
 | 0=>fun _ _ _ _ r h=>by simp [impl_BestOf.j0] at h
 | k + 1=>by
  have aa:=impl_BestOf.mono_l k
  ·intro y0 y1 y2 y3;unfold impl_BestOf.j0
   repeat' first
   | (with_reducible exact aa _ _ _ _)
   | (with_reducible exact impl_GoodStats.mono _ _ _)
   | (with_reducible exact impl_Stats_areSome.mono _ _ _ _)
   | (with_reducible exact impl_Stats_best.mono _ _ _ _)
   | (with_reducible exact impl_setOf.mono _ _)
   | (with_reducible exact LeO.refl _)
   | (with_reducible exact LeO.none _)
   | (with_reducible refine LeO.ite ?_ ?_)
   | (with_reducible refine LeO.bind ?_ (fun _=>?_))
   | exact aa _ _ _ _
   | exact impl_GoodStats.mono _ _ _
   | exact impl_Stats_areSome.mono _ _ _ _
   | exact impl_Stats_best.mono _ _ _ _
   | exact impl_setOf.mono _ _
   | exact LeO.none _
   | refine LeO.ite ?_ ?_
   | refine LeO.bind ?_ (fun _=>?_)
theorem impl_BestOf.mono : ∀ a0 a1 a2 k,LeO (impl_BestOf.f k a0 a1 a2) (impl_BestOf.f (k + 1) a0 a1 a2):=by
 intro a0 a1 a2 k;have aa:=impl_BestOf.mono_l k;unfold impl_BestOf.f
 repeat' first
   | (with_reducible exact aa _ _ _ _)
   | (with_reducible exact impl_GoodStats.mono _ _ _)
   | (with_reducible exact impl_Stats_areSome.mono _ _ _ _)
   | (with_reducible exact impl_Stats_best.mono _ _ _ _)
   | (with_reducible exact impl_setOf.mono _ _)
   | (with_reducible exact LeO.refl _)
   | (with_reducible exact LeO.none _)
   | (with_reducible refine LeO.ite ?_ ?_)
   | (with_reducible refine LeO.bind ?_ (fun _=>?_))
   | exact aa _ _ _ _
   | exact impl_GoodStats.mono _ _ _
   | exact impl_Stats_areSome.mono _ _ _ _
   | exact impl_Stats_best.mono _ _ _ _
   | exact impl_setOf.mono _ _
   | exact LeO.none _
   | refine LeO.ite ?_ ?_
   | refine LeO.bind ?_ (fun _=>?_)
set_option maxHeartbeats 8000000 in
set_option maxRecDepth 100000 in
theorem impl_BestOf.calls (k:Nat) (ae:Option Addr) (af:Nat) (ab:List Int) (ag:Option Addr) (ah:Nat) (ac:List (List Int)) (A1:Option Addr) (c1:Nat) (l1:List Int) (r1:List Int) (r2:Int) (r3:Bool) (w:World) (aN:Kd.C (Kd.int .i64) w ae ab.length ab) (aQ:ab.length≤af) (aR:Kd.C (Kd.slice 3 (Kd.int .i64)) w ag ac.length ac) (aT:ac.length≤ah) (bk:Kd.C (Kd.int .i64) w A1 l1.length l1) (bl:l1.length≤c1) (h:impl_BestOf.f k ab ac l1=some (r1,r2,r3)) :
  Calls Try.prog 10 #[.agg #[.slice ae ab.length af,.slice ag ac.length ah],.slice A1 l1.length c1] w fun e w'=>∃ bm:Value,e=.returned (.tuple #[bm,.int .i64 r2,.bool r3])∧Kd.R (Kd.int .i64) 3 w' w.heap.size (fun _=>True) bm r1∧Below w.heap.size w w':=by
 have bu:=Try.underlying29;have bv:=Try.underlying54;have am:=qK aN;have an:=qK aQ;clear aN aQ;have ao:=qK aR;have ap:=qK aT;clear aR aT;have bn:=qK bk;have bo:=qK bl;clear bk bl;have HB:=qK (Below.refl w.heap.size w);have H:((impl_GoodStats.f k ab ac).bind fun aA=>(if aA=true then ((impl_Stats_areSome.f k ab ac l1).bind fun ai=>(impl_BestOf.j0 k l1 (!ai) ab ac)) else (impl_BestOf.j0 k l1 true ab ac)))=some (r1,r2,r3):=h;clear h;have bf:=qK H;clear H;go_enter Try.func10,Try.ntmps10
 go_upto_region 1 with (first|((with_reducible refine gate_dst (N:=2) rfl ?_);refine box_event ?hg (N:=2) ?hd (cs:=#[.slice ae ab.length af,.slice ag ac.length ah]) (t:=29) ?hr ?_;(case hd=>rfl);(case hg=>rfl);(case hr=>(go_simp;try rfl));intro ad hg w4 hbox hb;have av:=qK (qT HB.out hb);have aw:=qK (hbox);have bg:=qK ((by rw [hg];exact (qZ HB.out):w.heap.size≤ad));have bp:=bg;clear HB;have HB:=av;have aa:=aw;have bq:=bg;have aq:=bp;clear av aw bg bp;clear hb hbox hg))
 (try simp only [Act.put,List.setIfInBounds_toArray,List.set_cons_zero,List.set_cons_succ]);go_cut [16] (fun bw wc=>∃ (kq:Nat) (ar:Bool),bw=.bool ar∧Aside0 (impl_BestOf.j0 kq l1 ar ab ac=some (r1,r2,r3))∧Aside0 (kq≤k)∧Aside0 (wc.heap[ad]?=some (.cells #[(.slice ae ab.length af),(.slice ag ac.length ah)] 29 (0,0)))∧Aside0 (Below w.heap.size w wc))
 case first =>
  have H:=bf.out;clear bf;replace H:=Option.bind_eq_some_iff.mp H;obtain ⟨aA,br,H⟩:=H;replace H:(if aA=true then ((impl_Stats_areSome.f k ab ac l1).bind fun ai=>(impl_BestOf.j0 k l1 (!ai) ab ac)) else (impl_BestOf.j0 k l1 true ab ac))=some (r1,r2,r3):=H;have A5:=qK br;clear br;by_cases c6:aA=true
  ·subst c6;have H1:((impl_Stats_areSome.f k ab ac l1).bind fun ai=>(impl_BestOf.j0 k l1 (!ai) ab ac))=some (r1,r2,r3):=by rw [if_pos rfl] at H;exact H
   clear H;have H:=H1;clear H1;replace H:=Option.bind_eq_some_iff.mp H;obtain ⟨ai,bs,H⟩:=H;replace H:(impl_BestOf.j0 k l1 (!ai) ab ac)=some (r1,r2,r3):=H;have A7:=qK bs;clear bs;have H':=qK H;clear H;have aU:w4.cell? ⟨ad,0,none⟩=some (.slice ae ab.length af):=(qC aa.out 0).trans rfl;have aV:w4.cell? ⟨ad,1,none⟩=some (.slice ag ac.length ah):=(qC aa.out 1).trans rfl;have aW:=qF aa.out 0;have aX:=qF aa.out 1;go_wp2_with (first|((with_reducible refine gate_callee (f:=22) rfl ?_);refine goesL_ (some 9) rfl rfl Try.func22 (by kernel_rfl) rfl #[.agg #[.slice ae ab.length af,.slice ag ac.length ah]] rfl (by (try simp only [mT,mC,mN]);first|done|rfl|(simp only [lD,lT];rfl)) ?_;(with_reducible refine (impl_GoodStats.calls k _ _ ab _ _ ac true _ ?side1 ?side2 ?side3 ?side4 A5.out).mono ?_);(case side1=>exact (cB am.out (by repeat (with_reducible first|exact HB.out|apply qA|apply qD|apply qO|refine qS ?_ aq.out))));(case side2=>exact an.out);(case side3=>exact (cB ao.out (by repeat (with_reducible first|exact HB.out|apply qA|apply qD|apply qO|refine qS ?_ aq.out))));(case side4=>exact ap.out);rintro e w9 ⟨rfl,hb⟩;refine ⟨_,rfl,?_⟩;have av:=qK (qB (g:=ad) (o:=_) (by exact aa.out) hb);have aw:=qK (qT HB.out hb);clear aa HB;have aa:=av;have HB:=aw;clear av aw;(try clear hb);have aC:w9.cell? ⟨ad,0,none⟩=some (.slice ae ab.length af):=(qC aa.out 0).trans rfl;have aD:w9.cell? ⟨ad,1,none⟩=some (.slice ag ac.length ah):=(qC aa.out 1).trans rfl;have aE:=qF aa.out 0;have aG:=qF aa.out 1)|(go_at_call 34;(with_reducible refine (impl_Stats_areSome.calls k _ _ ab _ _ ac _ _ l1 ai _ ?side1 ?side2 ?side3 ?side4 ?side5 ?side6 A7.out).mono ?_);(case side1=>exact (cB am.out HB.out));(case side2=>exact an.out);(case side3=>exact (cB ao.out HB.out));(case side4=>exact ap.out);(case side5=>exact (cB bn.out HB.out));(case side6=>exact bo.out);rintro e bJ ⟨rfl,hb⟩;have av:=qK (qB (g:=ad) (o:=_) (by exact aa.out) hb);have aw:=qK (qT HB.out hb);clear aa HB;have aa:=av;have HB:=aw;clear av aw;(try clear hb)))
   go_meet
   case rel=>exact ⟨_,(!ai),(by rfl),H',⟨by first|omega|exact Nat.le_refl _⟩,⟨aa.out⟩,⟨HB.out⟩⟩
  ·replace c6:=Bool.eq_false_iff.mpr c6;subst c6;have H1:(impl_BestOf.j0 k l1 true ab ac)=some (r1,r2,r3):=by rw [if_neg (show ¬ (false=true) by decide)] at H;exact H
   clear H;have H:=H1;clear H1;have H':=qK H;clear H;have aH:w4.cell? ⟨ad,0,none⟩=some (.slice ae ab.length af):=(qC aa.out 0).trans rfl;have aI:w4.cell? ⟨ad,1,none⟩=some (.slice ag ac.length ah):=(qC aa.out 1).trans rfl;have aJ:=qF aa.out 0;have aK:=qF aa.out 1;go_wp2_with (first|((with_reducible refine gate_callee (f:=22) rfl ?_);refine goesL_ (some 9) rfl rfl Try.func22 (by kernel_rfl) rfl #[.agg #[.slice ae ab.length af,.slice ag ac.length ah]] rfl (by (try simp only [mT,mC,mN]);first|done|rfl|(simp only [lD,lT];rfl)) ?_;(with_reducible refine (impl_GoodStats.calls k _ _ ab _ _ ac false _ ?side1 ?side2 ?side3 ?side4 A5.out).mono ?_);(case side1=>exact (cB am.out (by repeat (with_reducible first|exact HB.out|apply qA|apply qD|apply qO|refine qS ?_ aq.out))));(case side2=>exact an.out);(case side3=>exact (cB ao.out (by repeat (with_reducible first|exact HB.out|apply qA|apply qD|apply qO|refine qS ?_ aq.out))));(case side4=>exact ap.out);rintro e bK ⟨rfl,hb⟩;refine ⟨_,rfl,?_⟩;have av:=qK (qB (g:=ad) (o:=_) (by exact aa.out) hb);have aw:=qK (qT HB.out hb);clear aa HB;have aa:=av;have HB:=aw;clear av aw;(try clear hb)))
   go_meet
   case rel=>exact ⟨_,(true),(by rfl),H',⟨by first|omega|exact Nat.le_refl _⟩,⟨aa.out⟩,⟨HB.out⟩⟩
 case rest =>
  clear bf;try clear c1
  try clear c2
  try clear p2
  try clear c6
  try clear c10
  try clear aC
  try clear aD
  try clear aH
  try clear aI
  try clear aU
  try clear aV
  try clear aE
  try clear aG
  try clear aJ
  try clear aK
  try clear aW
  try clear aX
  obtain ⟨kq,ar,rfl,HA,bL,aa,HB⟩:=hcut;cases kq with
  | zero=>exact absurd HA.out (by simp [impl_BestOf.j0])
  | succ kj2 =>
   have H:=HA.out;clear HA;simp only [impl_BestOf.j0] at H;by_cases c14:ar=true
   ·subst c14;have H1:(some (([]:List Int),0,false))=some (r1,r2,r3):=by rw [if_pos rfl] at H;exact H
    clear H;have H:=H1;clear H1;simp only [Option.some.injEq,Prod.mk.injEq] at H;obtain ⟨rfl,rfl,rfl⟩:=H;go_wp2
    go_ret3
    exact ⟨_,by rfl,by first|exact Kd.R_nil _ _ _ _ _|exact Kd.N_nil _ _ _ _ _|exact Kd.V_nil _ _ _ _ _|exact Kd.Q_nil _ _ _ _ _|exact Kd.S_nil _ _ _ _ _,HB.out⟩
   ·replace c14:=Bool.eq_false_iff.mpr c14;subst c14;have H1:((impl_setOf.f kj2 l1).bind fun aj=>((impl_Stats_best.f kj2 ab ac aj).bind fun ak=>(some (ak.1,ak.2,true))))=some (r1,r2,r3):=by rw [if_neg (show ¬ (false=true) by decide)] at H;exact H
    clear H;have H:=H1;clear H1;replace H:=Option.bind_eq_some_iff.mp H;obtain ⟨aj,aZ,H⟩:=H;replace H:((impl_Stats_best.f kj2 ab ac aj).bind fun ak=>(some (ak.1,ak.2,true)))=some (r1,r2,r3):=H;have bx:=qK aZ;clear aZ;replace H:=Option.bind_eq_some_iff.mp H;obtain ⟨⟨al,au⟩,ba,H⟩:=H;replace H:(some (al,au,true))=some (r1,r2,r3):=H;have bz:=qK ba;clear ba;simp only [Option.some.injEq,Prod.mk.injEq] at H;obtain ⟨rfl,rfl,rfl⟩:=H
    try go_wp2
    have ax := Aside0.mk (blk_drew aa.out)
    have HBd := Aside0.mk (below_drew1 HB.out)
    clear aa HB
    have aa := ax
    have HB := HBd
    clear ax HBd
    refine start_ (n := 7) (S := fun w' => True) (ds := []) #[false, false, false, false, false, false, false] (by kernel_rfl) rfl rfl trivial (fun hHeld => ?_)
    generalize wc.drew = W1 at aa HB hHeld ⊢
    refine pure_ (i := 1) (N := some 18) (v := ?_) (a' := ?_) #[false, true, false, false, false, false, false] rfl rfl (by kernel_rfl) (fun _ _ _ h => h) (Or.inl ⟨by rfl, ?_⟩) ?_ ?_
    rotate_left
    · intro w'
      go_simp
      with_reducible rfl
    rotate_left
    · simp only [Act.put, List.setIfInBounds_toArray, List.set_cons_zero, List.set_cons_succ, i64_w, i32_w]
      rfl
    refine inv_at (B := [0, 0, 2, 0, 15, 0, 63]) [0, 2, 3, 4, 5, 6] (fun bA b a w' => ∃ (g M : Nat) (v m4 : Value), a = putSel bA b [(0, 17, .agg #[.slice ae ab.length af, .slice ag ac.length ah]), (2, 19, .int .i64 aj), (3, 20, .map (some M)), (4, 21, m4), (5, 7, .pointer (some ⟨g, 0, none⟩))] ∧ Below W1.heap.size W1 w' ∧ (b 3 = true → b 4 = false → W1.heap.size ≤ M ∧ FrM (BF ab ac) 3 W1 M w') ∧ (b 4 = true → m4 = .agg #[v, .int .i64 au] ∧ Kd.R (Kd.int .i64) 3 w' W1.heap.size (fun _ => True) v al) ∧ (b 5 = true → W1.heap.size ≤ g) ∧ (b 5 = true → b 6 = false → w'.heap[g]? = some (.cells #[.slice none 0 0, .int .i64 0] 54 (0, 0))) ∧ (b 6 = true → w'.heap[g]? = some (.cells #[v, .int .i64 au] 54 (0, 0)))) rfl (by kernel_rfl) (by kernel_rfl) (by kernel_rfl) ?_ ?_ ?_
    · exact ⟨0, 0, .bool false, .bool false, by simp only [putSel, Bool.false_eq_true, if_false], Below.refl _ _, fun h_ => absurd h_ (by decide), fun h_ => absurd h_ (by decide), fun h_ => absurd h_ (by decide), fun h_ => absurd h_ (by decide), fun h_ => absurd h_ (by decide)⟩
    · refine steps_cons ?_ ?_
      · rintro b a w' ⟨g, M, v, m4, ha, QB, Q3, Q4, Q5, QZ, Q6⟩ hb_ hon hoff
        refine ⟨_, rfl, fun K hK => ?_⟩
        have e2 : a.tmps[2]? = some (.pointer (some ⟨ad, 0, none⟩)) := by rw [ha]; exact (putSel_off rfl).trans rfl
        replace ha := Aside0.mk ha
        have BX := Aside0.mk (blk_below aa.out QB)
        have bM : w'.cell? ⟨ad, 0, none⟩ = some (.slice ae ab.length af) := (blk_cell BX.out 0).trans rfl
        have bN : w'.cell? ⟨ad, 1, none⟩ = some (.slice ag ac.length ah) := (blk_cell BX.out 1).trans rfl
        refine value_ (w1 := w') (v := .agg #[.slice ae ab.length af, .slice ag ac.length ah]) (by rfl) rfl ?_ ?_
        · go_simp
          (try simp only [i64_w])
          try rfl
        exact hK.out _ _ ⟨g, M, v, m4, (by rw [ha.out]; exact putSel_upk 0 hb_ rfl rfl rfl), QB, Q3, Q4, Q5, QZ, Q6⟩
      refine steps_cons ?_ ?_
      · rintro b a w' ⟨g, M, v, m4, ha, QB, Q3, Q4, Q5, QZ, Q6⟩ hb_ hon hoff
        refine ⟨_, rfl, fun K hK => ?_⟩
        have bB : a.tmps[18]? = some (.slice A1 l1.length c1) := by rw [ha]; exact (putSel_off rfl).trans rfl
        replace ha := Aside0.mk ha
        refine goes_ Try.func36 (by kernel_rfl) rfl #[.slice A1 l1.length c1] (by rfl) rfl rfl (by simp only [List.map_toArray, List.map_cons, List.map_nil, Act.eval, bB, Array.getD_eq_getD_getElem?, Option.getD_some]) ?_
        with_reducible refine (impl_setOf.calls kj2 _ _ l1 aj _ (Kd.C_below bn.out (below_then HB.out HB.out.size QB)) bo.out bx.out).mono ?_
        rintro e bt ⟨rfl, hdr⟩
        have hb := hdr.below
        refine ⟨_, rfl, ?_⟩
        exact hK.out _ _ ⟨g, M, v, m4, (by rw [ha.out]; exact putSel_upk 1 hb_ rfl rfl rfl), below_step QB hb, fun h3 h4 => ⟨(Q3 h3 h4).1, (Q3 h3 h4).2.below_ hb⟩, fun h_ => absurd ((hoff 4 (by kernel_rfl)).symm.trans h_) (by decide), Q5, fun h5 h6 => blk_below (QZ h5 h6) hb, fun h_ => absurd ((hoff 6 (by kernel_rfl)).symm.trans h_) (by decide)⟩
      refine steps_cons ?_ ?_
      · rintro b a w' ⟨g, M, v, m4, ha, QB, Q3, Q4, Q5, QZ, Q6⟩ hb_ hon hoff
        refine ⟨_, rfl, fun K hK => ?_⟩
        replace ha := Aside0.mk ha
        refine value_ (w1 := w'.alloc (.map #[] 0)) (v := .map (some w'.heap.size)) (by rfl) rfl (by rfl) ?_
        have hb : Below w'.heap.size w' (w'.alloc (.map #[] 0)) := below_alloc (Below.refl _ _) _
        exact hK.out _ _ ⟨g, w'.heap.size, v, m4, (by rw [ha.out]; exact putSel_upk 2 hb_ rfl rfl rfl), below_step QB hb, fun _ _ => ⟨QB.size, ⟨below_step QB hb, [], blk_new w' _, fun p hp => by cases hp⟩⟩, fun h_ => absurd ((hoff 4 (by kernel_rfl)).symm.trans h_) (by decide), Q5, fun h5 h6 => blk_below (QZ h5 h6) hb, fun h_ => absurd ((hoff 6 (by kernel_rfl)).symm.trans h_) (by decide)⟩
      refine steps_cons ?_ ?_
      · rintro b a w' ⟨g, M, v, m4, ha, QB, Q3, Q4, Q5, QZ, Q6⟩ hb_ hon hoff
        refine ⟨_, rfl, fun K hK => ?_⟩
        have h3 := hon 3 (by kernel_rfl)
        have bC : a.tmps[17]? = some (.agg #[.slice ae ab.length af, .slice ag ac.length ah]) := by rw [ha]; exact putSel_on (e := (0, 17, .agg #[.slice ae ab.length af, .slice ag ac.length ah])) 0 rfl rfl (hon 0 (by kernel_rfl)) rfl
        have bD : a.tmps[19]? = some (.int .i64 aj) := by rw [ha]; exact putSel_on (e := (2, 19, .int .i64 aj)) 1 rfl rfl (hon 2 (by kernel_rfl)) rfl
        have bE : a.tmps[20]? = some (.map (some M)) := by rw [ha]; exact putSel_on (e := (3, 20, .map (some M))) 2 rfl rfl h3 rfl
        replace ha := Aside0.mk ha
        refine goes_ Try.func35 (by kernel_rfl) rfl #[.agg #[.slice ae ab.length af, .slice ag ac.length ah], .int .i64 aj, .map (some M)] (by rfl) rfl rfl (by simp only [List.map_toArray, List.map_cons, List.map_nil, Act.eval, bC, bD, bE, Array.getD_eq_getD_getElem?, Option.getD_some]) ?_
        with_reducible refine (impl_Stats_best.calls kj2 _ _ ab _ _ ac aj M al au W1 _ (Q3 h3 hb_).1 (Kd.C_below am.out HB.out) an.out (Kd.C_below ao.out HB.out) ap.out (Q3 h3 hb_).2 bz.out).mono ?_
        rintro e bt ⟨v2, rfl, bF, hf, hk⟩
        refine ⟨_, rfl, ?_⟩
        exact hK.out _ _ ⟨g, M, v2, (.agg #[v2, .int .i64 au]), (by rw [ha.out]; exact putSel_upk 3 hb_ rfl rfl rfl), hf.below, fun _ h_ => absurd (show true = false from h_) (by decide), fun _ => ⟨rfl, Kd.R_mono bF (fun _ _ => trivial)⟩, Q5, fun h5 h6 => blk_kept (QZ h5 h6) hk ((Q3 h3 hb_).2.ne (QZ h5 h6)), fun h_ => absurd ((hoff 6 (by kernel_rfl)).symm.trans h_) (by decide)⟩
      refine steps_cons ?_ ?_
      · rintro b a w' ⟨g, M, v, m4, ha, QB, Q3, Q4, Q5, QZ, Q6⟩ hb_ hon hoff
        refine ⟨_, rfl, fun K hK => ?_⟩
        replace ha := Aside0.mk ha
        refine box_step ?hg (N := 7) ?hd (cs := #[.slice none 0 0, .int .i64 0]) (t := 54) ?hr ?_; (case hd => rfl); (case hg => rfl); (case hr => first | (go_simp; done) | (go_simp; rfl))
        intro g2 hg bt hbox hb
        exact hK.out _ _ ⟨g2, M, v, m4, (by rw [ha.out]; exact putSel_upk 4 hb_ rfl rfl rfl), below_step QB hb, fun h3 h4 => ⟨(Q3 h3 h4).1, (Q3 h3 h4).2.below_ hb⟩, fun h4 => ⟨(Q4 h4).1, Kd.R_below (Q4 h4).2 hb⟩, fun _ => by rw [hg]; exact QB.size, fun _ _ => hbox, fun h_ => absurd ((hoff 6 (by kernel_rfl)).symm.trans h_) (by decide)⟩
      refine steps_cons ?_ ?_
      · rintro b a w' ⟨g, M, v, m4, ha, QB, Q3, Q4, Q5, QZ, Q6⟩ hb_ hon hoff
        refine ⟨_, rfl, fun K hK => ?_⟩
        have h4 := hon 4 (by kernel_rfl)
        have h5 := hon 5 (by kernel_rfl)
        have e7 : a.tmps[7]? = some (.pointer (some ⟨g, 0, none⟩)) := by rw [ha]; exact putSel_on (e := (5, 7, .pointer (some ⟨g, 0, none⟩))) 4 rfl rfl h5 rfl
        have bG : a.tmps[21]? = some m4 := by rw [ha]; exact putSel_on (e := (4, 21, m4)) 3 rfl rfl h4 rfl
        rw [(Q4 h4).1] at bG
        replace ha := Aside0.mk ha
        have BX := Aside0.mk (QZ h5 hb_)
        have RV := Aside0.mk (Q4 h4).2
        have GX := Aside0.mk (Q5 h5)
        obtain ⟨Av, cv, ev⟩ := Kd.R_slice RV.out
        subst ev
        have bO : w'.cell? ⟨g, 0, none⟩ = some (.slice none 0 0) := (blk_cell BX.out 0).trans rfl
        have bP : w'.cell? ⟨g, 1, none⟩ = some (.int .i64 0) := (blk_cell BX.out 1).trans rfl
        have bQ := blk_frozen BX.out 0
        have bR := blk_frozen BX.out 1
        have Q4' := Aside0.mk Q4
        have Q5' := Aside0.mk Q5
        have H4 := Aside0.mk (show b 4 = true from h4)
        clear Q3 Q4 Q5 QZ Q6
        refine skip_ (w1 := ?_) (by rfl) rfl ?_ ?_
        rotate_left
        · go_simp
          rfl
        have bH := blk_put (cs := #[.slice none 0 0, .int .i64 0]) BX.out 0 (.slice Av al.length cv) rfl
        exact hK.out _ _ ⟨g, M, .slice Av al.length cv, m4, (by rw [ha.out]; exact putSel_none (v := undef) rfl), (QB.setCell GX.out _).setCell GX.out _, fun _ h_ => absurd (H4.out.symm.trans h_) (by decide), fun _ => ⟨(Q4'.out h4).1, Kd.R_mono (Kd.R_far (p := ⟨g, 1, none⟩) (Kd.R_far (p := ⟨g, 0, none⟩) (Kd.R_types RV.out BX.out (by decide)) (fun _ hk => hk.2) _) (fun _ hk => hk.2) _) (fun _ hk => hk.1)⟩, Q5'.out, fun _ h_ => absurd (show true = false from h_) (by decide), fun _ => blk_put (cs := #[.slice Av al.length cv, .int .i64 0]) bH 1 _ rfl⟩
      exact steps_nil
    rintro b a bI hall ⟨g, M, v, m4, ha, QB, Q3, Q4, Q5, QZ, Q6⟩
    have bb := hall 0 (by kernel_rfl)
    have bc := hall 2 (by kernel_rfl)
    have bd := hall 3 (by kernel_rfl)
    have aM := hall 4 (by kernel_rfl)
    have be := hall 5 (by kernel_rfl)
    have aY := hall 6 (by kernel_rfl)
    subst ha
    obtain rfl := (Q4 aM).1
    simp only [putSel, bb, bc, bd, aM, be, aY, if_true, Act.put, List.setIfInBounds_toArray, List.set_cons_zero, List.set_cons_succ]
    have ay := Aside0.mk (Kd.R_drew (Kd.R_lower (Q4 aM).2 HB.out.size))
    have az := Aside0.mk (blk_drew (Q6 aY))
    have HBd := Aside0.mk (below_drew1 (below_then HB.out HB.out.size QB))
    clear HB QB Q3 Q4 Q5 QZ Q6 aa hall bb bc bd aM be aY
    have HB := HBd
    clear HBd
    obtain ⟨bh, bi, bj⟩ := Kd.R_slice ay.out
    subst bj
    try go_wp2
    refine start_ (n := 7) (S := fun w' => w'.cell? ⟨g, 0, none⟩ = some (.slice bh al.length bi) ∧ w'.cell? ⟨g, 1, none⟩ = some (.int .i64 au)) (ds := []) #[false, false, false, false, false, false, false] (by kernel_rfl) rfl rfl ⟨(blk_cell az.out 0).trans rfl, (blk_cell az.out 1).trans rfl⟩ (fun hHeld => ?_)
    generalize bI.drew = bS at ay az HB hHeld ⊢
    refine pure_ (i := 0) (N := some 22) (v := ?_) (a' := ?_) #[true, false, false, false, false, false, false] rfl rfl (by kernel_rfl) (fun _ _ _ h => h) (Or.inl ⟨by rfl, ?_⟩) ?_ ?_
    rotate_left
    · intro w'
      go_simp
      with_reducible rfl
    rotate_left
    · simp only [Act.put, List.setIfInBounds_toArray, List.set_cons_zero, List.set_cons_succ, i64_w, i32_w]
      rfl
    refine pure_ (i := 2) (N := some 24) (v := ?_) (a' := ?_) #[true, false, true, false, false, false, false] rfl rfl (by kernel_rfl) (fun _ _ _ h => h) (Or.inl ⟨by rfl, ?_⟩) ?_ ?_
    rotate_left
    · intro w'
      go_simp
      with_reducible rfl
    rotate_left
    · simp only [Act.put, List.setIfInBounds_toArray, List.set_cons_zero, List.set_cons_succ, i64_w, i32_w]
      rfl
    refine take_ (i := 1) (N := some 23) (v := ?_) (a' := ?_) #[true, true, true, false, false, false, false] rfl rfl (by kernel_rfl) (fun _ _ _ h => h) (Or.inl ⟨by rfl, ?_⟩) hHeld ?_ ?_
    rotate_left
    · rintro w' ⟨s0, s1⟩
      go_simp
      with_reducible rfl
    rotate_left
    · simp only [Act.put, List.setIfInBounds_toArray, List.set_cons_zero, List.set_cons_succ, i64_w, i32_w]
      rfl
    refine pure_ (i := 4) (N := some 4) (v := ?_) (a' := ?_) #[true, true, true, false, true, false, false] rfl rfl (by kernel_rfl) (fun _ _ _ h => h) (Or.inl ⟨by rfl, ?_⟩) ?_ ?_
    rotate_left
    · intro w'
      go_simp
      with_reducible rfl
    rotate_left
    · simp only [Act.put, List.setIfInBounds_toArray, List.set_cons_zero, List.set_cons_succ, i64_w, i32_w]
      rfl
    refine take_ (i := 3) (N := some 25) (v := ?_) (a' := ?_) #[true, true, true, true, true, false, false] rfl rfl (by kernel_rfl) (fun _ _ _ h => h) (Or.inl ⟨by rfl, ?_⟩) hHeld ?_ ?_
    rotate_left
    · rintro w' ⟨s0, s1⟩
      go_simp
      with_reducible rfl
    rotate_left
    · simp only [Act.put, List.setIfInBounds_toArray, List.set_cons_zero, List.set_cons_succ, i64_w, i32_w]
      rfl
    refine pure_ (i := 5) (N := some 5) (v := ?_) (a' := ?_) #[true, true, true, true, true, true, false] rfl rfl (by kernel_rfl) (fun _ _ _ h => h) (Or.inl ⟨by rfl, ?_⟩) ?_ ?_
    rotate_left
    · intro w'
      go_simp
      with_reducible rfl
    rotate_left
    · simp only [Act.put, List.setIfInBounds_toArray, List.set_cons_zero, List.set_cons_succ, i64_w, i32_w]
      rfl
    refine pure_ (i := 6) (N := some 6) (v := ?_) (a' := ?_) #[true, true, true, true, true, true, true] rfl rfl (by kernel_rfl) (fun _ _ _ h => h) (Or.inl ⟨by rfl, ?_⟩) ?_ ?_
    rotate_left
    · intro w'
      go_simp
      with_reducible rfl
    rotate_left
    · simp only [Act.put, List.setIfInBounds_toArray, List.set_cons_zero, List.set_cons_succ, i64_w, i32_w]
      rfl
    refine done_ (by kernel_rfl) ?_
    try go_wp2
    go_ret3
    exact ⟨_, by first | rfl | (simp; done), ay.out, HB.out⟩

/-! ### spec_BestOrder: function 16 -/
def spec_BestOrder.l0 : Nat→List Int→Int→Int→List Int→List (List Int)→Option (List Int × Int × Bool)
 | 0,_,_,_,_,_=>none
 | k + 1,x5,x12,x13,x249000,x249001=>if x13 < x12 then (if x5.length < 17592186044416 then (spec_BestOrder.l0 k (x5 ++ [x13]) x12 (wrap64 (x13 + 1)) x249000 x249001) else (none)) else ((spec_BestOf.f k x249000 x249001 x5).bind fun bt253=>(some (bt253.1,bt253.2.1,bt253.2.2)))
def spec_BestOrder.f (k:Nat) (l0_0:List Int) (l0_1:List (List Int)):Option (List Int × Int × Bool):=(spec_GoodStats.f k l0_0 l0_1).bind fun t249=>(if t249=true then (spec_BestOrder.l0 k ([]:List Int) (l0_0.length:Int) 0 l0_0 l0_1) else (some (([]:List Int),0,false)))
theorem spec_BestOrder.mono_l : ∀ k,(∀ y0 y1 y2 y3 y4,LeO (spec_BestOrder.l0 k y0 y1 y2 y3 y4) (spec_BestOrder.l0 (k + 1) y0 y1 y2 y3 y4))
 | 0=>fun _ _ _ _ _ r h=>by simp [spec_BestOrder.l0] at h
 | k + 1=>by
  have aa:=spec_BestOrder.mono_l k
  ·intro y0 y1 y2 y3 y4;unfold spec_BestOrder.l0
   repeat' first
   | (with_reducible exact aa _ _ _ _ _)
   | (with_reducible exact spec_BestOf.mono _ _ _ _)
   | (with_reducible exact spec_GoodStats.mono _ _ _)
   | (with_reducible exact LeO.refl _)
   | (with_reducible exact LeO.none _)
   | (with_reducible refine LeO.ite ?_ ?_)
   | (with_reducible refine LeO.bind ?_ (fun _=>?_))
   | exact aa _ _ _ _ _
   | exact spec_BestOf.mono _ _ _ _
   | exact spec_GoodStats.mono _ _ _
   | exact LeO.none _
   | refine LeO.ite ?_ ?_
   | refine LeO.bind ?_ (fun _=>?_)
theorem spec_BestOrder.mono : ∀ a0 a1 k,LeO (spec_BestOrder.f k a0 a1) (spec_BestOrder.f (k + 1) a0 a1):=by
 intro a0 a1 k;have aa:=spec_BestOrder.mono_l k;unfold spec_BestOrder.f
 repeat' first
   | (with_reducible exact aa _ _ _ _ _)
   | (with_reducible exact spec_BestOf.mono _ _ _ _)
   | (with_reducible exact spec_GoodStats.mono _ _ _)
   | (with_reducible exact LeO.refl _)
   | (with_reducible exact LeO.none _)
   | (with_reducible refine LeO.ite ?_ ?_)
   | (with_reducible refine LeO.bind ?_ (fun _=>?_))
   | exact aa _ _ _ _ _
   | exact spec_BestOf.mono _ _ _ _
   | exact spec_GoodStats.mono _ _ _
   | exact LeO.none _
   | refine LeO.ite ?_ ?_
   | refine LeO.bind ?_ (fun _=>?_)
set_option maxHeartbeats 8000000 in
set_option maxRecDepth 100000 in
theorem spec_BestOrder.calls (k:Nat) (af:Option Addr) (ag:Nat) (ab:List Int) (ah:Option Addr) (ai:Nat) (ad:List (List Int)) (r1:List Int) (r2:Int) (r3:Bool) (w:World) (aw:Kd.C (Kd.int .i64) w af ab.length ab) (ax:ab.length≤ag) (ay:Kd.C (Kd.slice 3 (Kd.int .i64)) w ah ad.length ad) (az:ad.length≤ai) (h:spec_BestOrder.f k ab ad=some (r1,r2,r3)) :
  Calls Try.prog 16 #[.agg #[.slice af ab.length ag,.slice ah ad.length ai]] w fun e w'=>∃ bo:Value,e=.returned (.tuple #[bo,.int .i64 r2,.bool r3])∧Kd.R (Kd.int .i64) 3 w' w.heap.size (fun _=>True) bo r1∧Below w.heap.size w w':=by
 have bs:=Try.underlying29;have ap:=qK aw;have aq:=qK ax;clear aw ax;have ar:=qK ay;have au:=qK az;clear ay az;have HB:=qK (Below.refl w.heap.size w);have H:((spec_GoodStats.f k ab ad).bind fun av=>(if av=true then (spec_BestOrder.l0 k ([]:List Int) (ab.length:Int) 0 ab ad) else (some (([]:List Int),0,false))))=some (r1,r2,r3):=h;clear h;replace H:=Option.bind_eq_some_iff.mp H;obtain ⟨av,bp,H⟩:=H;replace H:(if av=true then (spec_BestOrder.l0 k ([]:List Int) (ab.length:Int) 0 ab ad) else (some (([]:List Int),0,false)))=some (r1,r2,r3):=H;have A2:=qK bp;clear bp;by_cases c3:av=true
 ·subst c3;have H1:(spec_BestOrder.l0 k ([]:List Int) (ab.length:Int) 0 ab ad)=some (r1,r2,r3):=by rw [if_pos rfl] at H;exact H
  clear H;have H:=H1;clear H1;have H':=qK H;clear H;go_enter Try.func16,Try.ntmps16
  go_wp2_with (first|((with_reducible refine gate_dst (N:=1) rfl ?_);refine box_event ?hg (N:=1) ?hd (cs:=#[.slice af ab.length ag,.slice ah ad.length ai]) (t:=29) ?hr ?_;(case hd=>rfl);(case hg=>rfl);(case hr=>(go_simp;try rfl));intro ac hg w4 hbox hb;have ak:=qK (qT HB.out hb);have al:=qK (hbox);have ao:=qK ((by rw [hg];exact (qZ HB.out):w.heap.size≤ac));have aA:=ao;clear HB;have HB:=ak;have aa:=al;have aM:=ao;have aN:=aA;clear ak al ao aA hb hbox hg;have aC:w4.cell? ⟨ac,0,none⟩=some (.slice af ab.length ag):=(qC aa.out 0).trans rfl;have aD:w4.cell? ⟨ac,1,none⟩=some (.slice ah ad.length ai):=(qC aa.out 1).trans rfl;have aE:=qF aa.out 0;have aG:=qF aa.out 1)|((with_reducible refine gate_callee (f:=23) rfl ?_);refine goesL_ (some 8) rfl rfl Try.func23 (by kernel_rfl) rfl #[.agg #[.slice af ab.length ag,.slice ah ad.length ai]] rfl (by (try simp only [mT,mC,mN]);first|done|rfl|(simp only [lD,lT];rfl)) ?_;(with_reducible refine (spec_GoodStats.calls k _ _ ab _ _ ad true _ ?side1 ?side2 ?side3 ?side4 A2.out).mono ?_);(case side1=>exact (cB ap.out HB.out));(case side2=>exact aq.out);(case side3=>exact (cB ar.out HB.out));(case side4=>exact au.out);rintro e w6 ⟨rfl,hb⟩;refine ⟨_,rfl,?_⟩;have ak:=qK (qB (g:=ac) (o:=_) (by exact aa.out) hb);have al:=qK (qT HB.out hb);clear aa HB;have aa:=ak;have HB:=al;clear ak al;(try clear hb);have aH:w6.cell? ⟨ac,0,none⟩=some (.slice af ab.length ag):=(qC aa.out 0).trans rfl;have aI:w6.cell? ⟨ac,1,none⟩=some (.slice ah ad.length ai):=(qC aa.out 1).trans rfl;have aJ:=qF aa.out 0;have aK:=qF aa.out 1))
  go_loopg [5,13] k (fun kq v5 bt w'=>∃ (am:List Int) (ae:Int),bt=.int .i64 ae∧Aside0 (spec_BestOrder.l0 kq am (ab.length:Int) ae ab ad=some (r1,r2,r3))∧Aside0 (kq≤k)∧Aside0 (Kd.R (Kd.int .i64) 3 w' w.heap.size (fun _=>True) v5 am)∧Aside0 (w'.heap[ac]?=some (.cells #[(.slice af ab.length ag),(.slice ah ad.length ai)] 29 (0,0)))∧Aside0 (Below w.heap.size w w'))
  case atStart=>exact ⟨(([]:List Int)),(0),(by rfl),H',⟨Nat.le_refl _⟩,⟨by first|exact Kd.R_nil _ _ _ _ _|exact Kd.N_nil _ _ _ _ _|exact Kd.V_nil _ _ _ _ _|exact Kd.Q_nil _ _ _ _ _|exact Kd.S_nil _ _ _ _ _⟩,⟨aa.out⟩,⟨HB.out⟩⟩
  case round =>
   clear H';try clear c1
   try clear c2
   try clear p2
   try clear c3
   try clear aC
   try clear aD
   try clear aH
   try clear aI
   try clear aE
   try clear aG
   try clear aJ
   try clear aK
   obtain ⟨am,ae,rfl,HA,bq,aj,aa,HB⟩:=hrel;cases gk with
   | zero=>exact absurd HA.out (by simp [spec_BestOrder.l0])
   | succ k1 =>
    have H:=HA.out;clear HA;simp only [spec_BestOrder.l0] at H;by_cases c8:ae < (ab.length:Int)
    ·rw [if_pos c8] at H;have bh:decide (ae < (ab.length:Int))=true:=decide_eq_true c8;clear c8;by_cases c9:am.length < 17592186044416
     ·rw [if_pos c9] at H;have bi:=qK c9;clear c9;obtain ⟨aQ,an⟩:∃ y_:List Int,y_=(am ++ [ae]):=⟨_,rfl⟩;replace H:(spec_BestOrder.l0 k1 aQ (ab.length:Int) (wrap64 (ae + 1)) ab ad)=some (r1,r2,r3):=by first|(rw [an];with_reducible exact H)|(have bj:=(Option.bind_some _ _).symm.trans H;rw [an];with_reducible exact bj)|(have bj:=(Option.bind_some _ _).symm.trans H;with_reducible exact bj)|with_reducible exact H|(rw [an];exact H)|exact H
      have aR:=qK an;clear an;have H':=qK H;clear H;go_wp2_with (first|((with_reducible refine gate_builtin (b:=.append) (xs:=#[.tmp 16,.tmp 18]) rfl ?_);at_builtin;refine Kd.R_append (Kd.int .i64) (w0:=w) w.heap.size rfl (.tmp 16) (.tmp 18) 22 3 (.int .i64 0) 8 rfl Try.underlying22 info3 rfl (by decide) (by omega) u5 am ae [.int .i64 ae] (fun _=>True) (fun _=>False) rfl rfl ?aP (fun _ hk=>hk.elim) ?aF ?aO ?aB ?aS ?aL ?_;(case aP=>exact rfl);(case aB=>exact HB.out);(case aF=>exact (fun _ _=>trivial));(case aO=>exact aj.out);(case aS=>exact (qZ HB.out));(case aL=>have:=bi.out;omega);intro bu bx ho hb hg hat;rw [← aR.out] at ho;have ak:=qK (blk_grown (g:=ac) (o:=_) (by exact aa.out) hg (Kd.R_ne aj.out aa.out (by decide)));have al:=qK (hb);have ao:=qK (ho);clear aa HB aj;have aa:=ak;have HB:=al;have aT:=ao;clear ak al ao;clear ho hb hg hat))
      go_roundg k1
      case measure=>have:=bq.out;omega
      case rel=>exact ⟨(aQ),(wrap64 (ae + 1)),(by rfl),H',⟨by have:=bq.out;omega⟩,⟨aT.out⟩,⟨aa.out⟩,⟨HB.out⟩⟩
     ·rw [if_neg c9] at H;exact absurd H (by simp)
    ·rw [if_neg c8] at H;have bh:decide (ae < (ab.length:Int))=false:=decide_eq_false c8;clear c8;replace H:=Option.bind_eq_some_iff.mp H;obtain ⟨⟨aU,aV,aW⟩,aX,H⟩:=H;replace H:(some (aU,aV,aW))=some (r1,r2,r3):=H;have bv:=qK aX;clear aX;simp only [Option.some.injEq,Prod.mk.injEq] at H;obtain ⟨rfl,rfl,rfl⟩:=H;have aZ:wr.cell? ⟨ac,0,none⟩=some (.slice af ab.length ag):=(qC aa.out 0).trans rfl;have ba:wr.cell? ⟨ac,1,none⟩=some (.slice ah ad.length ai):=(qC aa.out 1).trans rfl;have bb:=qF aa.out 0;have bc:=qF aa.out 1;obtain ⟨bk,bl,bm⟩:=Kd.R_slice aj.out;subst bm;go_wp2_with (first|((with_reducible refine gate_callee (f:=7) rfl ?_);refine goesL_ (some 23) rfl rfl Try.func7 (by kernel_rfl) rfl #[.agg #[.slice af ab.length ag,.slice ah ad.length ai],.slice bk am.length bl] rfl (by (try simp only [mT,mC,mN]);first|done|rfl|(simp only [lD,lT];rfl)) ?_;(with_reducible refine (spec_BestOf.calls k1 _ _ ab _ _ ad _ _ am aU aV aW _ ?side1 ?side2 ?side3 ?side4 ?side5 ?side6 bv.out).mono ?_);(case side1=>exact (cB ap.out HB.out));(case side2=>exact aq.out);(case side3=>exact (cB ar.out HB.out));(case side4=>exact au.out);(case side5=>exact (Kd.R_reads' aj.out).2.2);(case side6=>exact (Kd.R_reads' aj.out).2.1);rintro e bz ⟨bw,rfl,bn,hb⟩;refine ⟨_,rfl,?_⟩;have ak:=qK (Kd.R_elder' aj.out (Kd.R_base bn) hb);have al:=qK (Kd.R_lower (Kd.R_new' bn (Kd.R_lt aj.out)) (qZ HB.out));have ao:=qK (qB (g:=ac) (o:=_) (by exact aa.out) hb);have aA:=qK (qT HB.out hb);clear aj aa HB;have aj:=ak;have aY:=al;have aa:=ao;have HB:=aA;clear ak al ao aA;(try clear hb);(try clear bn)))
     go_ret3
     exact ⟨_,by rfl,Kd.R_mono aY.out (fun _ hk=>trivial),HB.out⟩
 ·replace c3:=Bool.eq_false_iff.mpr c3;subst c3;have H1:(some (([]:List Int),0,false))=some (r1,r2,r3):=by rw [if_neg (show ¬ (false=true) by decide)] at H;exact H
  clear H;have H:=H1;clear H1;simp only [Option.some.injEq,Prod.mk.injEq] at H;obtain ⟨rfl,rfl,rfl⟩:=H;go_enter Try.func16,Try.ntmps16
  go_wp2_with (first|((with_reducible refine gate_dst (N:=1) rfl ?_);refine box_event ?hg (N:=1) ?hd (cs:=#[.slice af ab.length ag,.slice ah ad.length ai]) (t:=29) ?hr ?_;(case hd=>rfl);(case hg=>rfl);(case hr=>(go_simp;try rfl));intro ac hg br hbox hb;have ak:=qK (qT HB.out hb);have al:=qK (hbox);have ao:=qK ((by rw [hg];exact (qZ HB.out):w.heap.size≤ac));have aA:=ao;clear HB;have HB:=ak;have aa:=al;have aM:=ao;have aN:=aA;clear ak al ao aA hb hbox hg;have bd:br.cell? ⟨ac,0,none⟩=some (.slice af ab.length ag):=(qC aa.out 0).trans rfl;have be:br.cell? ⟨ac,1,none⟩=some (.slice ah ad.length ai):=(qC aa.out 1).trans rfl;have bf:=qF aa.out 0;have bg:=qF aa.out 1)|((with_reducible refine gate_callee (f:=23) rfl ?_);refine goesL_ (some 8) rfl rfl Try.func23 (by kernel_rfl) rfl #[.agg #[.slice af ab.length ag,.slice ah ad.length ai]] rfl (by (try simp only [mT,mC,mN]);first|done|rfl|(simp only [lD,lT];rfl)) ?_;(with_reducible refine (spec_GoodStats.calls k _ _ ab _ _ ad false _ ?side1 ?side2 ?side3 ?side4 A2.out).mono ?_);(case side1=>exact (cB ap.out HB.out));(case side2=>exact aq.out);(case side3=>exact (cB ar.out HB.out));(case side4=>exact au.out);rintro e bA ⟨rfl,hb⟩;refine ⟨_,rfl,?_⟩;have ak:=qK (qB (g:=ac) (o:=_) (by exact aa.out) hb);have al:=qK (qT HB.out hb);clear aa HB;have aa:=ak;have HB:=al;clear ak al;(try clear hb)))
  go_ret3
  exact ⟨_,by rfl,by first|exact Kd.R_nil _ _ _ _ _|exact Kd.N_nil _ _ _ _ _|exact Kd.V_nil _ _ _ _ _|exact Kd.Q_nil _ _ _ _ _|exact Kd.S_nil _ _ _ _ _,HB.out⟩

/-! ### impl_whole: function 39 -/
def impl_whole.f (a0:Int):Option (Int):=if 0≤a0 then (some (wrap64 ((shl .i64 1 a0) - 1))) else (none)
set_option maxHeartbeats 8000000 in
set_option maxRecDepth 100000 in
theorem impl_whole.calls (a0:Int) (r:Int) (w:World) (h:impl_whole.f a0=some r) :
  Calls Try.prog 39 #[.int .i64 a0] w fun e w'=>e=.returned (.int .i64 r)∧Drawn0 w w':=by
 have H:(if 0≤a0 then (some (wrap64 ((shl .i64 1 a0) - 1))) else (none))=some r:=h;clear h;by_cases c2:0≤a0
 ·rw [if_pos c2] at H;have ai:=eq_true c2;have aj:decide (0≤a0)=true:=decide_eq_true c2;clear c2;obtain ⟨ad,aa⟩:∃ j_:Int,(shl .i64 1 a0)=j_:=⟨_,rfl⟩;replace H:(some (wrap64 ((ad) - 1)))=some r:=by first|(rw [aa] at H;exact H)|(simp only [aa] at H ⊢;exact H)
  have ab:(IntKind.i64.wrap (1 * 2 ^ min a0.toNat 64))=ad:=aa;have ac:a0≤64→(IntKind.i64.wrap (1 * 2 ^ a0.toNat))=ad:=shl_small aa;have ae:(IntKind.i64.wrap (2 ^ min a0.toNat 64))=ad:=by have h_:=ab;rw [Int.one_mul] at h_;exact h_
  have af:a0≤64→(IntKind.i64.wrap (2 ^ a0.toNat))=ad:=fun hle_=>by have h_:=ac hle_;rw [Int.one_mul] at h_;exact h_
  have ag:(wrap64 (1 * 2 ^ min a0.toNat 64))=ad:=(i64_w _).symm.trans ab;have ah:a0≤64→(wrap64 (1 * 2 ^ a0.toNat))=ad:=fun h_=>(i64_w _).symm.trans (ac h_)
  obtain rfl:=Option.some.inj H;go_enter Try.func39,Try.ntmps39
  go_wp2
  go_ret
  exact ⟨by first|rfl|(simp;done)|(simp only [← aa] <;> (first|rfl|simp))|(simp [*];done),by repeat (first|exact Drawn0.refl _|apply Drawn0.step)⟩
 ·rw [if_neg c2] at H;exact absurd H (by simp)

/-! ### impl_BestOrder: function 17 -/
def impl_BestOrder.f (k:Nat) (l0_0:List Int) (l0_1:List (List Int)):Option (List Int × Int × Bool):=(impl_GoodStats.f k l0_0 l0_1).bind fun t259=>(if t259=true then ((impl_whole.f (l0_0.length:Int)).bind fun t260=>((impl_set_list.f k t260).bind fun t261=>((impl_BestOf.f k l0_0 l0_1 t261).bind fun bt264=>(some (bt264.1,bt264.2.1,bt264.2.2))))) else (some (([]:List Int),0,false)))
theorem impl_BestOrder.mono : ∀ a0 a1 k,LeO (impl_BestOrder.f k a0 a1) (impl_BestOrder.f (k + 1) a0 a1):=by
 intro a0 a1 k;unfold impl_BestOrder.f
 repeat' first
   | (with_reducible exact impl_BestOf.mono _ _ _ _)
   | (with_reducible exact impl_GoodStats.mono _ _ _)
   | (with_reducible exact impl_set_list.mono _ _)
   | (with_reducible exact LeO.refl _)
   | (with_reducible exact LeO.none _)
   | (with_reducible refine LeO.ite ?_ ?_)
   | (with_reducible refine LeO.bind ?_ (fun _=>?_))
   | exact impl_BestOf.mono _ _ _ _
   | exact impl_GoodStats.mono _ _ _
   | exact impl_set_list.mono _ _
   | exact LeO.none _
   | refine LeO.ite ?_ ?_
   | refine LeO.bind ?_ (fun _=>?_)
def impl_BestOrder.T3 : Bool × List (List Nat × List Nat):=(true,[([],[]),([],[]),([1],[1]),([2],[2]),([3],[3]),([4,4],[4]),([0,5,5],[0,5]),([6],[6]),([6],[6]),([6],[6]),([7,6,0,1,2,3,4,5,6,7,8,9],[7]),([8,10,0,1,2,3,4,5,6,7,8,9,10],[8]),([9,11,0,1,2,3,4,5,6,7,8,9,10,11],[9])])
def impl_BestOrder.B3 : List Nat:=[0,0,2,6,14,30,63,127,127,127,1023,2047,4095]
theorem impl_BestOrder.tab3 : rtab .any (opsOf Try.f17 3)=impl_BestOrder.T3:=by kernel_rfl
theorem impl_BestOrder.bits3 : waitsOk impl_BestOrder.T3.2 impl_BestOrder.B3=true:=by kernel_rfl
set_option maxHeartbeats 8000000 in
set_option maxRecDepth 100000 in
theorem impl_BestOrder.calls (k:Nat) (ah:Option Addr) (ai:Nat) (ac:List Int) (aj:Option Addr) (ak:Nat) (ad:List (List Int)) (r1:List Int) (r2:Int) (r3:Bool) (w:World) (ax:Kd.C (Kd.int .i64) w ah ac.length ac) (ay:ac.length≤ai) (az:Kd.C (Kd.slice 3 (Kd.int .i64)) w aj ad.length ad) (aA:ad.length≤ak) (h:impl_BestOrder.f k ac ad=some (r1,r2,r3)) :
  Calls Try.prog 17 #[.agg #[.slice ah ac.length ai,.slice aj ad.length ak]] w fun e w'=>∃ aZ:Value,e=.returned (.tuple #[aZ,.int .i64 r2,.bool r3])∧Kd.R (Kd.int .i64) 3 w' w.heap.size (fun _=>True) aZ r1∧Below w.heap.size w w':=by
 have bf:=Try.underlying29;have ap:=qK ax;have aq:=qK ay;clear ax ay;have ar:=qK az;have au:=qK aA;clear az aA;have HB:=qK (Below.refl w.heap.size w);have H:((impl_GoodStats.f k ac ad).bind fun aw=>(if aw=true then ((impl_whole.f (ac.length:Int)).bind fun al=>((impl_set_list.f k al).bind fun af=>((impl_BestOf.f k ac ad af).bind fun ab=>(some (ab.1,ab.2.1,ab.2.2))))) else (some (([]:List Int),0,false))))=some (r1,r2,r3):=h;clear h;replace H:=Option.bind_eq_some_iff.mp H;obtain ⟨aw,ba,H⟩:=H;replace H:(if aw=true then ((impl_whole.f (ac.length:Int)).bind fun al=>((impl_set_list.f k al).bind fun af=>((impl_BestOf.f k ac ad af).bind fun ab=>(some (ab.1,ab.2.1,ab.2.2))))) else (some (([]:List Int),0,false)))=some (r1,r2,r3):=H;have A2:=qK ba;clear ba;by_cases c3:aw=true
 ·subst c3;have H1:((impl_whole.f (ac.length:Int)).bind fun al=>((impl_set_list.f k al).bind fun af=>((impl_BestOf.f k ac ad af).bind fun ab=>(some (ab.1,ab.2.1,ab.2.2)))))=some (r1,r2,r3):=by rw [if_pos rfl] at H;exact H
  clear H;have H:=H1;clear H1;replace H:=Option.bind_eq_some_iff.mp H;obtain ⟨al,bb,H⟩:=H;replace H:((impl_set_list.f k al).bind fun af=>((impl_BestOf.f k ac ad af).bind fun ab=>(some (ab.1,ab.2.1,ab.2.2))))=some (r1,r2,r3):=H;have A4:=qK bb;clear bb;replace H:=Option.bind_eq_some_iff.mp H;obtain ⟨af,bc,H⟩:=H;replace H:((impl_BestOf.f k ac ad af).bind fun ab=>(some (ab.1,ab.2.1,ab.2.2)))=some (r1,r2,r3):=H;have A5:=qK bc;clear bc;replace H:=Option.bind_eq_some_iff.mp H;obtain ⟨⟨aE,aG,aH⟩,bd,H⟩:=H;replace H:(some (aE,aG,aH))=some (r1,r2,r3):=H;have A6:=qK bd;clear bd;simp only [Option.some.injEq,Prod.mk.injEq] at H;obtain ⟨rfl,rfl,rfl⟩:=H;go_enter Try.func17,Try.ntmps17
  try go_wp2_with (first|((with_reducible refine gate_dst (N:=1) rfl ?_);refine box_event ?hg (N:=1) ?hd (cs:=#[.slice ah ac.length ai,.slice aj ad.length ak]) (t:=29) ?hr ?_;(case hd=>rfl);(case hg=>rfl);(case hr=>(go_simp;try rfl));intro ae hg w7 hbox hb;have am:=qK (qT HB.out hb);have an:=qK (hbox);have ao:=qK ((by rw [hg];exact (qZ HB.out):w.heap.size≤ae));have aC:=ao;clear HB;have HB:=am;have aa:=an;have aI:=ao;have av:=aC;clear am an ao aC hb hbox hg;have aR:w7.cell? ⟨ae,0,none⟩=some (.slice ah ac.length ai):=(qC aa.out 0).trans rfl;have aT:w7.cell? ⟨ae,1,none⟩=some (.slice aj ad.length ak):=(qC aa.out 1).trans rfl;have aU:=qF aa.out 0;have aV:=qF aa.out 1)|((with_reducible refine gate_callee (f:=22) rfl ?_);refine goesL_ (some 6) rfl rfl Try.func22 (by kernel_rfl) rfl #[.agg #[.slice ah ac.length ai,.slice aj ad.length ak]] rfl (by (try simp only [mT,mC,mN]);first|done|rfl|(simp only [lD,lT];rfl)) ?_;(with_reducible refine (impl_GoodStats.calls k _ _ ac _ _ ad true _ ?side1 ?side2 ?side3 ?side4 A2.out).mono ?_);(case side1=>exact (cB ap.out HB.out));(case side2=>exact aq.out);(case side3=>exact (cB ar.out HB.out));(case side4=>exact au.out);rintro e w9 ⟨rfl,hb⟩;refine ⟨_,rfl,?_⟩;have am:=qK (qB (g:=ae) (o:=_) (by exact aa.out) hb);have an:=qK (qT HB.out hb);clear aa HB;have aa:=am;have HB:=an;clear am an;(try clear hb)))
  have am:=qK (qW aa.out);have an:=qK (qO HB.out);clear aa HB;have aa:=am;have HB:=an;clear am an;refine start_ (n:=13) (S:=fun w'=>w'.cell? ⟨ae,0,none⟩=some (.slice ah ac.length ai)∧w'.cell? ⟨ae,1,none⟩=some (.slice aj ad.length ak)) (ds:=[]) #[Z,Z,Z,Z,Z,Z,Z,Z,Z,Z,Z,Z,Z] (by kernel_rfl) rfl rfl ⟨(qC aa.out 0).trans rfl,(qC aa.out 1).trans rfl⟩ (fun hHeld=>?_);refine with_tabW impl_BestOrder.tab3 impl_BestOrder.bits3 (fun HT_ HW_=>?_);generalize w9.drew=w10 at aa HB hHeld ⊢
  refine pure_ (i:=1) (N:=some 9) (v:=?_) (a':=?_) #[Z,Y,Z,Z,Z,Z,Z,Z,Z,Z,Z,Z,Z] rfl rfl (any_of HT_.out (by kernel_rfl)) (fun _ _ _ h=>h) (Or.inl ⟨by rfl,?_⟩) ?_ ?_;rotate_left
  ·intro w';go_simp;with_reducible rfl
  rotate_left
  ·simp only [Act.put,sIb,sZ,sS,i64_w,i32_w];rfl
  refine take_ (i:=0) (N:=some 8) (v:=?_) (a':=?_) #[Y,Y,Z,Z,Z,Z,Z,Z,Z,Z,Z,Z,Z] rfl rfl (take_ofW HT_.out HW_.out (by kernel_rfl)) (fun _ _ _ h=>h) (Or.inl ⟨by rfl,?_⟩) hHeld ?_ ?_;rotate_left
  ·rintro w' ⟨s0,s1⟩;go_simp;with_reducible rfl
  rotate_left
  ·simp only [Act.put,sIb,sZ,sS,i64_w,i32_w];rfl
  refine take_ (i:=2) (N:=some 10) (v:=?_) (a':=?_) #[Y,Y,Y,Z,Z,Z,Z,Z,Z,Z,Z,Z,Z] rfl rfl (take_ofW HT_.out HW_.out (by kernel_rfl)) (fun _ _ _ h=>h) (Or.inl ⟨by rfl,?_⟩) hHeld ?_ ?_;rotate_left
  ·rintro w' ⟨s0,s1⟩;go_simp;with_reducible rfl
  rotate_left
  ·simp only [Act.put,sIb,sZ,sS,i64_w,i32_w];rfl
  refine pure_ (i:=3) (N:=some 11) (v:=?_) (a':=?_) #[Y,Y,Y,Y,Z,Z,Z,Z,Z,Z,Z,Z,Z] rfl rfl (any_of HT_.out (by kernel_rfl)) (fun _ _ _ h=>h) (Or.inl ⟨by rfl,?_⟩) ?_ ?_;rotate_left
  ·intro w';go_simp;with_reducible rfl
  rotate_left
  ·simp only [Act.put,sIb,sZ,sS,i64_w,i32_w];rfl
  refine one_ (i:=4) (N:=some 12) #[Y,Y,Y,Y,Y,Z,Z,Z,Z,Z,Z,Z,Z] rfl rfl (one_of HT_.out (by kernel_rfl)) (by decide) (fun K hK=>?_);refine goes_ Try.func39 (by kernel_rfl) rfl #[.int .i64 (ac.length:Int)] (by rfl) rfl rfl (by (try simp only [mT,mC,mN]);first|done|rfl|(simp only [lD,lT];rfl)) ?_;with_reducible refine (impl_whole.calls (ac.length:Int) al _ A4.out).mono ?_
  rintro e w' ⟨rfl,⟨nd,rfl⟩⟩;refine ⟨_,rfl,?_⟩;refine hK.out _ _ ⟨(qC aa.out 0).trans rfl,(qC aa.out 1).trans rfl⟩ (fun hHeld=>?_);clear hK K;refine norm_ (a':=?_) ?_ ?_;rotate_left
  ·show Act.put _ (some 12) _=_
   simp only [Act.put,sIb,sZ,sS,i64_w,i32_w];rfl
  refine one_ (i:=5) (N:=some 13) #[Y,Y,Y,Y,Y,Y,Z,Z,Z,Z,Z,Z,Z] rfl rfl (one_of HT_.out (by kernel_rfl)) (by decide) (fun K hK=>?_);refine goes_ Try.func40 (by kernel_rfl) rfl #[.int .i64 al] (by rfl) rfl rfl (by (try simp only [mT,mC,mN]);first|done|rfl|(simp only [lD,lT];rfl)) ?_;with_reducible refine (impl_set_list.calls k al af _ A5.out).mono ?_
  rintro e bi ⟨bg,rfl,aD,hb⟩;refine ⟨_,rfl,?_⟩;have am:=qK (Kd.R_lower aD (qZ (by repeat (with_reducible first|exact HB.out|apply qA|apply qD|apply qO|refine qS ?_ av.out))));have an:=qK (qB (g:=ae) (o:=_) (by exact aa.out) hb);have ao:=qK (qT (by repeat (with_reducible first|exact HB.out|apply qA|apply qD|apply qO|refine qS ?_ av.out)) hb);clear aa HB;have ag:=am;have aa:=an;have HB:=ao;clear am an ao;(try clear hb);(try clear aD);obtain ⟨aW,aX,aY⟩:=Kd.R_slice ag.out;subst aY;refine hK.out _ _ ⟨(qC aa.out 0).trans rfl,(qC aa.out 1).trans rfl⟩ (fun hHeld=>?_);clear hK K;refine norm_ (a':=?_) ?_ ?_;rotate_left
  ·show Act.put _ (some 13) _=_
   simp only [Act.put,sIb,sZ,sS,i64_w,i32_w];rfl
  refine one_ (i:=6) (N:=some 14) #[Y,Y,Y,Y,Y,Y,Y,Z,Z,Z,Z,Z,Z] rfl rfl (one_of HT_.out (by kernel_rfl)) (by decide) (fun K hK=>?_);refine goes_ Try.func10 (by kernel_rfl) rfl #[.agg #[.slice ah ac.length ai,.slice aj ad.length ak],.slice aW af.length aX] (by rfl) rfl rfl (by (try simp only [mT,mC,mN]);first|done|rfl|(simp only [lD,lT];rfl)) ?_;with_reducible refine (impl_BestOf.calls k _ _ ac _ _ ad _ _ af aE aG aH _ ?side1 ?side2 ?side3 ?side4 ?side5 ?side6 A6.out).mono ?_
  (case side1=>exact (cB ap.out HB.out));(case side2=>exact aq.out);(case side3=>exact (cB ar.out HB.out));(case side4=>exact au.out);(case side5=>exact (Kd.R_reads' ag.out).2.2);(case side6=>exact (Kd.R_reads' ag.out).2.1);rintro e bj ⟨bh,rfl,aD,hb⟩;refine ⟨_,rfl,?_⟩;have am:=qK (Kd.R_elder' ag.out (Kd.R_base aD) hb);have an:=qK (Kd.R_lower (Kd.R_new' aD (Kd.R_lt ag.out)) (qZ HB.out));have ao:=qK (qB (g:=ae) (o:=_) (by exact aa.out) hb);have aC:=qK (qT HB.out hb);clear ag aa HB;have ag:=am;have aJ:=an;have aa:=ao;have HB:=aC;clear am an ao aC;(try clear hb);(try clear aD);refine hK.out _ _ ⟨(qC aa.out 0).trans rfl,(qC aa.out 1).trans rfl⟩ (fun hHeld=>?_);clear hK K;refine norm_ (a':=?_) ?_ ?_;rotate_left
  ·show Act.put _ (some 14) _=_
   simp only [Act.put,sIb,sZ,sS,i64_w,i32_w];rfl
  refine pure_ (i:=7) (N:=some 15) (v:=?_) (a':=?_) #[Y,Y,Y,Y,Y,Y,Y,Y,Z,Z,Z,Z,Z] rfl rfl (any_of HT_.out (by kernel_rfl)) (fun _ _ _ h=>h) (Or.inl ⟨by rfl,?_⟩) ?_ ?_;rotate_left
  ·intro w';go_simp;with_reducible rfl
  rotate_left
  ·simp only [Act.put,sIb,sZ,sS,i64_w,i32_w];rfl
  refine pure_ (i:=8) (N:=some 16) (v:=?_) (a':=?_) #[Y,Y,Y,Y,Y,Y,Y,Y,Y,Z,Z,Z,Z] rfl rfl (any_of HT_.out (by kernel_rfl)) (fun _ _ _ h=>h) (Or.inl ⟨by rfl,?_⟩) ?_ ?_;rotate_left
  ·intro w';go_simp;with_reducible rfl
  rotate_left
  ·simp only [Act.put,sIb,sZ,sS,i64_w,i32_w];rfl
  refine pure_ (i:=9) (N:=some 17) (v:=?_) (a':=?_) #[Y,Y,Y,Y,Y,Y,Y,Y,Y,Y,Z,Z,Z] rfl rfl (any_of HT_.out (by kernel_rfl)) (fun _ _ _ h=>h) (Or.inl ⟨by rfl,?_⟩) ?_ ?_;rotate_left
  ·intro w';go_simp;with_reducible rfl
  rotate_left
  ·simp only [Act.put,sIb,sZ,sS,i64_w,i32_w];rfl
  refine pure_ (i:=10) (N:=some 2) (v:=?_) (a':=?_) #[Y,Y,Y,Y,Y,Y,Y,Y,Y,Y,Y,Z,Z] rfl rfl (any_of HT_.out (by kernel_rfl)) (fun _ _ _ h=>h) (Or.inl ⟨by rfl,?_⟩) ?_ ?_;rotate_left
  ·intro w';go_simp;with_reducible rfl
  rotate_left
  ·simp only [Act.put,sIb,sZ,sS,i64_w,i32_w];rfl
  refine pure_ (i:=11) (N:=some 3) (v:=?_) (a':=?_) #[Y,Y,Y,Y,Y,Y,Y,Y,Y,Y,Y,Y,Z] rfl rfl (any_of HT_.out (by kernel_rfl)) (fun _ _ _ h=>h) (Or.inl ⟨by rfl,?_⟩) ?_ ?_;rotate_left
  ·intro w';go_simp;with_reducible rfl
  rotate_left
  ·simp only [Act.put,sIb,sZ,sS,i64_w,i32_w];rfl
  refine pure_ (i:=12) (N:=some 4) (v:=?_) (a':=?_) #[Y,Y,Y,Y,Y,Y,Y,Y,Y,Y,Y,Y,Y] rfl rfl (any_of HT_.out (by kernel_rfl)) (fun _ _ _ h=>h) (Or.inl ⟨by rfl,?_⟩) ?_ ?_;rotate_left
  ·intro w';go_simp;with_reducible rfl
  rotate_left
  ·simp only [Act.put,sIb,sZ,sS,i64_w,i32_w];rfl
  refine done_ (done_of HT_.out (by kernel_rfl)) ?_;try go_wp2
  go_ret3
  exact ⟨_,by rfl,Kd.R_mono aJ.out (fun _ hk=>trivial),HB.out⟩
 ·replace c3:=Bool.eq_false_iff.mpr c3;subst c3;have H1:(some (([]:List Int),0,false))=some (r1,r2,r3):=by rw [if_neg (show ¬ (false=true) by decide)] at H;exact H
  clear H;have H:=H1;clear H1;simp only [Option.some.injEq,Prod.mk.injEq] at H;obtain ⟨rfl,rfl,rfl⟩:=H;go_enter Try.func17,Try.ntmps17
  go_wp2_with (first|((with_reducible refine gate_dst (N:=1) rfl ?_);refine box_event ?hg (N:=1) ?hd (cs:=#[.slice ah ac.length ai,.slice aj ad.length ak]) (t:=29) ?hr ?_;(case hd=>rfl);(case hg=>rfl);(case hr=>(go_simp;try rfl));intro ae hg be hbox hb;have am:=qK (qT HB.out hb);have an:=qK (hbox);have ao:=qK ((by rw [hg];exact (qZ HB.out):w.heap.size≤ae));have aC:=ao;clear HB;have HB:=am;have aa:=an;have aI:=ao;have av:=aC;clear am an ao aC hb hbox hg;have aK:be.cell? ⟨ae,0,none⟩=some (.slice ah ac.length ai):=(qC aa.out 0).trans rfl;have aM:be.cell? ⟨ae,1,none⟩=some (.slice aj ad.length ak):=(qC aa.out 1).trans rfl;have aN:=qF aa.out 0;have aQ:=qF aa.out 1)|((with_reducible refine gate_callee (f:=22) rfl ?_);refine goesL_ (some 6) rfl rfl Try.func22 (by kernel_rfl) rfl #[.agg #[.slice ah ac.length ai,.slice aj ad.length ak]] rfl (by (try simp only [mT,mC,mN]);first|done|rfl|(simp only [lD,lT];rfl)) ?_;(with_reducible refine (impl_GoodStats.calls k _ _ ac _ _ ad false _ ?side1 ?side2 ?side3 ?side4 A2.out).mono ?_);(case side1=>exact (cB ap.out HB.out));(case side2=>exact aq.out);(case side3=>exact (cB ar.out HB.out));(case side4=>exact au.out);rintro e bk ⟨rfl,hb⟩;refine ⟨_,rfl,?_⟩;have am:=qK (qB (g:=ae) (o:=_) (by exact aa.out) hb);have an:=qK (qT HB.out hb);clear aa HB;have aa:=am;have HB:=an;clear am an;(try clear hb)))
  go_ret3
  exact ⟨_,by rfl,by first|exact Kd.R_nil _ _ _ _ _|exact Kd.N_nil _ _ _ _ _|exact Kd.V_nil _ _ _ _ _|exact Kd.Q_nil _ _ _ _ _|exact Kd.S_nil _ _ _ _ _,HB.out⟩

/-- A state of type 65 at block g of W; what its slices lead to came in by w0. -/
def IsS65 (w0 W:World) (g:Nat) (f0:List Int) (f1:Int) (f2:Int):Prop:=∃ A0 c0,W.heap[g]?=some (.cells #[.slice A0 f0.length c0,.int .i64 f1,.int .u64 f2] 65 (0,0))∧w0.heap.size≤g∧Kd.C (Kd.int .u8) w0 A0 f0.length f0
theorem IsS65.grown {w0 W:World} {g:Nat} {f0:List Int} {f1:Int} {f2:Int} {W1:World} {row:Option Nat} (h:IsS65 w0 W g f0 f1 f2) (hw:W.grownBy W1 row) (hne:some g ≠ row):IsS65 w0 W1 g f0 f1 f2:=by
 obtain ⟨A0,c0,hb,hg,hr0⟩:=h;exact ⟨A0,c0,blk_grown hb hw hne,hg,hr0⟩
theorem IsS65.own_neN {w0 W:World} {g:Nat} {f0:List Int} {f1:Int} {f2:Int} {α:Type} {d:Kd α} {e:Nat} {base:Nat} {ok:Nat→Prop} {v:Value} {xs:List α} (h:IsS65 w0 W g f0 f1 f2) (ho:Kd.N d e W base ok v xs) (ht:e ≠ 65):some g ≠ v.ownBlock:=by
 obtain ⟨A0,c0,hb,hg,hr0⟩:=h;exact Kd.N_ne ho hb ht
theorem IsS65.fresh {w0 W:World} {g:Nat} {f0:List Int} {f1:Int} {f2:Int} (h:IsS65 w0 W g f0 f1 f2):∀ k,W.heap.size≤k→k ≠ g:=by
 obtain ⟨A0,c0,hb,hg,hr0⟩:=h;exact Kd.freshB hb
theorem IsS65.kept {w0 W:World} {g:Nat} {f0:List Int} {f1:Int} {f2:Int} {W1:World} {S:Nat→Prop} (h:IsS65 w0 W g f0 f1 f2) (hk:Kept W W1 S) (hne:¬ S g):IsS65 w0 W1 g f0 f1 f2:=by
 obtain ⟨A0,c0,hb,hg,hr0⟩:=h;exact ⟨A0,c0,blk_kept hb hk hne,hg,hr0⟩
theorem IsS65.below {w0 W:World} {g:Nat} {f0:List Int} {f1:Int} {f2:Int} {W1:World} (h:IsS65 w0 W g f0 f1 f2) (hw:Below W.heap.size W W1):IsS65 w0 W1 g f0 f1 f2:=h.grown (grown_of_below hw none) (by simp)
theorem IsS65.alloc {w0 W:World} {g:Nat} {f0:List Int} {f1:Int} {f2:Int} (h:IsS65 w0 W g f0 f1 f2) (o:Obj):IsS65 w0 (W.alloc o) g f0 f1 f2:=h.below (qA (Below.refl _ _) o)
theorem IsS65.drewN {w0 W:World} {g:Nat} {f0:List Int} {f1:Int} {f2:Int} (h:IsS65 w0 W g f0 f1 f2) (m:Nat):IsS65 w0 (W.drewN m) g f0 f1 f2:=h
theorem IsS65.drew {w0 W:World} {g:Nat} {f0:List Int} {f1:Int} {f2:Int} (h:IsS65 w0 W g f0 f1 f2):IsS65 w0 W.drew g f0 f1 f2:=h
theorem IsS65.at_ {w0 W:World} {g:Nat} {f0:List Int} {f1:Int} {f2:Int} {w':World} {m:Nat} (hq:W.drewN m=w') (h:IsS65 w0 W g f0 f1 f2):IsS65 w0 w' g f0 f1 f2:=by subst hq;exact IsS65.drewN h m
theorem IsS65.apart {w0 W:World} {g:Nat} {f0:List Int} {f1:Int} {f2:Int} {α:Type} {d:Kd α} {e:Nat} {base:Nat} {ok:Nat→Prop} {v:Value} {xs:List α} (h:IsS65 w0 W g f0 f1 f2) (ho:d.R e W base ok v xs) (ht:∀ q,q ∈ e :: d.E→q ≠ 65):d.R e W base (fun k=>ok k∧k ≠ g) v xs:=by
 obtain ⟨A0,c0,hb,hg,hr0⟩:=h;exact Kd.R_types ho hb ht
theorem IsS65.own_ne {w0 W:World} {g:Nat} {f0:List Int} {f1:Int} {f2:Int} {α:Type} {d:Kd α} {e:Nat} {base:Nat} {ok:Nat→Prop} {v:Value} {xs:List α} (h:IsS65 w0 W g f0 f1 f2) (ho:d.R e W base ok v xs) (ht:e ≠ 65):some g ≠ v.ownBlock:=by
 obtain ⟨A0,c0,hb,hg,hr0⟩:=h;exact Kd.R_ne ho hb ht
theorem IsS65.apartQ {w0 W:World} {g:Nat} {f0:List Int} {f1:Int} {f2:Int} {α:Type} {d:Kd α} {e:Nat} {base:Nat} {ok:Nat→Prop} {v:Value} {xs:List α} (h:IsS65 w0 W g f0 f1 f2) (ho:d.Q e W base ok v xs) (ht:∀ q,q ∈ e :: d.E→q ≠ 65):d.Q e W base (fun k=>ok k∧k ≠ g) v xs:=by
 obtain ⟨A0,c0,hb,hg,hr0⟩:=h;exact Kd.Q_types ho hb ht
theorem IsS65.own_neQ {w0 W:World} {g:Nat} {f0:List Int} {f1:Int} {f2:Int} {α:Type} {d:Kd α} {e:Nat} {base:Nat} {ok:Nat→Prop} {v:Value} {xs:List α} (h:IsS65 w0 W g f0 f1 f2) (ho:d.Q e W base ok v xs) (ht:e ≠ 65):some g ≠ v.ownBlock:=by
 obtain ⟨A0,c0,hb,hg,hr0⟩:=h;exact Kd.Q_ne ho hb ht
theorem IsS65.apartS {w0 W:World} {g:Nat} {f0:List Int} {f1:Int} {f2:Int} {α:Type} {d:Kd α} {e:Nat} {base:Nat} {ok:Nat→Prop} {v:Value} {xs:List α} (h:IsS65 w0 W g f0 f1 f2) (ho:d.S e W base ok v xs) (ht:∀ q,q ∈ e :: d.E→q ≠ 65):d.S e W base (fun k=>ok k∧k ≠ g) v xs:=by
 obtain ⟨A0,c0,hb,hg,hr0⟩:=h;exact Kd.S_types ho hb ht
theorem IsS65.own_neS {w0 W:World} {g:Nat} {f0:List Int} {f1:Int} {f2:Int} {α:Type} {d:Kd α} {e:Nat} {base:Nat} {ok:Nat→Prop} {v:Value} {xs:List α} (h:IsS65 w0 W g f0 f1 f2) (ho:d.S e W base ok v xs) (ht:e ≠ 65):some g ≠ v.ownBlock:=by
 obtain ⟨A0,c0,hb,hg,hr0⟩:=h;exact Kd.S_ne ho hb ht
theorem IsS65.lt {w0 W:World} {g:Nat} {f0:List Int} {f1:Int} {f2:Int} (h:IsS65 w0 W g f0 f1 f2):g < W.heap.size:=by
 obtain ⟨A0,c0,hb,hg,hr0⟩:=h;exact blk_lt hb
theorem IsS65.ge {w0 W:World} {g:Nat} {f0:List Int} {f1:Int} {f2:Int} (h:IsS65 w0 W g f0 f1 f2):w0.heap.size≤g:=by
 obtain ⟨A0,c0,hb,hg,hr0⟩:=h;exact hg
theorem IsS65.ne_blk {w0 W:World} {g:Nat} {f0:List Int} {f1:Int} {f2:Int} {a:Nat} {cs:Array Value} {t:TypeId} {fr:Nat × Nat} (h:IsS65 w0 W g f0 f1 f2) (hb2:W.heap[a]?=some (.cells cs t fr)) (ht:t ≠ 65):g ≠ a:=by
 obtain ⟨A0,c0,hb,hg,hr0⟩:=h;rintro rfl;rw [hb] at hb2;injection hb2 with hb2
 injection hb2 with _ ht2
 exact ht ht2.symm
theorem IsS65.far {w0 W:World} {g:Nat} {f0:List Int} {f1:Int} {f2:Int} {p:Addr} (h:IsS65 w0 W g f0 f1 f2) (hne:g ≠ p.block) (u:Value):IsS65 w0 (W.setCell p u) g f0 f1 f2:=by
 obtain ⟨A0,c0,hb,hg,hr0⟩:=h;exact ⟨A0,c0,qR hb hne u,hg,hr0⟩
theorem cellS65_0 {W:World} {g:Nat} {A0:Option Addr} {c0:Nat} {f0:List Int} {f1:Int} {f2:Int} (h:W.heap[g]?=some (.cells #[.slice A0 f0.length c0,.int .i64 f1,.int .u64 f2] 65 (0,0))):W.cell? ⟨g,0,none⟩=some (.slice A0 f0.length c0):=(qC h 0).trans rfl
theorem cellS65_1 {W:World} {g:Nat} {A0:Option Addr} {c0:Nat} {f0:List Int} {f1:Int} {f2:Int} (h:W.heap[g]?=some (.cells #[.slice A0 f0.length c0,.int .i64 f1,.int .u64 f2] 65 (0,0))):W.cell? ⟨g,1,none⟩=some (.int .i64 f1):=(qC h 1).trans rfl
theorem IsS65.set_1 {w0 W:World} {g:Nat} {f0:List Int} {f1:Int} {f2:Int} (h:IsS65 w0 W g f0 f1 f2) (x:Int):IsS65 w0 (W.setCell ⟨g,1,none⟩ (.int .i64 x)) g f0 x f2:=by
 obtain ⟨A0,c0,hb,hg,hr0⟩:=h;exact ⟨A0,c0,by simpa using blk_set hb 1 (.int .i64 x),hg,hr0⟩
theorem cellS65_2 {W:World} {g:Nat} {A0:Option Addr} {c0:Nat} {f0:List Int} {f1:Int} {f2:Int} (h:W.heap[g]?=some (.cells #[.slice A0 f0.length c0,.int .i64 f1,.int .u64 f2] 65 (0,0))):W.cell? ⟨g,2,none⟩=some (.int .u64 f2):=(qC h 2).trans rfl
theorem IsS65.set_2 {w0 W:World} {g:Nat} {f0:List Int} {f1:Int} {f2:Int} (h:IsS65 w0 W g f0 f1 f2) (x:Int):IsS65 w0 (W.setCell ⟨g,2,none⟩ (.int .u64 x)) g f0 f1 x:=by
 obtain ⟨A0,c0,hb,hg,hr0⟩:=h;exact ⟨A0,c0,by simpa using blk_set hb 2 (.int .u64 x),hg,hr0⟩
theorem IsS65.new (w0 W:World) (A0:Option Addr) (c0:Nat) (f0:List Int) (f1:Int) (f2:Int) (hB:Below w0.heap.size w0 W) (hr0:Kd.C (Kd.int .u8) w0 A0 f0.length f0):IsS65 w0 (W.alloc (.cells #[.slice A0 f0.length c0,.int .i64 f1,.int .u64 f2] 65)) W.heap.size f0 f1 f2:=⟨A0,c0,by simpa using heap_alloc_new W _,hB.size,hr0⟩

/-! ### spec_l1Cur_next: function 69 -/
def spec_l1Cur_next.f (s0_0:List Int) (s0_1:Int) (s0_2:Int):Option (Int × Int × Int):=if s0_1 < (s0_0.length:Int) then (if 0≤s0_1 then (if (wrap64 (s0_1 + 1))≤(s0_0.length:Int) then (some (wrap64 (rd s0_0 s0_1),wrap64 (s0_1 + 1),IntKind.u64.wrap ((IntKind.u64.wrap ((IntKind.u64.wrap (s0_2 * 6364136223846793005)) + (IntKind.u64.wrap (wrap64 (rd s0_0 s0_1))))) + 1442695040888963407))) else (some (wrap64 (Go.bits .and .u64 ((IntKind.u64.wrap ((IntKind.u64.wrap ((IntKind.u64.wrap (s0_2 * 6364136223846793005)) + (IntKind.u64.wrap (wrap64 (rd s0_0 s0_1))))) + 1442695040888963407)) / 1099511627776) 255),wrap64 (s0_1 + 1),IntKind.u64.wrap ((IntKind.u64.wrap ((IntKind.u64.wrap (s0_2 * 6364136223846793005)) + (IntKind.u64.wrap (wrap64 (rd s0_0 s0_1))))) + 1442695040888963407)))) else (none)) else (if (wrap64 (s0_1 + 1))≤(s0_0.length:Int) then (some (0,wrap64 (s0_1 + 1),IntKind.u64.wrap ((IntKind.u64.wrap ((IntKind.u64.wrap (s0_2 * 6364136223846793005)) + 0)) + 1442695040888963407))) else (some (wrap64 (Go.bits .and .u64 ((IntKind.u64.wrap ((IntKind.u64.wrap ((IntKind.u64.wrap (s0_2 * 6364136223846793005)) + 0)) + 1442695040888963407)) / 1099511627776) 255),wrap64 (s0_1 + 1),IntKind.u64.wrap ((IntKind.u64.wrap ((IntKind.u64.wrap (s0_2 * 6364136223846793005)) + 0)) + 1442695040888963407))))
set_option maxHeartbeats 8000000 in
set_option maxRecDepth 100000 in
theorem spec_l1Cur_next.calls (g:Nat) (ab:List Int) (aa:Int) (ad:Int) (r1:Int) (r2:Int) (r3:Int) (w0 w:World) (hI:IsS65 w0 w g ab aa ad) (hB:Below w0.heap.size w0 w) (h:spec_l1Cur_next.f ab aa ad=some (r1,r2,r3)) :
  Calls Try.prog 69 #[.pointer (some ⟨g,0,none⟩)] w fun e w'=>e=.returned (.int .i64 r1)∧IsS65 w0 w' g ab r2 r3∧Below w0.heap.size w0 w'∧KeepBut w w' g none:=by
 have ae:=qK hI;have HK:=qK (KeepBut.refl w g none);have HL:=qK hB.size;clear hI;have bj:=qK hB.size;have HB:=qK hB;clear hB;have H:(if aa < (ab.length:Int) then (if 0≤aa then (if (wrap64 (aa + 1))≤(ab.length:Int) then (some (wrap64 (rd ab aa),wrap64 (aa + 1),IntKind.u64.wrap ((IntKind.u64.wrap ((IntKind.u64.wrap (ad * 6364136223846793005)) + (IntKind.u64.wrap (wrap64 (rd ab aa))))) + 1442695040888963407))) else (some (wrap64 (Go.bits .and .u64 ((IntKind.u64.wrap ((IntKind.u64.wrap ((IntKind.u64.wrap (ad * 6364136223846793005)) + (IntKind.u64.wrap (wrap64 (rd ab aa))))) + 1442695040888963407)) / 1099511627776) 255),wrap64 (aa + 1),IntKind.u64.wrap ((IntKind.u64.wrap ((IntKind.u64.wrap (ad * 6364136223846793005)) + (IntKind.u64.wrap (wrap64 (rd ab aa))))) + 1442695040888963407)))) else (none)) else (if (wrap64 (aa + 1))≤(ab.length:Int) then (some (0,wrap64 (aa + 1),IntKind.u64.wrap ((IntKind.u64.wrap ((IntKind.u64.wrap (ad * 6364136223846793005)) + 0)) + 1442695040888963407))) else (some (wrap64 (Go.bits .and .u64 ((IntKind.u64.wrap ((IntKind.u64.wrap ((IntKind.u64.wrap (ad * 6364136223846793005)) + 0)) + 1442695040888963407)) / 1099511627776) 255),wrap64 (aa + 1),IntKind.u64.wrap ((IntKind.u64.wrap ((IntKind.u64.wrap (ad * 6364136223846793005)) + 0)) + 1442695040888963407)))))=some (r1,r2,r3):=h;clear h;by_cases c2:aa < (ab.length:Int)
 ·rw [if_pos c2] at H;have ap:decide (aa < (ab.length:Int))=true:=decide_eq_true c2;clear c2;by_cases c3:0≤aa
  ·rw [if_pos c3] at H;have bi:decide (0≤aa)=true:=decide_eq_true c3;clear c3;by_cases c4:(wrap64 (aa + 1))≤(ab.length:Int)
   ·rw [if_pos c4] at H;have aq:decide ((wrap64 (aa + 1))≤(ab.length:Int))=true:=decide_eq_true c4;clear c4;simp only [Option.some.injEq,Prod.mk.injEq] at H;obtain ⟨rfl,rfl,rfl⟩:=H;obtain ⟨ar,au,ah,av,al⟩:=ae.out;have aw:=cellS65_0 ah;have ax:=cellS65_1 ah;have ay:=cellS65_2 ah;have az:=qF ah 1;have aA:=qF ah 2;clear ah av;have af:0≤(aa:Int):=of_decide_eq_true (by assumption);have ag:aa < (ab.length:Int):=of_decide_eq_true (by assumption);obtain ⟨ao,am,ac⟩:=Kd.at_int al aa af ag;cases am
    replace ac:=pw_cell_below HB.out ac;replace af:=eq_true af;replace ag:=eq_true ag;go_enter Try.func69,Try.ntmps69
    go_wp2
    repeat (go_quiet (fail);try go_wp2)
    go_ret
    exact ⟨by rfl,by (try simp only [Int.add_zero]);repeat (first|(with_reducible first|exact ae.out|apply IsS65.alloc|apply IsS65.drewN|apply IsS65.drew|apply IsS65.set_1|apply IsS65.set_2)|exact ae.out),by repeat (first|(with_reducible first|exact HB.out|apply qA|apply qD|apply qO|refine qS ?_ (IsS65.ge ae.out))|exact HB.out),by repeat (first|(with_reducible first|exact HK.out|apply KeepBut.set_|apply keep_drewN|apply keep_drew|apply keep_alloc)|exact HK.out)⟩
   ·rw [if_neg c4] at H;have aq:decide ((wrap64 (aa + 1))≤(ab.length:Int))=false:=decide_eq_false c4;clear c4;simp only [Option.some.injEq,Prod.mk.injEq] at H;obtain ⟨rfl,rfl,rfl⟩:=H;obtain ⟨aC,aD,ai,aE,an⟩:=ae.out;have aG:=cellS65_0 ai;have aH:=cellS65_1 ai;have aI:=cellS65_2 ai;have aJ:=qF ai 1;have aK:=qF ai 2;clear ai aE;have af:0≤(aa:Int):=of_decide_eq_true (by assumption);have ag:aa < (ab.length:Int):=of_decide_eq_true (by assumption);obtain ⟨ao,am,ac⟩:=Kd.at_int an aa af ag;cases am
    replace ac:=pw_cell_below HB.out ac;replace af:=eq_true af;replace ag:=eq_true ag;go_enter Try.func69,Try.ntmps69
    go_wp2
    repeat (go_quiet (fail);try go_wp2)
    go_ret
    exact ⟨by rfl,by (try simp only [Int.add_zero]);repeat (first|(with_reducible first|exact ae.out|apply IsS65.alloc|apply IsS65.drewN|apply IsS65.drew|apply IsS65.set_1|apply IsS65.set_2)|exact ae.out),by repeat (first|(with_reducible first|exact HB.out|apply qA|apply qD|apply qO|refine qS ?_ (IsS65.ge ae.out))|exact HB.out),by repeat (first|(with_reducible first|exact HK.out|apply KeepBut.set_|apply keep_drewN|apply keep_drew|apply keep_alloc)|exact HK.out)⟩
  ·rw [if_neg c3] at H;exact absurd H (by simp)
 ·rw [if_neg c2] at H;have ap:decide (aa < (ab.length:Int))=false:=decide_eq_false c2;clear c2;by_cases c7:(wrap64 (aa + 1))≤(ab.length:Int)
  ·rw [if_pos c7] at H;have aM:decide ((wrap64 (aa + 1))≤(ab.length:Int))=true:=decide_eq_true c7;clear c7;simp only [Option.some.injEq,Prod.mk.injEq] at H;obtain ⟨rfl,rfl,rfl⟩:=H;obtain ⟨aN,aQ,aj,aR,aT⟩:=ae.out;have aU:=cellS65_0 aj;have aV:=cellS65_1 aj;have aW:=cellS65_2 aj;have aX:=qF aj 1;have aY:=qF aj 2;clear aj aR;go_enter Try.func69,Try.ntmps69
   go_wp2
   repeat (go_quiet (fail);try go_wp2)
   go_ret
   exact ⟨by rfl,by (try simp only [Int.add_zero]);repeat (first|(with_reducible first|exact ae.out|apply IsS65.alloc|apply IsS65.drewN|apply IsS65.drew|apply IsS65.set_1|apply IsS65.set_2)|exact ae.out),by repeat (first|(with_reducible first|exact HB.out|apply qA|apply qD|apply qO|refine qS ?_ (IsS65.ge ae.out))|exact HB.out),by repeat (first|(with_reducible first|exact HK.out|apply KeepBut.set_|apply keep_drewN|apply keep_drew|apply keep_alloc)|exact HK.out)⟩
  ·rw [if_neg c7] at H;have aM:decide ((wrap64 (aa + 1))≤(ab.length:Int))=false:=decide_eq_false c7;clear c7;simp only [Option.some.injEq,Prod.mk.injEq] at H;obtain ⟨rfl,rfl,rfl⟩:=H;obtain ⟨aZ,ba,ak,bb,bc⟩:=ae.out;have bd:=cellS65_0 ak;have be:=cellS65_1 ak;have bf:=cellS65_2 ak;have bg:=qF ak 1;have bh:=qF ak 2;clear ak bb;go_enter Try.func69,Try.ntmps69
   go_wp2
   repeat (go_quiet (fail);try go_wp2)
   go_ret
   exact ⟨by first|rfl|(simp [errW_none,errW_some] <;> rfl)|(simp [*,errW_none,errW_some] <;> rfl),by (try simp only [Int.add_zero]);repeat (first|(with_reducible first|exact ae.out|apply IsS65.alloc|apply IsS65.drewN|apply IsS65.drew|apply IsS65.set_1|apply IsS65.set_2)|exact ae.out),by repeat (first|(with_reducible first|exact HB.out|apply qA|apply qD|apply qO|refine qS ?_ (IsS65.ge ae.out))|exact HB.out),by repeat (first|(with_reducible first|exact HK.out|apply KeepBut.set_|apply keep_drewN|apply keep_drew|apply keep_alloc)|exact HK.out)⟩

end Go.Proofs.Ytecebaeifmddnaa.PFnOrdered
