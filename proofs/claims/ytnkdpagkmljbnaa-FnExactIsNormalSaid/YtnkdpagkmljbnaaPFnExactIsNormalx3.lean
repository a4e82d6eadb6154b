/-
  A text of this claim's own, printed by a program of the session (wip/tools/xprint.py): functions of the program as Lean functions, each with what its call comes to.
-/
import Derived.Test.YtnkdpagkmljbnaaPFnExactIsNormalx0
import Derived.Test.YtnkdpagkmljbnaaPFnExactIsNormalx2
namespace Go.Proofs.Ytnkdpagkmljbnaa.PFnExactIsNormal
open Go.Proofs.YtnkdpagkmljbnaaW.PrintWords renaming pw_below_drewN → qD, blk_cell → qC, below_drew1 → qO, below_alloc → qA, blk_frozen → qF, below_set → qS, blk_drewN → qN, blk_alloc → qL, blk_drew → qW, below_size → qZ, below_step → qT, blk_below → qB, blk_far → qR, blk_put → qP
open Go.Proofs.YtnkdpagkmljbnaaW.PrintWords.Aside0 renaming mk → qK
open Bool renaming true → Y, false → Z
open List renaming setIfInBounds_toArray → sIb, set_cons_zero → sZ, set_cons_succ → sS, map_toArray → mT, map_cons → mC, map_nil → mN, length_drop → lD, length_take → lT
open Go.Proofs.YtnkdpagkmljbnaaW.PrintWords.Kd renaming C_alloc → cL, C_drewN → cN, C_drew → cW, C_below → cB, R_alloc → rL, R_drewN → rN, R_drew → rW, R_below → rB
open Go.RowKit Go.Proofs.YtnkdpagkmljbnaaW.PrintWords Go.Proofs.YtnkdpagkmljbnaaW.PrintLast Go.Proofs.YtnkdpagkmljbnaaW.PrintMore
attribute [local go_sem] max2_int min2_int max_two min_two max_three min_three max_four min_four   -- for this text's walks alone
set_option linter.unusedVariables false
set_option linter.unusedSimpArgs false

/-! ### impl_areRising: function 23 -/
def impl_areRising.l0 : Nat→List Int→Int→List Int→Int→Int→Option (Bool)
 | 0,_,_,_,_,_=>none
 | k + 1,x0,x1,x7,x8,x9=>if x9 < x8 then (if 0≤x9 then (if x9 < (x7.length:Int) then ((impl_isPlace.f (rd x7 x9) x1).bind fun t233=>(if t233=true then (if x9 > 0 then (if 0≤(wrap64 (x9 - 1)) then (if (wrap64 (x9 - 1)) < (x0.length:Int) then (if (rd x7 x9)≤(rd x0 (wrap64 (x9 - 1))) then (some false) else (impl_areRising.l0 k x0 x1 x7 x8 (wrap64 (x9 + 1)))) else (none)) else (none)) else (impl_areRising.l0 k x0 x1 x7 x8 (wrap64 (x9 + 1)))) else (some false))) else (none)) else (none)) else (some true)
def impl_areRising.f (k:Nat) (l0:List Int) (a1:Int):Option (Bool):=impl_areRising.l0 k l0 a1 l0 (l0.length:Int) 0
theorem impl_areRising.mono_l : ∀ k,(∀ y0 y1 y2 y3 y4,LeO (impl_areRising.l0 k y0 y1 y2 y3 y4) (impl_areRising.l0 (k + 1) y0 y1 y2 y3 y4))
 | 0=>fun _ _ _ _ _ r h=>by simp [impl_areRising.l0] at h
 | k + 1=>by
  have ih0:=impl_areRising.mono_l k
  ·intro y0 y1 y2 y3 y4;unfold impl_areRising.l0
   repeat' first
   | (with_reducible exact ih0 _ _ _ _ _)
   | (with_reducible exact LeO.refl _)
   | (with_reducible exact LeO.none _)
   | (with_reducible refine LeO.ite ?_ ?_)
   | (with_reducible refine LeO.bind ?_ (fun _=>?_))
   | exact ih0 _ _ _ _ _
   | exact LeO.none _
   | refine LeO.ite ?_ ?_
   | refine LeO.bind ?_ (fun _=>?_)
theorem impl_areRising.mono : ∀ a0 a1 k,LeO (impl_areRising.f k a0 a1) (impl_areRising.f (k + 1) a0 a1):=by
 intro a0 a1 k;have ih0:=impl_areRising.mono_l k;unfold impl_areRising.f
 repeat' first
   | (with_reducible exact ih0 _ _ _ _ _)
   | (with_reducible exact LeO.refl _)
   | (with_reducible exact LeO.none _)
   | (with_reducible refine LeO.ite ?_ ?_)
   | (with_reducible refine LeO.bind ?_ (fun _=>?_))
   | exact ih0 _ _ _ _ _
   | exact LeO.none _
   | refine LeO.ite ?_ ?_
   | refine LeO.bind ?_ (fun _=>?_)
set_option maxHeartbeats 8000000 in
set_option maxRecDepth 100000 in
theorem impl_areRising.calls (k:Nat) (A0:Option Addr) (c0:Nat) (l0:List Int) (a1:Int) (r:Bool) (w:World) (hr0:Kd.C (Kd.int .i64) w A0 l0.length l0) (hc0:l0.length≤c0) (h:impl_areRising.f k l0 a1=some r) :
  Calls Try.prog 23 #[.slice A0 l0.length c0,.int .i64 a1] w fun e w'=>e=.returned (.bool r)∧Drawn0 w w':=by
 have HR0:=qK hr0;have HC0:=qK hc0;clear hr0 hc0;have H:(impl_areRising.l0 k l0 a1 l0 (l0.length:Int) 0)=some r:=h;clear h;have H':=qK H;clear H;go_enter Try.func23,Try.ntmps23
 go_wp2
 go_loopg [9] k (fun kq v9 w'=>∃ (x9_1:Int),v9=.int .i64 x9_1∧Aside0 (impl_areRising.l0 kq l0 a1 l0 (l0.length:Int) x9_1=some r)∧Aside0 (kq≤k)∧Drawn0 w w')
 case atStart=>exact ⟨(0),(by first|rfl|(simp;done)|(simp [*];done)),H',⟨Nat.le_refl _⟩,by repeat (first|exact Drawn0.refl _|apply Drawn0.step)⟩
 case round =>
  clear H';try clear c2
  try clear p2
  obtain ⟨x9_1,rfl,HA,HK1,⟨m1,rfl⟩⟩:=hrel;cases gk with
  | zero=>exact absurd HA.out (by simp [impl_areRising.l0])
  | succ k1 =>
   have H:=HA.out;clear HA;simp only [impl_areRising.l0] at H;by_cases c3:x9_1 < (l0.length:Int)
   ·rw [if_pos c3] at H;have c3b0:decide (x9_1 < (l0.length:Int))=true:=decide_eq_true c3;clear c3;by_cases c4:0≤x9_1
    ·rw [if_pos c4] at H;have c4b0:decide (0≤x9_1)=true:=decide_eq_true c4;clear c4;by_cases c5:x9_1 < (l0.length:Int)
     ·rw [if_pos c5] at H;have c5b0:decide (x9_1 < (l0.length:Int))=true:=decide_eq_true c5;clear c5;replace H:=Option.bind_eq_some_iff.mp H;obtain ⟨t233,A60,H⟩:=H;replace H:(if t233=true then (if x9_1 > 0 then (if 0≤(wrap64 (x9_1 - 1)) then (if (wrap64 (x9_1 - 1)) < (l0.length:Int) then (if (rd l0 x9_1)≤(rd l0 (wrap64 (x9_1 - 1))) then (some false) else (impl_areRising.l0 k1 l0 a1 l0 (l0.length:Int) (wrap64 (x9_1 + 1)))) else (none)) else (none)) else (impl_areRising.l0 k1 l0 a1 l0 (l0.length:Int) (wrap64 (x9_1 + 1)))) else (some false))=some r:=H;have A6:=qK A60;clear A60;by_cases c7:t233=true
      ·subst c7;have H1:(if x9_1 > 0 then (if 0≤(wrap64 (x9_1 - 1)) then (if (wrap64 (x9_1 - 1)) < (l0.length:Int) then (if (rd l0 x9_1)≤(rd l0 (wrap64 (x9_1 - 1))) then (some false) else (impl_areRising.l0 k1 l0 a1 l0 (l0.length:Int) (wrap64 (x9_1 + 1)))) else (none)) else (none)) else (impl_areRising.l0 k1 l0 a1 l0 (l0.length:Int) (wrap64 (x9_1 + 1))))=some r:=by rw [if_pos rfl] at H;exact H
       clear H;have H:=H1;clear H1;by_cases c8:x9_1 > 0
       ·rw [if_pos c8] at H;have c8b0:decide (0 < x9_1)=true:=decide_eq_true c8;clear c8;obtain ⟨ji9,hji9⟩:∃ j_:Int,(wrap64 (x9_1 - 1))=j_:=⟨_,rfl⟩;replace H:(if 0≤(ji9) then (if (ji9) < (l0.length:Int) then (if (rd l0 x9_1)≤(rd l0 (ji9)) then (some false) else (impl_areRising.l0 k1 l0 a1 l0 (l0.length:Int) (wrap64 (x9_1 + 1)))) else (none)) else (none))=some r:=by first|(rw [hji9] at H;exact H)|(simp only [hji9] at H ⊢;exact H)
        (try rw [hji9] at A6);have hji9w:(IntKind.i64.wrap (x9_1 - 1))=ji9:=(i64_w _).trans hji9;by_cases c10:0≤(ji9)
        ·rw [if_pos c10] at H;have c10b0:decide (0≤(ji9))=true:=decide_eq_true c10;clear c10;by_cases c11:(ji9) < (l0.length:Int)
         ·rw [if_pos c11] at H;have c11b0:decide ((ji9) < (l0.length:Int))=true:=decide_eq_true c11;clear c11;by_cases c12:(rd l0 x9_1)≤(rd l0 (ji9))
          ·rw [if_pos c12] at H;have c12b0:decide ((rd l0 x9_1)≤(rd l0 (ji9)))=true:=decide_eq_true c12;clear c12;obtain rfl:=Option.some.inj H;have p232:0≤(x9_1:Int):=of_decide_eq_true (by first|(with_reducible assumption)|assumption);have q232:x9_1 < (l0.length:Int):=of_decide_eq_true (by first|(with_reducible assumption)|assumption);obtain ⟨ad232,e232,hx232_0⟩:=Kd.at_int HR0.out x9_1 p232 q232;cases e232
           replace p232:=eq_true p232;replace q232:=eq_true q232;go_wp2_with (first|((with_reducible refine gate_callee (f:=46) rfl ?_);refine goesL_ (some 16) rfl rfl Try.func46 (by kernel_rfl) rfl #[.int .i64 (rd l0 x9_1),.int .i64 a1] rfl (by (try simp only [mT,mC,mN]);first|done|rfl|(simp only [lD,lT];rfl)) ?_;(with_reducible refine (impl_isPlace.calls (rd l0 x9_1) a1 true _ A6.out).mono ?_);rintro e w' ⟨rfl,⟨nd,rfl⟩⟩;refine ⟨_,rfl,?_⟩;have p234:0≤((ji9):Int):=of_decide_eq_true (by first|(with_reducible assumption)|assumption);have q234:(ji9) < (l0.length:Int):=of_decide_eq_true (by first|(with_reducible assumption)|assumption);obtain ⟨ad234,e234,hx234_0⟩:=Kd.at_int HR0.out (ji9) p234 q234;obtain rfl:ad232=ad234:=(by injection e234);replace p234:=eq_true p234;replace q234:=eq_true q234))
           go_ret
           exact ⟨by first|rfl|(simp;done)|(simp only [← hji9] <;> (first|rfl|simp))|(simp [*];done),by repeat (first|exact Drawn0.refl _|apply Drawn0.step)⟩
          ·rw [if_neg c12] at H;have c12b0:decide ((rd l0 x9_1)≤(rd l0 (ji9)))=false:=decide_eq_false c12;clear c12;have H':=qK H;clear H;have p232:0≤(x9_1:Int):=of_decide_eq_true (by first|(with_reducible assumption)|assumption);have q232:x9_1 < (l0.length:Int):=of_decide_eq_true (by first|(with_reducible assumption)|assumption);obtain ⟨ad232,e232,hx232_0⟩:=Kd.at_int HR0.out x9_1 p232 q232;cases e232
           replace p232:=eq_true p232;replace q232:=eq_true q232;go_wp2_with (first|((with_reducible refine gate_callee (f:=46) rfl ?_);refine goesL_ (some 16) rfl rfl Try.func46 (by kernel_rfl) rfl #[.int .i64 (rd l0 x9_1),.int .i64 a1] rfl (by (try simp only [mT,mC,mN]);first|done|rfl|(simp only [lD,lT];rfl)) ?_;(with_reducible refine (impl_isPlace.calls (rd l0 x9_1) a1 true _ A6.out).mono ?_);rintro e w' ⟨rfl,⟨nd,rfl⟩⟩;refine ⟨_,rfl,?_⟩;have p234:0≤((ji9):Int):=of_decide_eq_true (by first|(with_reducible assumption)|assumption);have q234:(ji9) < (l0.length:Int):=of_decide_eq_true (by first|(with_reducible assumption)|assumption);obtain ⟨ad234,e234,hx234_0⟩:=Kd.at_int HR0.out (ji9) p234 q234;obtain rfl:ad232=ad234:=(by injection e234);replace p234:=eq_true p234;replace q234:=eq_true q234))
           go_roundg k1
           case measure=>have:=HK1.out;omega
           case rel=>exact ⟨(wrap64 (x9_1 + 1)),(by first|rfl|(simp;done)|(simp [*];done)),H',⟨by have:=HK1.out;omega⟩,by repeat (first|exact Drawn0.refl _|apply Drawn0.step)⟩
         ·rw [if_neg c11] at H;exact absurd H (by simp)
        ·rw [if_neg c10] at H;exact absurd H (by simp)
       ·rw [if_neg c8] at H;have c8b0:decide (0 < x9_1)=false:=decide_eq_false c8;clear c8;have H':=qK H;clear H;have p232:0≤(x9_1:Int):=of_decide_eq_true (by first|(with_reducible assumption)|assumption);have q232:x9_1 < (l0.length:Int):=of_decide_eq_true (by first|(with_reducible assumption)|assumption);obtain ⟨ad232,e232,hx232_0⟩:=Kd.at_int HR0.out x9_1 p232 q232;cases e232
        replace p232:=eq_true p232;replace q232:=eq_true q232;go_wp2_with (first|((with_reducible refine gate_callee (f:=46) rfl ?_);refine goesL_ (some 16) rfl rfl Try.func46 (by kernel_rfl) rfl #[.int .i64 (rd l0 x9_1),.int .i64 a1] rfl (by (try simp only [mT,mC,mN]);first|done|rfl|(simp only [lD,lT];rfl)) ?_;(with_reducible refine (impl_isPlace.calls (rd l0 x9_1) a1 true _ A6.out).mono ?_);rintro e w' ⟨rfl,⟨nd,rfl⟩⟩;refine ⟨_,rfl,?_⟩))
        go_roundg k1
        case measure=>have:=HK1.out;omega
        case rel=>exact ⟨(wrap64 (x9_1 + 1)),(by first|rfl|(simp;done)|(simp [*];done)),H',⟨by have:=HK1.out;omega⟩,by repeat (first|exact Drawn0.refl _|apply Drawn0.step)⟩
      ·replace c7:=Bool.eq_false_iff.mpr c7;subst c7;have H1:(some false)=some r:=by rw [if_neg (show ¬ (false=true) by decide)] at H;exact H
       clear H;have H:=H1;clear H1;obtain rfl:=Option.some.inj H;have p232:0≤(x9_1:Int):=of_decide_eq_true (by first|(with_reducible assumption)|assumption);have q232:x9_1 < (l0.length:Int):=of_decide_eq_true (by first|(with_reducible assumption)|assumption);obtain ⟨ad232,e232,hx232_0⟩:=Kd.at_int HR0.out x9_1 p232 q232;cases e232
       replace p232:=eq_true p232;replace q232:=eq_true q232;go_wp2_with (first|((with_reducible refine gate_callee (f:=46) rfl ?_);refine goesL_ (some 16) rfl rfl Try.func46 (by kernel_rfl) rfl #[.int .i64 (rd l0 x9_1),.int .i64 a1] rfl (by (try simp only [mT,mC,mN]);first|done|rfl|(simp only [lD,lT];rfl)) ?_;(with_reducible refine (impl_isPlace.calls (rd l0 x9_1) a1 false _ A6.out).mono ?_);rintro e w' ⟨rfl,⟨nd,rfl⟩⟩;refine ⟨_,rfl,?_⟩))
       go_ret
       exact ⟨by first|rfl|(simp;done)|(simp [*];done),by repeat (first|exact Drawn0.refl _|apply Drawn0.step)⟩
     ·rw [if_neg c5] at H;exact absurd H (by simp)
    ·rw [if_neg c4] at H;exact absurd H (by simp)
   ·rw [if_neg c3] at H;have c3b0:decide (x9_1 < (l0.length:Int))=false:=decide_eq_false c3;clear c3;obtain rfl:=Option.some.inj H;go_wp2
    go_ret
    exact ⟨by first|rfl|(simp;done)|(simp [*];done),by repeat (first|exact Drawn0.refl _|apply Drawn0.step)⟩

/-! ### impl_isDepend: function 45 -/
def impl_isDepend.f (k:Nat) (l0_0:List Int) (l0_1:List Int) (a1:Int):Option (Bool):=(impl_areRising.f k l0_0 a1).bind fun t236=>(if t236=true then ((impl_areRising.f k l0_1 a1).bind fun t237=>(some t237)) else (some false))
theorem impl_isDepend.mono : ∀ a0 a1 a2 k,LeO (impl_isDepend.f k a0 a1 a2) (impl_isDepend.f (k + 1) a0 a1 a2):=by
 intro a0 a1 a2 k;unfold impl_isDepend.f
 repeat' first
   | (with_reducible exact impl_areRising.mono _ _ _)
   | (with_reducible exact LeO.refl _)
   | (with_reducible exact LeO.none _)
   | (with_reducible refine LeO.ite ?_ ?_)
   | (with_reducible refine LeO.bind ?_ (fun _=>?_))
   | exact impl_areRising.mono _ _ _
   | exact LeO.none _
   | refine LeO.ite ?_ ?_
   | refine LeO.bind ?_ (fun _=>?_)
set_option maxHeartbeats 8000000 in
set_option maxRecDepth 100000 in
theorem impl_isDepend.calls (k:Nat) (A0_0:Option Addr) (c0_0:Nat) (l0_0:List Int) (A0_1:Option Addr) (c0_1:Nat) (l0_1:List Int) (a1:Int) (r:Bool) (w:World) (hr0_0:Kd.C (Kd.int .i64) w A0_0 l0_0.length l0_0) (hc0_0:l0_0.length≤c0_0) (hr0_1:Kd.C (Kd.int .i64) w A0_1 l0_1.length l0_1) (hc0_1:l0_1.length≤c0_1) (h:impl_isDepend.f k l0_0 l0_1 a1=some r) :
  Calls Try.prog 45 #[.agg #[.slice A0_0 l0_0.length c0_0,.slice A0_1 l0_1.length c0_1],.int .i64 a1] w fun e w'=>e=.returned (.bool r)∧Below w.heap.size w w':=by
 have hu45:=Try.underlying45;have HR0_0:=qK hr0_0;have HC0_0:=qK hc0_0;clear hr0_0 hc0_0;have HR0_1:=qK hr0_1;have HC0_1:=qK hc0_1;clear hr0_1 hc0_1;have HB:=qK (Below.refl w.heap.size w);have H:((impl_areRising.f k l0_0 a1).bind fun t236=>(if t236=true then ((impl_areRising.f k l0_1 a1).bind fun t237=>(some t237)) else (some false)))=some r:=h;clear h;replace H:=Option.bind_eq_some_iff.mp H;obtain ⟨t236,A30,H⟩:=H;replace H:(if t236=true then ((impl_areRising.f k l0_1 a1).bind fun t237=>(some t237)) else (some false))=some r:=H;have A3:=qK A30;clear A30;by_cases c4:t236=true
 ·subst c4;have H1:((impl_areRising.f k l0_1 a1).bind fun t237=>(some t237))=some r:=by rw [if_pos rfl] at H;exact H
  clear H;have H:=H1;clear H1;replace H:=Option.bind_eq_some_iff.mp H;obtain ⟨t237,A50,H⟩:=H;replace H:(some t237)=some r:=H;have A5:=qK A50;clear A50;obtain rfl:=Option.some.inj H;go_enter Try.func45,Try.ntmps45
  go_wp2_with (first|((with_reducible refine gate_dst (N:=2) rfl ?_);refine box_event ?hg (N:=2) ?hd (cs:=#[.slice A0_0 l0_0.length c0_0,.slice A0_1 l0_1.length c0_1]) (t:=45) ?hr ?_;(case hd=>rfl);(case hg=>rfl);(case hr=>(go_simp;try rfl));intro gb235 hg w6 hbox hb;have n0_:=qK (qT (by repeat (with_reducible first|exact HB.out|apply qA|apply qD|apply qO)) hb);have n1_:=qK (hbox);have n2_:=qK ((by rw [hg];exact (qZ (by repeat (with_reducible first|exact HB.out|apply qA|apply qD|apply qO))):w.heap.size≤gb235));have n3_:=qK ((by rw [hg];exact (qZ (by repeat (with_reducible first|exact HB.out|apply qA|apply qD|apply qO))):w.heap.size≤gb235));clear HB;have HB:=n0_;have BK235:=n1_;have GW235:=n2_;have GE235:=n3_;clear n0_ n1_ n2_ n3_;clear hb hbox hg;have hcz7_0:w6.cell? ⟨gb235,0,none⟩=some (.slice A0_0 l0_0.length c0_0):=(qC BK235.out 0).trans rfl;have hcz7_1:w6.cell? ⟨gb235,1,none⟩=some (.slice A0_1 l0_1.length c0_1):=(qC BK235.out 1).trans rfl;have hfz7_0:=qF BK235.out 0;have hfz7_1:=qF BK235.out 1)|((with_reducible refine gate_callee (f:=23) rfl ?_);refine goesL_ (some 8) rfl rfl Try.func23 (by kernel_rfl) rfl #[.slice A0_0 l0_0.length c0_0,.int .i64 a1] rfl (by (try simp only [mT,mC,mN]);first|done|rfl|(simp only [lD,lT];rfl)) ?_;(with_reducible refine (impl_areRising.calls k _ _ l0_0 a1 true _ ?side1 ?side2 A3.out).mono ?_);(case side1=>repeat (first|exact (cB HR0_0.out HB.out)|(with_reducible first|refine cL ?_ _|refine cN ?_ _|refine cW ?_)));(case side2=>exact HC0_0.out);rintro e w' ⟨rfl,⟨nd,rfl⟩⟩;refine ⟨_,rfl,?_⟩)|(go_at_call 23;(with_reducible refine (impl_areRising.calls k _ _ l0_1 a1 t237 _ ?side1 ?side2 A5.out).mono ?_);(case side1=>repeat (first|exact (cB HR0_1.out (by repeat (with_reducible first|exact HB.out|apply qA|apply qD|apply qO|refine qS ?_ GE235.out)))|(with_reducible first|refine cL ?_ _|refine cN ?_ _|refine cW ?_)));(case side2=>exact HC0_1.out);rintro e w' ⟨rfl,⟨nd,rfl⟩⟩))
  go_ret
  exact ⟨by first|rfl|(simp [errW_none,errW_some] <;> rfl)|(simp [*,errW_none,errW_some] <;> rfl),by repeat (first|(with_reducible first|exact HB.out|apply qA|apply qD|apply qO|refine qS ?_ GE235.out)|exact HB.out)⟩
 ·replace c4:=Bool.eq_false_iff.mpr c4;subst c4;have H1:(some false)=some r:=by rw [if_neg (show ¬ (false=true) by decide)] at H;exact H
  clear H;have H:=H1;clear H1;obtain rfl:=Option.some.inj H;go_enter Try.func45,Try.ntmps45
  go_wp2_with (first|((with_reducible refine gate_dst (N:=2) rfl ?_);refine box_event ?hg (N:=2) ?hd (cs:=#[.slice A0_0 l0_0.length c0_0,.slice A0_1 l0_1.length c0_1]) (t:=45) ?hr ?_;(case hd=>rfl);(case hg=>rfl);(case hr=>(go_simp;try rfl));intro gb235 hg w8 hbox hb;have n0_:=qK (qT (by repeat (with_reducible first|exact HB.out|apply qA|apply qD|apply qO)) hb);have n1_:=qK (hbox);have n2_:=qK ((by rw [hg];exact (qZ (by repeat (with_reducible first|exact HB.out|apply qA|apply qD|apply qO))):w.heap.size≤gb235));have n3_:=qK ((by rw [hg];exact (qZ (by repeat (with_reducible first|exact HB.out|apply qA|apply qD|apply qO))):w.heap.size≤gb235));clear HB;have HB:=n0_;have BK235:=n1_;have GW235:=n2_;have GE235:=n3_;clear n0_ n1_ n2_ n3_;clear hb hbox hg;have hcz9_0:w8.cell? ⟨gb235,0,none⟩=some (.slice A0_0 l0_0.length c0_0):=(qC BK235.out 0).trans rfl;have hcz9_1:w8.cell? ⟨gb235,1,none⟩=some (.slice A0_1 l0_1.length c0_1):=(qC BK235.out 1).trans rfl;have hfz9_0:=qF BK235.out 0;have hfz9_1:=qF BK235.out 1)|((with_reducible refine gate_callee (f:=23) rfl ?_);refine goesL_ (some 8) rfl rfl Try.func23 (by kernel_rfl) rfl #[.slice A0_0 l0_0.length c0_0,.int .i64 a1] rfl (by (try simp only [mT,mC,mN]);first|done|rfl|(simp only [lD,lT];rfl)) ?_;(with_reducible refine (impl_areRising.calls k _ _ l0_0 a1 false _ ?side1 ?side2 A3.out).mono ?_);(case side1=>repeat (first|exact (cB HR0_0.out HB.out)|(with_reducible first|refine cL ?_ _|refine cN ?_ _|refine cW ?_)));(case side2=>exact HC0_0.out);rintro e w' ⟨rfl,⟨nd,rfl⟩⟩;refine ⟨_,rfl,?_⟩))
  go_ret
  exact ⟨by first|rfl|(simp [errW_none,errW_some] <;> rfl)|(simp [*,errW_none,errW_some] <;> rfl),by repeat (first|(with_reducible first|exact HB.out|apply qA|apply qD|apply qO|refine qS ?_ GE235.out)|exact HB.out)⟩

/-! ### goodDepends1: function 44 -/
def depB (k : Nat) (cols : Int) (d : S45) : Bool := (impl_isDepend.f k d.f0 d.f1 cols).getD false
theorem goodDepends1.pred (k : Nat) (Bc : Nat) (cols : Int) (l : List S45) (w : World) (hc : w.heap[Bc]? = some (.cells #[.int .i64 cols] 3 (0, 0))) (hl : ∀ d, d ∈ l → (impl_isDepend.f k d.f0 d.f1 cols).isSome = true) :
    PredOn Try.prog 44 #[.pointer (some ⟨Bc, 0, none⟩)] (Agg k45) (depB k cols) l w := by
  intro W d v hd hW hv
  obtain ⟨cs, rfl, hK⟩ := hv
  have hs := hl d hd
  obtain ⟨r, hr⟩ := Option.isSome_iff_exists.1 hs
  have hp : depB k cols d = r := by unfold depB; rw [hr]; rfl
  rw [hp]
  obtain ⟨d0, d1⟩ := d
  obtain ⟨A0, c0, A1, c1, e, l0, g0, l1, g1⟩ := k45_open hK
  obtain rfl : cs = [.slice A0 d0.length c0, .slice A1 d1.length c1] := e
  have hb := below_alloc (Below.refl W.heap.size W) (.cells #[.slice A0 d0.length c0, .slice A1 d1.length c1] 45)
  have k1 : (W.alloc (.cells #[.slice A0 d0.length c0, .slice A1 d1.length c1] 45)).cell? ⟨Bc, 0, none⟩ = some (.int .i64 cols) := (blk_cell (blk_below (blk_below hc hW) hb) 0).trans rfl
  have HG0 := Aside0.mk (Kd.C_below g0 hb)
  have HG1 := Aside0.mk (Kd.C_below g1 hb)
  have HL0 := Aside0.mk l0
  have HL1 := Aside0.mk l1
  have HB := Aside0.mk hb
  have HR := Aside0.mk hr
  have hu := Try.underlying45
  clear hK hd hW hc hb hl hs hp g0 g1 l0 l1 hr
  show Calls Try.prog 44 #[.agg #[.slice A0 d0.length c0, .slice A1 d1.length c1], .pointer (some ⟨Bc, 0, none⟩)] W fun e W' => e = .returned (.bool r) ∧ Below W.heap.size W W'
  go_enter Try.func44, Try.ntmps44
  go_wp2_with (go_at_call 45; refine (impl_isDepend.calls k A0 c0 d0 A1 c1 d1 cols r _ HG0.out HL0.out HG1.out HL1.out HR.out).mono ?_; rintro e w' ⟨rfl, hb'⟩)
  go_ret
  exact ⟨rfl, below_step HB.out hb'⟩

/-! ### areAll_GoodDepends1: function 43, handed function 44 -/
def areAll_GoodDepends1.f (k : Nat) (l : List S45) (cols : Int) : Option Bool := if l.all (fun d => (impl_isDepend.f k d.f0 d.f1 cols).isSome) = true then some (l.all (depB k cols)) else none
theorem areAll_GoodDepends1.mono : ∀ a0 a1 k, LeO (areAll_GoodDepends1.f k a0 a1) (areAll_GoodDepends1.f (k + 1) a0 a1) := by
  intro l cols k r h
  unfold areAll_GoodDepends1.f at h ⊢
  by_cases hs : l.all (fun d => (impl_isDepend.f k d.f0 d.f1 cols).isSome) = true
  case neg => rw [if_neg hs] at h; cases h
  rw [if_pos hs] at h
  have hx : ∀ d ∈ l, impl_isDepend.f (k + 1) d.f0 d.f1 cols = impl_isDepend.f k d.f0 d.f1 cols := by
    intro d hd
    obtain ⟨r, hr⟩ := Option.isSome_iff_exists.1 (List.all_eq_true.1 hs d hd)
    rw [hr]; exact impl_isDepend.mono _ _ _ k r hr
  rw [if_pos (List.all_eq_true.2 fun d hd => by rw [hx d hd]; exact List.all_eq_true.1 hs d hd), ← h]
  congr 1
  rw [Bool.eq_iff_iff, List.all_eq_true, List.all_eq_true]
  exact forall_congr' fun d => forall_congr' fun hd => by unfold depB; rw [hx d hd]
theorem areAll_GoodDepends1.calls (k : Nat) (A : Option Addr) (c : Nat) (l : List S45) (Bc : Nat) (cols : Int) (r : Bool) (w : World) (hr : Kd.C k45 w A l.length l) (hc : l.length ≤ c) (hb : w.heap[Bc]? = some (.cells #[.int .i64 cols] 3 (0, 0))) (h : areAll_GoodDepends1.f k l cols = some r) :
    Calls Try.prog 43 #[.slice A l.length c, .func (.func 44) #[] #[.pointer (some ⟨Bc, 0, none⟩)]] w fun e w' => e = .returned (.bool r) ∧ Below w.heap.size w w' := by
  unfold areAll_GoodDepends1.f at h
  by_cases hs : l.all (fun d => (impl_isDepend.f k d.f0 d.f1 cols).isSome) = true
  case neg => rw [if_neg hs] at h; cases h
  rw [if_pos hs] at h
  obtain rfl : l.all (depB k cols) = r := Option.some.inj h
  exact areAll_Depend.calls A c l _ _ _ w (enters_of Try.func44 (by kernel_rfl) rfl) hr (goodDepends1.pred k Bc cols l w hb (List.all_eq_true.1 hs))

/-! ### impl_GoodDepends: function 22 -/
def impl_GoodDepends.f (k:Nat) (l0:List (S45)) (a1:Int):Option (Bool):=(impl_within.f a1 1 6).bind fun t239=>(if t239=true then (if (l0.length:Int)≤10 then ((areAll_GoodDepends1.f k l0 a1).bind fun t240=>(some t240)) else (some false)) else (some false))
theorem impl_GoodDepends.mono : ∀ a0 a1 k,LeO (impl_GoodDepends.f k a0 a1) (impl_GoodDepends.f (k + 1) a0 a1):=by
 intro a0 a1 k;unfold impl_GoodDepends.f
 repeat' first
   | (with_reducible exact areAll_GoodDepends1.mono _ _ _)
   | (with_reducible exact LeO.refl _)
   | (with_reducible exact LeO.none _)
   | (with_reducible refine LeO.ite ?_ ?_)
   | (with_reducible refine LeO.bind ?_ (fun _=>?_))
   | exact areAll_GoodDepends1.mono _ _ _
   | exact LeO.none _
   | refine LeO.ite ?_ ?_
   | refine LeO.bind ?_ (fun _=>?_)
set_option maxHeartbeats 8000000 in
set_option maxRecDepth 100000 in
theorem impl_GoodDepends.calls (k:Nat) (A0:Option Addr) (c0:Nat) (l0:List (S45)) (a1:Int) (r:Bool) (w:World) (hr0:Kd.C k45 w A0 l0.length l0) (hc0:l0.length≤c0) (h:impl_GoodDepends.f k l0 a1=some r) :
  Calls Try.prog 22 #[.slice A0 l0.length c0,.int .i64 a1] w fun e w'=>e=.returned (.bool r)∧Below w.heap.size w w':=by
 have HR0:=qK hr0;have HC0:=qK hc0;clear hr0 hc0;have HB:=qK (Below.refl w.heap.size w);have H:((impl_within.f a1 1 6).bind fun t239=>(if t239=true then (if (l0.length:Int)≤10 then ((areAll_GoodDepends1.f k l0 a1).bind fun t240=>(some t240)) else (some false)) else (some false)))=some r:=h;clear h;replace H:=Option.bind_eq_some_iff.mp H;obtain ⟨t239,A30,H⟩:=H;replace H:(if t239=true then (if (l0.length:Int)≤10 then ((areAll_GoodDepends1.f k l0 a1).bind fun t240=>(some t240)) else (some false)) else (some false))=some r:=H;have A3:=qK A30;clear A30;by_cases c4:t239=true
 ·subst c4;have H1:(if (l0.length:Int)≤10 then ((areAll_GoodDepends1.f k l0 a1).bind fun t240=>(some t240)) else (some false))=some r:=by rw [if_pos rfl] at H;exact H
  clear H;have H:=H1;clear H1;by_cases c5:(l0.length:Int)≤10
  ·rw [if_pos c5] at H;have c5b0:decide ((l0.length:Int)≤10)=true:=decide_eq_true c5;have c5b1:decide (l0.length≤10)=true:=decide_eq_true (by omega);clear c5;replace H:=Option.bind_eq_some_iff.mp H;obtain ⟨t240,A60,H⟩:=H;replace H:(some t240)=some r:=H;have A6:=qK A60;clear A60;obtain rfl:=Option.some.inj H;go_enter Try.func22,Try.ntmps22
   go_wp2_with (first|((with_reducible refine gate_dst (N:=3) rfl ?_);(try (refine gate_guard (by rfl) ?_;dsimp only));refine box_event ?hg (N:=3) ?hd (cs:=#[.int .i64 a1]) (t:=3) ?hr ?_;(case hd=>rfl);(case hg=>rfl);(case hr=>(go_simp;try rfl));intro gb238 hg w7 hbox hb;have n0_:=qK (qT (by repeat (with_reducible first|exact HB.out|apply qA|apply qD|apply qO)) hb);have n1_:=qK (hbox);have n2_:=qK ((by rw [hg];exact (qZ (by repeat (with_reducible first|exact HB.out|apply qA|apply qD|apply qO))):w.heap.size≤gb238));have n3_:=qK ((by rw [hg];exact (qZ (by repeat (with_reducible first|exact HB.out|apply qA|apply qD|apply qO))):w.heap.size≤gb238));clear HB;have HB:=n0_;have BK238:=n1_;have GW238:=n2_;have GE238:=n3_;clear n0_ n1_ n2_ n3_;clear hb hbox hg;have hcz8_0:w7.cell? ⟨gb238,0,none⟩=some (.int .i64 a1):=(qC BK238.out 0).trans rfl;have hfz8_0:=qF BK238.out 0)|((with_reducible refine gate_callee (f:=42) rfl ?_);refine goesL_ (some 6) rfl rfl Try.func42 (by kernel_rfl) rfl #[.int .i64 a1,.int .i64 1,.int .i64 6] rfl (by (try simp only [mT,mC,mN]);first|done|rfl|(simp only [lD,lT];rfl)) ?_;(with_reducible refine (impl_within.calls a1 1 6 true _ A3.out).mono ?_);rintro e w' ⟨rfl,⟨nd,rfl⟩⟩;refine ⟨_,rfl,?_⟩)|(go_at_call 43;(with_reducible refine (areAll_GoodDepends1.calls k _ _ l0 gb238 a1 t240 _ ?side1 ?side2 ?side3 A6.out).mono ?_);(case side1=>repeat (first|exact (cB HR0.out (by repeat (with_reducible first|exact HB.out|apply qA|apply qD|apply qO|refine qS ?_ GE238.out)))|(with_reducible first|refine cL ?_ _|refine cN ?_ _|refine cW ?_)));(case side2=>exact HC0.out);(case side3=>exact (by (with_reducible repeat (first|refine qN ?_ _|refine qW ?_|refine qL ?_ _));exact BK238.out));rintro e w9 ⟨rfl,hb⟩;have n0_:=qK (qB (g:=gb238) (o:=_) (by (with_reducible repeat (first|refine qN ?_ _|refine qW ?_|refine qL ?_ _));exact BK238.out) hb);have n1_:=qK (qT (by repeat (with_reducible first|exact HB.out|apply qA|apply qD|apply qO|refine qS ?_ GE238.out)) hb);clear BK238;clear HB;have BK238:=n0_;have HB:=n1_;clear n0_ n1_;(try clear hb)))
   go_ret
   exact ⟨by first|rfl|(simp [errW_none,errW_some] <;> rfl)|(simp [*,errW_none,errW_some] <;> rfl),by repeat (first|(with_reducible first|exact HB.out|apply qA|apply qD|apply qO|refine qS ?_ GE238.out)|exact HB.out)⟩
  ·rw [if_neg c5] at H;have c5b0:decide ((l0.length:Int)≤10)=false:=decide_eq_false c5;have c5b1:decide (l0.length≤10)=false:=decide_eq_false (by omega);clear c5;obtain rfl:=Option.some.inj H;go_enter Try.func22,Try.ntmps22
   go_wp2_with (first|((with_reducible refine gate_dst (N:=3) rfl ?_);(try (refine gate_guard (by rfl) ?_;dsimp only));refine box_event ?hg (N:=3) ?hd (cs:=#[.int .i64 a1]) (t:=3) ?hr ?_;(case hd=>rfl);(case hg=>rfl);(case hr=>(go_simp;try rfl));intro gb238 hg w10 hbox hb;have n0_:=qK (qT (by repeat (with_reducible first|exact HB.out|apply qA|apply qD|apply qO)) hb);have n1_:=qK (hbox);have n2_:=qK ((by rw [hg];exact (qZ (by repeat (with_reducible first|exact HB.out|apply qA|apply qD|apply qO))):w.heap.size≤gb238));have n3_:=qK ((by rw [hg];exact (qZ (by repeat (with_reducible first|exact HB.out|apply qA|apply qD|apply qO))):w.heap.size≤gb238));clear HB;have HB:=n0_;have BK238:=n1_;have GW238:=n2_;have GE238:=n3_;clear n0_ n1_ n2_ n3_;clear hb hbox hg;have hcz11_0:w10.cell? ⟨gb238,0,none⟩=some (.int .i64 a1):=(qC BK238.out 0).trans rfl;have hfz11_0:=qF BK238.out 0)|((with_reducible refine gate_callee (f:=42) rfl ?_);refine goesL_ (some 6) rfl rfl Try.func42 (by kernel_rfl) rfl #[.int .i64 a1,.int .i64 1,.int .i64 6] rfl (by (try simp only [mT,mC,mN]);first|done|rfl|(simp only [lD,lT];rfl)) ?_;(with_reducible refine (impl_within.calls a1 1 6 true _ A3.out).mono ?_);rintro e w' ⟨rfl,⟨nd,rfl⟩⟩;refine ⟨_,rfl,?_⟩))
   go_ret
   exact ⟨by first|rfl|(simp [errW_none,errW_some] <;> rfl)|(simp [*,errW_none,errW_some] <;> rfl),by repeat (first|(with_reducible first|exact HB.out|apply qA|apply qD|apply qO|refine qS ?_ GE238.out)|exact HB.out)⟩
 ·replace c4:=Bool.eq_false_iff.mpr c4;subst c4;have H1:(some false)=some r:=by rw [if_neg (show ¬ (false=true) by decide)] at H;exact H
  clear H;have H:=H1;clear H1;obtain rfl:=Option.some.inj H;go_enter Try.func22,Try.ntmps22
  go_wp2_with (first|((with_reducible refine gate_dst (N:=3) rfl ?_);(try (refine gate_guard (by rfl) ?_;dsimp only));refine box_event ?hg (N:=3) ?hd (cs:=#[.int .i64 a1]) (t:=3) ?hr ?_;(case hd=>rfl);(case hg=>rfl);(case hr=>(go_simp;try rfl));intro gb238 hg w12 hbox hb;have n0_:=qK (qT (by repeat (with_reducible first|exact HB.out|apply qA|apply qD|apply qO)) hb);have n1_:=qK (hbox);have n2_:=qK ((by rw [hg];exact (qZ (by repeat (with_reducible first|exact HB.out|apply qA|apply qD|apply qO))):w.heap.size≤gb238));have n3_:=qK ((by rw [hg];exact (qZ (by repeat (with_reducible first|exact HB.out|apply qA|apply qD|apply qO))):w.heap.size≤gb238));clear HB;have HB:=n0_;have BK238:=n1_;have GW238:=n2_;have GE238:=n3_;clear n0_ n1_ n2_ n3_;clear hb hbox hg;have hcz13_0:w12.cell? ⟨gb238,0,none⟩=some (.int .i64 a1):=(qC BK238.out 0).trans rfl;have hfz13_0:=qF BK238.out 0)|((with_reducible refine gate_callee (f:=42) rfl ?_);refine goesL_ (some 6) rfl rfl Try.func42 (by kernel_rfl) rfl #[.int .i64 a1,.int .i64 1,.int .i64 6] rfl (by (try simp only [mT,mC,mN]);first|done|rfl|(simp only [lD,lT];rfl)) ?_;(with_reducible refine (impl_within.calls a1 1 6 false _ A3.out).mono ?_);rintro e w' ⟨rfl,⟨nd,rfl⟩⟩;refine ⟨_,rfl,?_⟩))
  go_ret
  exact ⟨by first|rfl|(simp [errW_none,errW_some] <;> rfl)|(simp [*,errW_none,errW_some] <;> rfl),by repeat (first|(with_reducible first|exact HB.out|apply qA|apply qD|apply qO|refine qS ?_ GE238.out)|exact HB.out)⟩

/-! ### impl_set_has: function 34 -/
def impl_set_has.f (a0:Int) (a1:Int):Option (Bool):=some ((Go.bits .and .i64 a0 a1) == a1)
set_option maxHeartbeats 8000000 in
set_option maxRecDepth 100000 in
theorem impl_set_has.calls (a0:Int) (a1:Int) (r:Bool) (w:World) (h:impl_set_has.f a0 a1=some r) :
  Calls Try.prog 34 #[.int .i64 a0,.int .i64 a1] w fun e w'=>e=.returned (.bool r)∧Drawn0 w w':=by
 have H:(some ((Go.bits .and .i64 a0 a1) == a1))=some r:=h;clear h;obtain rfl:=Option.some.inj H;go_enter Try.func34,Try.ntmps34
 go_wp2
 go_ret
 exact ⟨by first|rfl|(simp;done)|(simp [*];done),by repeat (first|exact Drawn0.refl _|apply Drawn0.step)⟩

/-! ### areAll1_Set: function 60 -/
set_option maxHeartbeats 4000000 in
set_option maxRecDepth 100000 in
theorem areAll1_Set.pred (B : Nat) (l : List (Int)) (g : Nat) (lb : Array Value) (p : Int → Bool) (w : World) (eg : ∀ args w, (callFunc g args).run Try.prog w = .ok (.enter g args) w)
    (hB : w.cell? ⟨B, 0, none⟩ = some (.func (.func g) #[] lb)) (hp : PredOn Try.prog g lb (One (Kd.int .i64)) p l w) :
    PredOn Try.prog 60 #[.pointer (some ⟨B, 0, none⟩)] (One (Kd.int .i64)) (fun x => !p x) l w := by
  intro W x v hx hW hv
  obtain ⟨c0_, rfl⟩ : ∃ c0_, c0_ = v := ⟨_, rfl⟩
  have hB' : W.cell? ⟨B, 0, none⟩ = some (.func (.func g) #[] lb) := pw_cell_below hW hB
  have HP := Aside0.mk hp
  clear hp hB
  obtain ⟨b, hb⟩ : ∃ b, b = p x := ⟨_, rfl⟩
  have hb0 := Aside0.mk hb
  have HV := Aside0.mk hv
  have HWW := Aside0.mk hW
  clear hv hW
  show Calls Try.prog 60 #[c0_, .pointer (some ⟨B, 0, none⟩)] W fun e W' => e = .returned (.bool (!p x)) ∧ Below W.heap.size W W'
  rw [← hb]
  clear hb
  cases b with
  | true =>
    go_enter Try.func60, Try.ntmps60
    go_wp2_with (go_at_fn g; refine (HP.out _ x _ hx HWW.out HV.out).mono ?_; rw [← hb0.out]; rintro e w' ⟨rfl, hb'⟩)
    go_ret
    exact ⟨rfl, hb'⟩
  | false =>
    go_enter Try.func60, Try.ntmps60
    go_wp2_with (go_at_fn g; refine (HP.out _ x _ hx HWW.out HV.out).mono ?_; rw [← hb0.out]; rintro e w' ⟨rfl, hb'⟩)
    go_ret
    exact ⟨rfl, hb'⟩

/-! ### areAll_Set: function 47 -/
set_option maxHeartbeats 4000000 in
set_option maxRecDepth 100000 in
theorem areAll_Set.calls (A : Option Addr) (c : Nat) (l : List (Int)) (g : Nat) (lb : Array Value) (p : Int → Bool) (w : World) (eg : ∀ args w, (callFunc g args).run Try.prog w = .ok (.enter g args) w)
    (hr : Kd.C (Kd.int .i64) w A l.length l) (hp : PredOn Try.prog g lb (One (Kd.int .i64)) p l w) :
    Calls Try.prog 47 #[.slice A l.length c, .func (.func g) #[] lb] w fun e w' => e = .returned (.bool (l.all p)) ∧ Below w.heap.size w w' := by
  have hb1 : Below w.heap.size w (w.alloc (.cells #[.func (.func g) #[] lb] 61)) := below_alloc (Below.refl _ _) _
  have hp1 := areAll1_Set.pred w.heap.size l g lb p (w.alloc (.cells #[.func (.func g) #[] lb] 61)) eg (by simp) (hp.grown hb1)
  have HR := Aside0.mk (Kd.C_below hr hb1)
  have HP := Aside0.mk hp1
  have HB1 := Aside0.mk hb1
  clear hr hp hp1 hb1
  obtain ⟨b, hb⟩ : ∃ b, b = l.any (fun x => !p x) := ⟨_, rfl⟩
  have hall : l.all p = !b := by rw [hb, List.all_eq_not_any_not]
  rw [hall]
  have hb0 := Aside0.mk hb
  clear hb hall
  have e1 := enters_of Try.func60 (by kernel_rfl) rfl
  cases b with
  | true =>
    go_enter Try.func47, Try.ntmps47
    go_wp2_with (go_at_call 33; refine (anyf_Set.calls A c l _ _ _ _ e1 HR.out HP.out).mono ?_; rw [← hb0.out]; rintro e w' ⟨rfl, hb'⟩)
    go_ret
    exact ⟨rfl, below_step HB1.out hb'⟩
  | false =>
    go_enter Try.func47, Try.ntmps47
    go_wp2_with (go_at_call 33; refine (anyf_Set.calls A c l _ _ _ _ e1 HR.out HP.out).mono ?_; rw [← hb0.out]; rintro e w' ⟨rfl, hb'⟩)
    go_ret
    exact ⟨rfl, below_step HB1.out hb'⟩

-- NOT PRINTED: function 69 (impl_set_69)

-- NOT PRINTED: function 80 (impl_set_80)

-- NOT PRINTED: function 70 (impl_set_70)

/-! ### bits_Len32: function 77 -/


/-! ### bits_Len64: function 78 -/


/-! ### bits_Len: function 64 -/


-- NOT PRINTED: function 81 (slices_nextPowerOfTwo)

-- NOT PRINTED: function 82 (slices_xorshift_Next)

-- NOT PRINTED: function 71 (impl_set_71)

-- NOT PRINTED: function 85 (impl_set_85)

-- NOT PRINTED: function 84 (impl_set_84)

-- NOT PRINTED: function 83 (impl_set_83)

-- NOT PRINTED: function 72 (impl_set_72)

-- NOT PRINTED: function 73 (impl_set_73)

-- NOT PRINTED: function 74 (impl_set_74)

-- NOT PRINTED: function 75 (impl_set_75)

-- NOT PRINTED: function 76 (impl_set_76)

-- NOT PRINTED: function 63 (impl_set_63)

-- NOT PRINTED: function 54 (impl_set_54)

/-! ### impl_set_list: function 35 -/
def impl_set_list.l0 : Nat→Int→List Int→Int→Option (List Int)
 | 0,_,_,_=>none
 | k + 1,x0,x3,x4=>if 0≤x4 then (if (shr .i64 x0 x4)=0 then (some x3) else (if (Go.bits .and .i64 (shr .i64 x0 x4) 1)=1 then (if x3.length < 17592186044416 then (impl_set_list.l0 k x0 (x3 ++ [x4]) (wrap64 (x4 + 1))) else (none)) else (impl_set_list.l0 k x0 x3 (wrap64 (x4 + 1))))) else (none)
def impl_set_list.f (k:Nat) (a0:Int):Option (List Int):=impl_set_list.l0 k a0 ([]:List Int) 0
theorem impl_set_list.mono_l : ∀ k,(∀ y0 y1 y2,LeO (impl_set_list.l0 k y0 y1 y2) (impl_set_list.l0 (k + 1) y0 y1 y2))
 | 0=>fun _ _ _ r h=>by simp [impl_set_list.l0] at h
 | k + 1=>by
  have ih0:=impl_set_list.mono_l k
  ·intro y0 y1 y2;unfold impl_set_list.l0
   repeat' first
   | (with_reducible exact ih0 _ _ _)
   | (with_reducible exact LeO.refl _)
   | (with_reducible exact LeO.none _)
   | (with_reducible refine LeO.ite ?_ ?_)
   | (with_reducible refine LeO.bind ?_ (fun _=>?_))
   | exact ih0 _ _ _
   | exact LeO.none _
   | refine LeO.ite ?_ ?_
   | refine LeO.bind ?_ (fun _=>?_)
theorem impl_set_list.mono : ∀ a0 k,LeO (impl_set_list.f k a0) (impl_set_list.f (k + 1) a0):=by
 intro a0 k;have ih0:=impl_set_list.mono_l k;unfold impl_set_list.f
 repeat' first
   | (with_reducible exact ih0 _ _ _)
   | (with_reducible exact LeO.refl _)
   | (with_reducible exact LeO.none _)
   | (with_reducible refine LeO.ite ?_ ?_)
   | (with_reducible refine LeO.bind ?_ (fun _=>?_))
   | exact ih0 _ _ _
   | exact LeO.none _
   | refine LeO.ite ?_ ?_
   | refine LeO.bind ?_ (fun _=>?_)
set_option maxHeartbeats 8000000 in
set_option maxRecDepth 100000 in
theorem impl_set_list.calls (k:Nat) (a0:Int) (r:List Int) (w:World) (h:impl_set_list.f k a0=some r) :
  Calls Try.prog 35 #[.int .i64 a0] w fun e w'=>∃ v0_:Value,e=.returned (v0_)∧Kd.R (Kd.int .i64) 3 w' w.heap.size (fun _=>True) v0_ r∧Below w.heap.size w w':=by
 have HB:=qK (Below.refl w.heap.size w);have H:(impl_set_list.l0 k a0 ([]:List Int) 0)=some r:=h;clear h;have H':=qK H;clear H;go_enter Try.func35,Try.ntmps35
 go_wp2
 go_loopg [3,4] k (fun kq v3 v4 w'=>∃ (x3_1:List Int) (x4_1:Int),v4=.int .i64 x4_1∧Aside0 (impl_set_list.l0 kq a0 x3_1 x4_1=some r)∧Aside0 (kq≤k)∧Aside0 (Kd.R (Kd.int .i64) 3 w' w.heap.size (fun _=>True) v3 x3_1)∧Aside0 (Below w.heap.size w w'))
 case atStart=>exact ⟨(([]:List Int)),(0),(by first|rfl|(simp;done)|(simp [*];done)),H',⟨Nat.le_refl _⟩,⟨by first|exact Kd.R_nil _ _ _ _ _|exact Kd.N_nil _ _ _ _ _|exact Kd.V_nil _ _ _ _ _|exact Kd.Q_nil _ _ _ _ _|exact Kd.S_nil _ _ _ _ _⟩,⟨by repeat (first|(with_reducible first|exact HB.out|apply qA|apply qD|apply qO)|exact HB.out)⟩⟩
 case round =>
  clear H';obtain ⟨x3_1,x4_1,rfl,HA,HK1,HO_3,HB⟩:=hrel;cases gk with
  | zero=>exact absurd HA.out (by simp [impl_set_list.l0])
  | succ k1 =>
   have H:=HA.out;clear HA;simp only [impl_set_list.l0] at H;by_cases c2:0≤x4_1
   ·rw [if_pos c2] at H;have c2b0:=eq_true c2;have c2b1:decide (0≤x4_1)=true:=decide_eq_true c2;clear c2;obtain ⟨ji3,hji3⟩:∃ j_:Int,(shr .i64 a0 x4_1)=j_:=⟨_,rfl⟩;replace H:(if (ji3)=0 then (some x3_1) else (if (Go.bits .and .i64 (ji3) 1)=1 then (if x3_1.length < 17592186044416 then (impl_set_list.l0 k1 a0 (x3_1 ++ [x4_1]) (wrap64 (x4_1 + 1))) else (none)) else (impl_set_list.l0 k1 a0 x3_1 (wrap64 (x4_1 + 1)))))=some r:=by first|(rw [hji3] at H;exact H)|(simp only [hji3] at H ⊢;exact H)
    have hji3_:(a0 / 2 ^ min x4_1.toNat 64)=ji3:=hji3;have hji3z:x4_1≤64→(a0 / 2 ^ x4_1.toNat)=ji3:=shr_small hji3;by_cases c4:(ji3)=0
    ·rw [if_pos c4] at H;have c4b0:((ji3) == 0)=true:=beq_iff_eq.mpr c4;have c4b1:((ji3) != 0)=false:=bne_eq_false_iff_eq.mpr c4;clear c4;obtain rfl:=Option.some.inj H;go_wp2
     go_ret
     exact ⟨_,by first|rfl|(simp [errW_none,errW_some] <;> rfl)|(simp only [← hji3];first|rfl|(simp [errW_none,errW_some] <;> rfl))|(simp [*,errW_none,errW_some] <;> rfl),by (with_reducible repeat (first|apply rL|apply rN|apply rW));exact HO_3.out,by repeat (first|(with_reducible first|exact HB.out|apply qA|apply qD|apply qO)|exact HB.out)⟩
    ·rw [if_neg c4] at H;have c4b0:((ji3) == 0)=false:=beq_eq_false_iff_ne.mpr c4;have c4b1:((ji3) != 0)=true:=bne_iff_ne.mpr c4;have c5b0:=eq_true (of_decide_eq_true (by first|(with_reducible assumption)|assumption):0≤x4_1);by_cases c6:(Go.bits .and .i64 (ji3) 1)=1
     ·rw [if_pos c6] at H;have c6b0:((Go.bits .and .i64 (ji3) 1) == 1)=true:=beq_iff_eq.mpr c6;have c6b1:((Go.bits .and .i64 (ji3) 1) != 1)=false:=bne_eq_false_iff_eq.mpr c6;clear c6;by_cases c7:x3_1.length < 17592186044416
      ·rw [if_pos c7] at H;have LMc7:=qK c7;clear c7;obtain ⟨y241,hy241⟩:∃ y_:List Int,y_=(x3_1 ++ [x4_1]):=⟨_,rfl⟩;replace H:(impl_set_list.l0 k1 a0 y241 (wrap64 (x4_1 + 1)))=some r:=by first|(rw [hy241];with_reducible exact H)|(have H2_:=(Option.bind_some _ _).symm.trans H;rw [hy241];with_reducible exact H2_)|(have H2_:=(Option.bind_some _ _).symm.trans H;with_reducible exact H2_)|with_reducible exact H|(rw [hy241];exact H)|exact H
       have Ny241:=qK hy241;clear hy241;have H':=qK H;clear H;go_wp2_with (first|((with_reducible refine gate_builtin (b:=.append) (xs:=#[.tmp 16,.tmp 18]) rfl ?_);at_builtin;refine Kd.R_append (Kd.int .i64) (w0:=w) w.heap.size rfl (.tmp 16) (.tmp 18) 23 3 (.int .i64 0) 8 rfl Try.underlying23 info3 rfl (by decide) (by omega) u3 x3_1 x4_1 [.int .i64 x4_1] (fun _=>True) (fun _=>False) rfl rfl ?aP (fun _ hk=>hk.elim) ?aF ?aO ?aB ?aS ?aL ?_;(case aP=>exact rfl);(case aB=>exact (by repeat (with_reducible first|exact HB.out|apply qA|apply qD|apply qO)));(case aF=>exact (fun _ _=>trivial));(case aO=>exact (by (with_reducible repeat (first|apply rL|apply rN|apply rW));exact HO_3.out));(case aS=>exact (qZ (by repeat (with_reducible first|exact HB.out|apply qA|apply qD|apply qO))));(case aL=>have:=LMc7.out;omega);intro v242 w8 ho hb hg hat;rw [← Ny241.out] at ho;have n0_:=qK (hb);have n1_:=qK (ho);clear HB;clear HO_3;have HB:=n0_;have HO243:=n1_;clear n0_ n1_;clear ho hb hg hat))
       go_roundg k1
       case measure=>have:=HK1.out;omega
       case rel=>exact ⟨(y241),(wrap64 (x4_1 + 1)),(by first|rfl|(simp;done)|(simp [*];done)),H',⟨by have:=HK1.out;omega⟩,⟨by (with_reducible repeat (first|apply rL|apply rN|apply rW));exact HO243.out⟩,⟨by repeat (first|(with_reducible first|exact HB.out|apply qA|apply qD|apply qO)|exact HB.out)⟩⟩
      ·rw [if_neg c7] at H;exact absurd H (by simp)
     ·rw [if_neg c6] at H;have c6b0:((Go.bits .and .i64 (ji3) 1) == 1)=false:=beq_eq_false_iff_ne.mpr c6;have c6b1:((Go.bits .and .i64 (ji3) 1) != 1)=true:=bne_iff_ne.mpr c6;have H':=qK H;clear H;go_wp2
      go_roundg k1
      case measure=>have:=HK1.out;omega
      case rel=>exact ⟨(x3_1),(wrap64 (x4_1 + 1)),(by first|rfl|(simp;done)|(simp [*];done)),H',⟨by have:=HK1.out;omega⟩,⟨by (with_reducible repeat (first|apply rL|apply rN|apply rW));exact HO_3.out⟩,⟨by repeat (first|(with_reducible first|exact HB.out|apply qA|apply qD|apply qO)|exact HB.out)⟩⟩
   ·rw [if_neg c2] at H;exact absurd H (by simp)

/-! ### cmp_Or_int: function 65 -/
def cmp_Or_int.l0 : Nat→Int→List Int→Int→Int→Option (Int)
 | 0,_,_,_,_=>none
 | k + 1,x3,x6,x7,x8=>if x8 < x7 then (if 0≤x8 then (if x8 < (x6.length:Int) then (if (rd x6 x8)=x3 then (cmp_Or_int.l0 k x3 x6 x7 (wrap64 (x8 + 1))) else (some (rd x6 x8))) else (none)) else (none)) else (some x3)
def cmp_Or_int.f (k:Nat) (l0:List Int):Option (Int):=cmp_Or_int.l0 k 0 l0 (l0.length:Int) 0
theorem cmp_Or_int.mono_l : ∀ k,(∀ y0 y1 y2 y3,LeO (cmp_Or_int.l0 k y0 y1 y2 y3) (cmp_Or_int.l0 (k + 1) y0 y1 y2 y3))
 | 0=>fun _ _ _ _ r h=>by simp [cmp_Or_int.l0] at h
 | k + 1=>by
  have ih0:=cmp_Or_int.mono_l k
  ·intro y0 y1 y2 y3;unfold cmp_Or_int.l0
   repeat' first
   | (with_reducible exact ih0 _ _ _ _)
   | (with_reducible exact LeO.refl _)
   | (with_reducible exact LeO.none _)
   | (with_reducible refine LeO.ite ?_ ?_)
   | (with_reducible refine LeO.bind ?_ (fun _=>?_))
   | exact ih0 _ _ _ _
   | exact LeO.none _
   | refine LeO.ite ?_ ?_
   | refine LeO.bind ?_ (fun _=>?_)
theorem cmp_Or_int.mono : ∀ a0 k,LeO (cmp_Or_int.f k a0) (cmp_Or_int.f (k + 1) a0):=by
 intro a0 k;have ih0:=cmp_Or_int.mono_l k;unfold cmp_Or_int.f
 repeat' first
   | (with_reducible exact ih0 _ _ _ _)
   | (with_reducible exact LeO.refl _)
   | (with_reducible exact LeO.none _)
   | (with_reducible refine LeO.ite ?_ ?_)
   | (with_reducible refine LeO.bind ?_ (fun _=>?_))
   | exact ih0 _ _ _ _
   | exact LeO.none _
   | refine LeO.ite ?_ ?_
   | refine LeO.bind ?_ (fun _=>?_)
set_option maxHeartbeats 8000000 in
set_option maxRecDepth 100000 in
theorem cmp_Or_int.calls (k:Nat) (A0:Option Addr) (c0:Nat) (l0:List Int) (r:Int) (w:World) (hr0:Kd.C (Kd.int .i64) w A0 l0.length l0) (hc0:l0.length≤c0) (h:cmp_Or_int.f k l0=some r) :
  Calls Try.prog 65 #[.slice A0 l0.length c0] w fun e w'=>e=.returned (.int .i64 r)∧Drawn0 w w':=by
 have HR0:=qK hr0;have HC0:=qK hc0;clear hr0 hc0;have H:(cmp_Or_int.l0 k 0 l0 (l0.length:Int) 0)=some r:=h;clear h;have H':=qK H;clear H;go_enter Try.func65,Try.ntmps65
 go_wp2
 go_loopg [8] k (fun kq v8 w'=>∃ (x8_1:Int),v8=.int .i64 x8_1∧Aside0 (cmp_Or_int.l0 kq 0 l0 (l0.length:Int) x8_1=some r)∧Aside0 (kq≤k)∧Drawn0 w w')
 case atStart=>exact ⟨(0),(by first|rfl|(simp;done)|(simp [*];done)),H',⟨Nat.le_refl _⟩,by repeat (first|exact Drawn0.refl _|apply Drawn0.step)⟩
 case round =>
  clear H';obtain ⟨x8_1,rfl,HA,HK1,⟨m1,rfl⟩⟩:=hrel;cases gk with
  | zero=>exact absurd HA.out (by simp [cmp_Or_int.l0])
  | succ k1 =>
   have H:=HA.out;clear HA;simp only [cmp_Or_int.l0] at H;by_cases c2:x8_1 < (l0.length:Int)
   ·rw [if_pos c2] at H;have c2b0:decide (x8_1 < (l0.length:Int))=true:=decide_eq_true c2;clear c2;by_cases c3:0≤x8_1
    ·rw [if_pos c3] at H;have c3b0:decide (0≤x8_1)=true:=decide_eq_true c3;clear c3;by_cases c4:x8_1 < (l0.length:Int)
     ·rw [if_pos c4] at H;have c4b0:decide (x8_1 < (l0.length:Int))=true:=decide_eq_true c4;clear c4;by_cases c5:(rd l0 x8_1)=0
      ·rw [if_pos c5] at H;have c5b0:((rd l0 x8_1) == 0)=true:=beq_iff_eq.mpr c5;have c5b1:((rd l0 x8_1) != 0)=false:=bne_eq_false_iff_eq.mpr c5;clear c5;have H':=qK H;clear H;have p244:0≤(x8_1:Int):=of_decide_eq_true (by first|(with_reducible assumption)|assumption);have q244:x8_1 < (l0.length:Int):=of_decide_eq_true (by first|(with_reducible assumption)|assumption);obtain ⟨ad244,e244,hx244_0⟩:=Kd.at_int HR0.out x8_1 p244 q244;cases e244
       replace p244:=eq_true p244;replace q244:=eq_true q244;go_wp2
       go_roundg k1
       case measure=>have:=HK1.out;omega
       case rel=>exact ⟨(wrap64 (x8_1 + 1)),(by first|rfl|(simp;done)|(simp [*];done)),H',⟨by have:=HK1.out;omega⟩,by repeat (first|exact Drawn0.refl _|apply Drawn0.step)⟩
      ·rw [if_neg c5] at H;have c5b0:((rd l0 x8_1) == 0)=false:=beq_eq_false_iff_ne.mpr c5;have c5b1:((rd l0 x8_1) != 0)=true:=bne_iff_ne.mpr c5;obtain rfl:=Option.some.inj H;have p244:0≤(x8_1:Int):=of_decide_eq_true (by first|(with_reducible assumption)|assumption);have q244:x8_1 < (l0.length:Int):=of_decide_eq_true (by first|(with_reducible assumption)|assumption);obtain ⟨ad244,e244,hx244_0⟩:=Kd.at_int HR0.out x8_1 p244 q244;cases e244
       replace p244:=eq_true p244;replace q244:=eq_true q244;go_wp2
       go_ret
       exact ⟨by first|rfl|(simp;done)|(simp [*];done),by repeat (first|exact Drawn0.refl _|apply Drawn0.step)⟩
     ·rw [if_neg c4] at H;exact absurd H (by simp)
    ·rw [if_neg c3] at H;exact absurd H (by simp)
   ·rw [if_neg c2] at H;have c2b0:decide (x8_1 < (l0.length:Int))=false:=decide_eq_false c2;clear c2;obtain rfl:=Option.some.inj H;go_wp2
    go_ret
    exact ⟨by first|rfl|(simp;done)|(simp [*];done),by repeat (first|exact Drawn0.refl _|apply Drawn0.step)⟩

/-! ### cmp_isNaN_int: function 79 -/
def cmp_isNaN_int.f (a0:Int):Option (Bool):=some (a0 != a0)
set_option maxHeartbeats 8000000 in
set_option maxRecDepth 100000 in
theorem cmp_isNaN_int.calls (a0:Int) (r:Bool) (w:World) (h:cmp_isNaN_int.f a0=some r) :
  Calls Try.prog 79 #[.int .i64 a0] w fun e w'=>e=.returned (.bool r)∧Drawn0 w w':=by
 have H:(some (a0 != a0))=some r:=h;clear h;obtain rfl:=Option.some.inj H;go_enter Try.func79,Try.ntmps79
 go_wp2
 go_ret
 exact ⟨by first|rfl|(simp;done)|(simp [*];done),by repeat (first|exact Drawn0.refl _|apply Drawn0.step)⟩

/-! ### cmp_Compare_int: function 66 -/
def cmp_Compare_int.f (a0:Int) (a1:Int):Option (Int):=(cmp_isNaN_int.f a0).bind fun t245=>((cmp_isNaN_int.f a1).bind fun t246=>(if t245=true then (if t246=true then (some 0) else (some (-1))) else (if t246=true then (some 1) else (if a0 < a1 then (some (-1)) else (if a0 > a1 then (some 1) else (some 0))))))
set_option maxHeartbeats 8000000 in
set_option maxRecDepth 100000 in
theorem cmp_Compare_int.calls (a0:Int) (a1:Int) (r:Int) (w:World) (h:cmp_Compare_int.f a0 a1=some r) :
  Calls Try.prog 66 #[.int .i64 a0,.int .i64 a1] w fun e w'=>e=.returned (.int .i64 r)∧Drawn0 w w':=by
 have H:((cmp_isNaN_int.f a0).bind fun t245=>((cmp_isNaN_int.f a1).bind fun t246=>(if t245=true then (if t246=true then (some 0) else (some (-1))) else (if t246=true then (some 1) else (if a0 < a1 then (some (-1)) else (if a0 > a1 then (some 1) else (some 0)))))))=some r:=h;clear h;replace H:=Option.bind_eq_some_iff.mp H;obtain ⟨t245,A30,H⟩:=H;replace H:((cmp_isNaN_int.f a1).bind fun t246=>(if t245=true then (if t246=true then (some 0) else (some (-1))) else (if t246=true then (some 1) else (if a0 < a1 then (some (-1)) else (if a0 > a1 then (some 1) else (some 0))))))=some r:=H;have A3:=qK A30;clear A30;replace H:=Option.bind_eq_some_iff.mp H;obtain ⟨t246,A40,H⟩:=H;replace H:(if t245=true then (if t246=true then (some 0) else (some (-1))) else (if t246=true then (some 1) else (if a0 < a1 then (some (-1)) else (if a0 > a1 then (some 1) else (some 0)))))=some r:=H;have A4:=qK A40;clear A40;by_cases c5:t245=true
 ·subst c5;have H1:(if t246=true then (some 0) else (some (-1)))=some r:=by rw [if_pos rfl] at H;exact H
  clear H;have H:=H1;clear H1;by_cases c6:t246=true
  ·subst c6;have H1:(some 0)=some r:=by rw [if_pos rfl] at H;exact H
   clear H;have H:=H1;clear H1;obtain rfl:=Option.some.inj H;go_enter Try.func66,Try.ntmps66
   go_wp2_with (first|((with_reducible refine gate_callee (f:=79) rfl ?_);refine goesL_ (some 8) rfl rfl Try.func79 (by kernel_rfl) rfl #[.int .i64 a0] rfl (by (try simp only [mT,mC,mN]);first|done|rfl|(simp only [lD,lT];rfl)) ?_;(with_reducible refine (cmp_isNaN_int.calls a0 true _ A3.out).mono ?_);rintro e w' ⟨rfl,⟨nd,rfl⟩⟩;refine ⟨_,rfl,?_⟩)|((with_reducible refine gate_callee (f:=79) rfl ?_);refine goesL_ (some 10) rfl rfl Try.func79 (by kernel_rfl) rfl #[.int .i64 a1] rfl (by (try simp only [mT,mC,mN]);first|done|rfl|(simp only [lD,lT];rfl)) ?_;(with_reducible refine (cmp_isNaN_int.calls a1 true _ A4.out).mono ?_);rintro e w' ⟨rfl,⟨nd,rfl⟩⟩;refine ⟨_,rfl,?_⟩))
   go_ret
   exact ⟨by first|rfl|(simp;done)|(simp [*];done),by repeat (first|exact Drawn0.refl _|apply Drawn0.step)⟩
  ·replace c6:=Bool.eq_false_iff.mpr c6;subst c6;have H1:(some (-1))=some r:=by rw [if_neg (show ¬ (false=true) by decide)] at H;exact H
   clear H;have H:=H1;clear H1;obtain rfl:=Option.some.inj H;go_enter Try.func66,Try.ntmps66
   go_wp2_with (first|((with_reducible refine gate_callee (f:=79) rfl ?_);refine goesL_ (some 8) rfl rfl Try.func79 (by kernel_rfl) rfl #[.int .i64 a0] rfl (by (try simp only [mT,mC,mN]);first|done|rfl|(simp only [lD,lT];rfl)) ?_;(with_reducible refine (cmp_isNaN_int.calls a0 true _ A3.out).mono ?_);rintro e w' ⟨rfl,⟨nd,rfl⟩⟩;refine ⟨_,rfl,?_⟩)|((with_reducible refine gate_callee (f:=79) rfl ?_);refine goesL_ (some 10) rfl rfl Try.func79 (by kernel_rfl) rfl #[.int .i64 a1] rfl (by (try simp only [mT,mC,mN]);first|done|rfl|(simp only [lD,lT];rfl)) ?_;(with_reducible refine (cmp_isNaN_int.calls a1 false _ A4.out).mono ?_);rintro e w' ⟨rfl,⟨nd,rfl⟩⟩;refine ⟨_,rfl,?_⟩))
   go_ret
   exact ⟨by first|rfl|(simp;done)|(simp [*];done),by repeat (first|exact Drawn0.refl _|apply Drawn0.step)⟩
 ·replace c5:=Bool.eq_false_iff.mpr c5;subst c5;have H1:(if t246=true then (some 1) else (if a0 < a1 then (some (-1)) else (if a0 > a1 then (some 1) else (some 0))))=some r:=by rw [if_neg (show ¬ (false=true) by decide)] at H;exact H
  clear H;have H:=H1;clear H1;by_cases c7:t246=true
  ·subst c7;have H1:(some 1)=some r:=by rw [if_pos rfl] at H;exact H
   clear H;have H:=H1;clear H1;obtain rfl:=Option.some.inj H;go_enter Try.func66,Try.ntmps66
   go_wp2_with (first|((with_reducible refine gate_callee (f:=79) rfl ?_);refine goesL_ (some 8) rfl rfl Try.func79 (by kernel_rfl) rfl #[.int .i64 a0] rfl (by (try simp only [mT,mC,mN]);first|done|rfl|(simp only [lD,lT];rfl)) ?_;(with_reducible refine (cmp_isNaN_int.calls a0 false _ A3.out).mono ?_);rintro e w' ⟨rfl,⟨nd,rfl⟩⟩;refine ⟨_,rfl,?_⟩)|((with_reducible refine gate_callee (f:=79) rfl ?_);refine goesL_ (some 10) rfl rfl Try.func79 (by kernel_rfl) rfl #[.int .i64 a1] rfl (by (try simp only [mT,mC,mN]);first|done|rfl|(simp only [lD,lT];rfl)) ?_;(with_reducible refine (cmp_isNaN_int.calls a1 true _ A4.out).mono ?_);rintro e w' ⟨rfl,⟨nd,rfl⟩⟩;refine ⟨_,rfl,?_⟩))
   go_ret
   exact ⟨by first|rfl|(simp;done)|(simp [*];done),by repeat (first|exact Drawn0.refl _|apply Drawn0.step)⟩
  ·replace c7:=Bool.eq_false_iff.mpr c7;subst c7;have H1:(if a0 < a1 then (some (-1)) else (if a0 > a1 then (some 1) else (some 0)))=some r:=by rw [if_neg (show ¬ (false=true) by decide)] at H;exact H
   clear H;have H:=H1;clear H1;by_cases c8:a0 < a1
   ·rw [if_pos c8] at H;have c8b0:decide (a0 < a1)=true:=decide_eq_true c8;clear c8;obtain rfl:=Option.some.inj H;go_enter Try.func66,Try.ntmps66
    go_wp2_with (first|((with_reducible refine gate_callee (f:=79) rfl ?_);refine goesL_ (some 8) rfl rfl Try.func79 (by kernel_rfl) rfl #[.int .i64 a0] rfl (by (try simp only [mT,mC,mN]);first|done|rfl|(simp only [lD,lT];rfl)) ?_;(with_reducible refine (cmp_isNaN_int.calls a0 false _ A3.out).mono ?_);rintro e w' ⟨rfl,⟨nd,rfl⟩⟩;refine ⟨_,rfl,?_⟩)|((with_reducible refine gate_callee (f:=79) rfl ?_);refine goesL_ (some 10) rfl rfl Try.func79 (by kernel_rfl) rfl #[.int .i64 a1] rfl (by (try simp only [mT,mC,mN]);first|done|rfl|(simp only [lD,lT];rfl)) ?_;(with_reducible refine (cmp_isNaN_int.calls a1 false _ A4.out).mono ?_);rintro e w' ⟨rfl,⟨nd,rfl⟩⟩;refine ⟨_,rfl,?_⟩))
    go_ret
    exact ⟨by first|rfl|(simp;done)|(simp [*];done),by repeat (first|exact Drawn0.refl _|apply Drawn0.step)⟩
   ·rw [if_neg c8] at H;have c8b0:decide (a0 < a1)=false:=decide_eq_false c8;clear c8;by_cases c9:a0 > a1
    ·rw [if_pos c9] at H;have c9b0:decide (a1 < a0)=true:=decide_eq_true c9;clear c9;obtain rfl:=Option.some.inj H;go_enter Try.func66,Try.ntmps66
     go_wp2_with (first|((with_reducible refine gate_callee (f:=79) rfl ?_);refine goesL_ (some 8) rfl rfl Try.func79 (by kernel_rfl) rfl #[.int .i64 a0] rfl (by (try simp only [mT,mC,mN]);first|done|rfl|(simp only [lD,lT];rfl)) ?_;(with_reducible refine (cmp_isNaN_int.calls a0 false _ A3.out).mono ?_);rintro e w' ⟨rfl,⟨nd,rfl⟩⟩;refine ⟨_,rfl,?_⟩)|((with_reducible refine gate_callee (f:=79) rfl ?_);refine goesL_ (some 10) rfl rfl Try.func79 (by kernel_rfl) rfl #[.int .i64 a1] rfl (by (try simp only [mT,mC,mN]);first|done|rfl|(simp only [lD,lT];rfl)) ?_;(with_reducible refine (cmp_isNaN_int.calls a1 false _ A4.out).mono ?_);rintro e w' ⟨rfl,⟨nd,rfl⟩⟩;refine ⟨_,rfl,?_⟩))
     go_ret
     exact ⟨by first|rfl|(simp;done)|(simp [*];done),by repeat (first|exact Drawn0.refl _|apply Drawn0.step)⟩
    ·rw [if_neg c9] at H;have c9b0:decide (a1 < a0)=false:=decide_eq_false c9;clear c9;obtain rfl:=Option.some.inj H;go_enter Try.func66,Try.ntmps66
     go_wp2_with (first|((with_reducible refine gate_callee (f:=79) rfl ?_);refine goesL_ (some 8) rfl rfl Try.func79 (by kernel_rfl) rfl #[.int .i64 a0] rfl (by (try simp only [mT,mC,mN]);first|done|rfl|(simp only [lD,lT];rfl)) ?_;(with_reducible refine (cmp_isNaN_int.calls a0 false _ A3.out).mono ?_);rintro e w' ⟨rfl,⟨nd,rfl⟩⟩;refine ⟨_,rfl,?_⟩)|((with_reducible refine gate_callee (f:=79) rfl ?_);refine goesL_ (some 10) rfl rfl Try.func79 (by kernel_rfl) rfl #[.int .i64 a1] rfl (by (try simp only [mT,mC,mN]);first|done|rfl|(simp only [lD,lT];rfl)) ?_;(with_reducible refine (cmp_isNaN_int.calls a1 false _ A4.out).mono ?_);rintro e w' ⟨rfl,⟨nd,rfl⟩⟩;refine ⟨_,rfl,?_⟩))
     go_ret
     exact ⟨by first|rfl|(simp;done)|(simp [*];done),by repeat (first|exact Drawn0.refl _|apply Drawn0.step)⟩

/-! ### slices_Compare_int_int: function 67 -/
def slices_Compare_int_int.l0 : Nat→List Int→List Int→List Int→Int→Int→Option (Int)
 | 0,_,_,_,_,_=>none
 | k + 1,x0,x1,x9,x10,x11=>if x11 < x10 then (if 0≤x11 then (if x11 < (x9.length:Int) then (if x11 ≥ (x1.length:Int) then (some 1) else (if x11 < (x1.length:Int) then ((cmp_Compare_int.f (rd x9 x11) (rd x1 x11)).bind fun t249=>(if t249=0 then (slices_Compare_int_int.l0 k x0 x1 x9 x10 (wrap64 (x11 + 1))) else (some t249))) else (none))) else (none)) else (none)) else (if (x0.length:Int) < (x1.length:Int) then (some (-1)) else (some 0))
def slices_Compare_int_int.f (k:Nat) (l0:List Int) (l1:List Int):Option (Int):=slices_Compare_int_int.l0 k l0 l1 l0 (l0.length:Int) 0
theorem slices_Compare_int_int.mono_l : ∀ k,(∀ y0 y1 y2 y3 y4,LeO (slices_Compare_int_int.l0 k y0 y1 y2 y3 y4) (slices_Compare_int_int.l0 (k + 1) y0 y1 y2 y3 y4))
 | 0=>fun _ _ _ _ _ r h=>by simp [slices_Compare_int_int.l0] at h
 | k + 1=>by
  have ih0:=slices_Compare_int_int.mono_l k
  ·intro y0 y1 y2 y3 y4;unfold slices_Compare_int_int.l0
   repeat' first
   | (with_reducible exact ih0 _ _ _ _ _)
   | (with_reducible exact LeO.refl _)
   | (with_reducible exact LeO.none _)
   | (with_reducible refine LeO.ite ?_ ?_)
   | (with_reducible refine LeO.bind ?_ (fun _=>?_))
   | exact ih0 _ _ _ _ _
   | exact LeO.none _
   | refine LeO.ite ?_ ?_
   | refine LeO.bind ?_ (fun _=>?_)
theorem slices_Compare_int_int.mono : ∀ a0 a1 k,LeO (slices_Compare_int_int.f k a0 a1) (slices_Compare_int_int.f (k + 1) a0 a1):=by
 intro a0 a1 k;have ih0:=slices_Compare_int_int.mono_l k;unfold slices_Compare_int_int.f
 repeat' first
   | (with_reducible exact ih0 _ _ _ _ _)
   | (with_reducible exact LeO.refl _)
   | (with_reducible exact LeO.none _)
   | (with_reducible refine LeO.ite ?_ ?_)
   | (with_reducible refine LeO.bind ?_ (fun _=>?_))
   | exact ih0 _ _ _ _ _
   | exact LeO.none _
   | refine LeO.ite ?_ ?_
   | refine LeO.bind ?_ (fun _=>?_)
set_option maxHeartbeats 8000000 in
set_option maxRecDepth 100000 in
theorem slices_Compare_int_int.calls (k:Nat) (A0:Option Addr) (c0:Nat) (l0:List Int) (A1:Option Addr) (c1:Nat) (l1:List Int) (r:Int) (w:World) (hr0:Kd.C (Kd.int .i64) w A0 l0.length l0) (hc0:l0.length≤c0) (hr1:Kd.C (Kd.int .i64) w A1 l1.length l1) (hc1:l1.length≤c1) (h:slices_Compare_int_int.f k l0 l1=some r) :
  Calls Try.prog 67 #[.slice A0 l0.length c0,.slice A1 l1.length c1] w fun e w'=>e=.returned (.int .i64 r)∧Drawn0 w w':=by
 have HR0:=qK hr0;have HC0:=qK hc0;clear hr0 hc0;have HR1:=qK hr1;have HC1:=qK hc1;clear hr1 hc1;have H:(slices_Compare_int_int.l0 k l0 l1 l0 (l0.length:Int) 0)=some r:=h;clear h;have H':=qK H;clear H;go_enter Try.func67,Try.ntmps67
 go_wp2
 go_loopg [11] k (fun kq v11 w'=>∃ (x11_1:Int),v11=.int .i64 x11_1∧Aside0 (slices_Compare_int_int.l0 kq l0 l1 l0 (l0.length:Int) x11_1=some r)∧Aside0 (kq≤k)∧Drawn0 w w')
 case atStart=>exact ⟨(0),(by first|rfl|(simp;done)|(simp [*];done)),H',⟨Nat.le_refl _⟩,by repeat (first|exact Drawn0.refl _|apply Drawn0.step)⟩
 case round =>
  clear H';try clear c1
  try clear p2
  obtain ⟨x11_1,rfl,HA,HK1,⟨m1,rfl⟩⟩:=hrel;cases gk with
  | zero=>exact absurd HA.out (by simp [slices_Compare_int_int.l0])
  | succ k1 =>
   have H:=HA.out;clear HA;simp only [slices_Compare_int_int.l0] at H;by_cases c3:x11_1 < (l0.length:Int)
   ·rw [if_pos c3] at H;have c3b0:decide (x11_1 < (l0.length:Int))=true:=decide_eq_true c3;clear c3;by_cases c4:0≤x11_1
    ·rw [if_pos c4] at H;have c4b0:decide (0≤x11_1)=true:=decide_eq_true c4;clear c4;by_cases c5:x11_1 < (l0.length:Int)
     ·rw [if_pos c5] at H;have c5b0:decide (x11_1 < (l0.length:Int))=true:=decide_eq_true c5;clear c5;by_cases c6:x11_1 ≥ (l1.length:Int)
      ·rw [if_pos c6] at H;have c6b0:decide ((l1.length:Int)≤x11_1)=true:=decide_eq_true c6;clear c6;obtain rfl:=Option.some.inj H;have p247:0≤(x11_1:Int):=of_decide_eq_true (by first|(with_reducible assumption)|assumption);have q247:x11_1 < (l0.length:Int):=of_decide_eq_true (by first|(with_reducible assumption)|assumption);obtain ⟨ad247,e247,hx247_0⟩:=Kd.at_int HR0.out x11_1 p247 q247;cases e247
       replace p247:=eq_true p247;replace q247:=eq_true q247;go_wp2
       go_ret
       exact ⟨by first|rfl|(simp;done)|(simp [*];done),by repeat (first|exact Drawn0.refl _|apply Drawn0.step)⟩
      ·rw [if_neg c6] at H;have c6b0:decide ((l1.length:Int)≤x11_1)=false:=decide_eq_false c6;clear c6;by_cases c7:x11_1 < (l1.length:Int)
       ·rw [if_pos c7] at H;have c7b0:decide (x11_1 < (l1.length:Int))=true:=decide_eq_true c7;clear c7;replace H:=Option.bind_eq_some_iff.mp H;obtain ⟨t249,A80,H⟩:=H;replace H:(if t249=0 then (slices_Compare_int_int.l0 k1 l0 l1 l0 (l0.length:Int) (wrap64 (x11_1 + 1))) else (some t249))=some r:=H;have A8:=qK A80;clear A80;by_cases c9:t249=0
        ·rw [if_pos c9] at H;have c9b0:(t249 == 0)=true:=beq_iff_eq.mpr c9;have c9b1:(t249 != 0)=false:=bne_eq_false_iff_eq.mpr c9;clear c9;have H':=qK H;clear H;have p247:0≤(x11_1:Int):=of_decide_eq_true (by first|(with_reducible assumption)|assumption);have q247:x11_1 < (l0.length:Int):=of_decide_eq_true (by first|(with_reducible assumption)|assumption);obtain ⟨ad247,e247,hx247_0⟩:=Kd.at_int HR0.out x11_1 p247 q247;cases e247
         replace p247:=eq_true p247;replace q247:=eq_true q247;have p248:0≤(x11_1:Int):=of_decide_eq_true (by first|(with_reducible assumption)|assumption);have q248:x11_1 < (l1.length:Int):=of_decide_eq_true (by first|(with_reducible assumption)|assumption);obtain ⟨ad248,e248,hx248_0⟩:=Kd.at_int HR1.out x11_1 p248 q248;cases e248
         replace p248:=eq_true p248;replace q248:=eq_true q248;go_wp2_with (first|((with_reducible refine gate_callee (f:=66) rfl ?_);refine goesL_ (some 26) rfl rfl Try.func66 (by kernel_rfl) rfl #[.int .i64 (rd l0 x11_1),.int .i64 (rd l1 x11_1)] rfl (by (try simp only [mT,mC,mN]);first|done|rfl|(simp only [lD,lT];rfl)) ?_;(with_reducible refine (cmp_Compare_int.calls (rd l0 x11_1) (rd l1 x11_1) t249 _ A8.out).mono ?_);rintro e w' ⟨rfl,⟨nd,rfl⟩⟩;refine ⟨_,rfl,?_⟩))
         go_roundg k1
         case measure=>have:=HK1.out;omega
         case rel=>exact ⟨(wrap64 (x11_1 + 1)),(by first|rfl|(simp;done)|(simp [*];done)),H',⟨by have:=HK1.out;omega⟩,by repeat (first|exact Drawn0.refl _|apply Drawn0.step)⟩
        ·rw [if_neg c9] at H;have c9b0:(t249 == 0)=false:=beq_eq_false_iff_ne.mpr c9;have c9b1:(t249 != 0)=true:=bne_iff_ne.mpr c9;obtain rfl:=Option.some.inj H;have p247:0≤(x11_1:Int):=of_decide_eq_true (by first|(with_reducible assumption)|assumption);have q247:x11_1 < (l0.length:Int):=of_decide_eq_true (by first|(with_reducible assumption)|assumption);obtain ⟨ad247,e247,hx247_0⟩:=Kd.at_int HR0.out x11_1 p247 q247;cases e247
         replace p247:=eq_true p247;replace q247:=eq_true q247;have p248:0≤(x11_1:Int):=of_decide_eq_true (by first|(with_reducible assumption)|assumption);have q248:x11_1 < (l1.length:Int):=of_decide_eq_true (by first|(with_reducible assumption)|assumption);obtain ⟨ad248,e248,hx248_0⟩:=Kd.at_int HR1.out x11_1 p248 q248;cases e248
         replace p248:=eq_true p248;replace q248:=eq_true q248;go_wp2_with (first|((with_reducible refine gate_callee (f:=66) rfl ?_);refine goesL_ (some 26) rfl rfl Try.func66 (by kernel_rfl) rfl #[.int .i64 (rd l0 x11_1),.int .i64 (rd l1 x11_1)] rfl (by (try simp only [mT,mC,mN]);first|done|rfl|(simp only [lD,lT];rfl)) ?_;(with_reducible refine (cmp_Compare_int.calls (rd l0 x11_1) (rd l1 x11_1) t249 _ A8.out).mono ?_);rintro e w' ⟨rfl,⟨nd,rfl⟩⟩;refine ⟨_,rfl,?_⟩))
         go_ret
         exact ⟨by first|rfl|(simp;done)|(simp [*];done),by repeat (first|exact Drawn0.refl _|apply Drawn0.step)⟩
       ·rw [if_neg c7] at H;exact absurd H (by simp)
     ·rw [if_neg c5] at H;exact absurd H (by simp)
    ·rw [if_neg c4] at H;exact absurd H (by simp)
   ·rw [if_neg c3] at H;have c3b0:decide (x11_1 < (l0.length:Int))=false:=decide_eq_false c3;clear c3;by_cases c10:(l0.length:Int) < (l1.length:Int)
    ·rw [if_pos c10] at H;have c10b0:decide ((l0.length:Int) < (l1.length:Int))=true:=decide_eq_true c10;have c10b1:decide (l0.length < l1.length)=true:=decide_eq_true (Int.ofNat_lt.mp c10);clear c10;obtain rfl:=Option.some.inj H;go_wp2
     go_ret
     exact ⟨by first|rfl|(simp;done)|(simp [*];done),by repeat (first|exact Drawn0.refl _|apply Drawn0.step)⟩
    ·rw [if_neg c10] at H;have c10b0:decide ((l0.length:Int) < (l1.length:Int))=false:=decide_eq_false c10;have c10b1:decide (l0.length < l1.length)=false:=decide_eq_false (fun h=>c10 (Int.ofNat_lt.mpr h));clear c10;obtain rfl:=Option.some.inj H;go_wp2
     go_ret
     exact ⟨by first|rfl|(simp;done)|(simp [*];done),by repeat (first|exact Drawn0.refl _|apply Drawn0.step)⟩

/-! ### impl_compareSets: function 55 -/
def impl_compareSets.f (k:Nat) (a0:Int) (a1:Int):Option (Int):=(impl_set_list.f k a0).bind fun t250=>((impl_set_list.f k a1).bind fun t253=>((cmp_Compare_int.f (t250.length:Int) (t253.length:Int)).bind fun t256=>((slices_Compare_int_int.f k t250 t253).bind fun t257=>((cmp_Or_int.f k (([t256,t257]:List Int))).bind fun t261=>(some t261)))))
theorem impl_compareSets.mono : ∀ a0 a1 k,LeO (impl_compareSets.f k a0 a1) (impl_compareSets.f (k + 1) a0 a1):=by
 intro a0 a1 k;unfold impl_compareSets.f
 repeat' first
   | (with_reducible exact cmp_Or_int.mono _ _)
   | (with_reducible exact impl_set_list.mono _ _)
   | (with_reducible exact slices_Compare_int_int.mono _ _ _)
   | (with_reducible exact LeO.refl _)
   | (with_reducible exact LeO.none _)
   | (with_reducible refine LeO.ite ?_ ?_)
   | (with_reducible refine LeO.bind ?_ (fun _=>?_))
   | exact cmp_Or_int.mono _ _
   | exact impl_set_list.mono _ _
   | exact slices_Compare_int_int.mono _ _ _
   | exact LeO.none _
   | refine LeO.ite ?_ ?_
   | refine LeO.bind ?_ (fun _=>?_)
set_option maxHeartbeats 8000000 in
set_option maxRecDepth 100000 in
theorem impl_compareSets.calls (k:Nat) (a0:Int) (a1:Int) (r:Int) (w:World) (h:impl_compareSets.f k a0 a1=some r) :
  Calls Try.prog 55 #[.int .i64 a0,.int .i64 a1] w fun e w'=>e=.returned (.int .i64 r)∧Below w.heap.size w w':=by
 have HB:=qK (Below.refl w.heap.size w);have H:((impl_set_list.f k a0).bind fun t250=>((impl_set_list.f k a1).bind fun t253=>((cmp_Compare_int.f (t250.length:Int) (t253.length:Int)).bind fun t256=>((slices_Compare_int_int.f k t250 t253).bind fun t257=>((cmp_Or_int.f k (([t256,t257]:List Int))).bind fun t261=>(some t261))))))=some r:=h;clear h;replace H:=Option.bind_eq_some_iff.mp H;obtain ⟨t250,A30,H⟩:=H;replace H:((impl_set_list.f k a1).bind fun t253=>((cmp_Compare_int.f (t250.length:Int) (t253.length:Int)).bind fun t256=>((slices_Compare_int_int.f k t250 t253).bind fun t257=>((cmp_Or_int.f k (([t256,t257]:List Int))).bind fun t261=>(some t261)))))=some r:=H;have A3:=qK A30;clear A30;replace H:=Option.bind_eq_some_iff.mp H;obtain ⟨t253,A40,H⟩:=H;replace H:((cmp_Compare_int.f (t250.length:Int) (t253.length:Int)).bind fun t256=>((slices_Compare_int_int.f k t250 t253).bind fun t257=>((cmp_Or_int.f k (([t256,t257]:List Int))).bind fun t261=>(some t261))))=some r:=H;have A4:=qK A40;clear A40;replace H:=Option.bind_eq_some_iff.mp H;obtain ⟨t256,A50,H⟩:=H;replace H:((slices_Compare_int_int.f k t250 t253).bind fun t257=>((cmp_Or_int.f k (([t256,t257]:List Int))).bind fun t261=>(some t261)))=some r:=H;have A5:=qK A50;clear A50;replace H:=Option.bind_eq_some_iff.mp H;obtain ⟨t257,A60,H⟩:=H;replace H:((cmp_Or_int.f k (([t256,t257]:List Int))).bind fun t261=>(some t261))=some r:=H;have A6:=qK A60;clear A60;obtain ⟨y258,hy258⟩:∃ y_:List Int,y_=(([t256,t257]:List Int)):=⟨_,rfl⟩;replace H:((cmp_Or_int.f k y258).bind fun t261=>(some t261))=some r:=by first|(rw [hy258];with_reducible exact H)|(have H2_:=(Option.bind_some _ _).symm.trans H;rw [hy258];with_reducible exact H2_)|(have H2_:=(Option.bind_some _ _).symm.trans H;with_reducible exact H2_)|with_reducible exact H|(rw [hy258];exact H)|exact H
 have Ny258:=qK hy258;clear hy258;replace H:=Option.bind_eq_some_iff.mp H;obtain ⟨t261,A70,H⟩:=H;replace H:(some t261)=some r:=H;have A7:=qK A70;clear A70;obtain rfl:=Option.some.inj H;go_enter Try.func55,Try.ntmps55
 go_wp2_with (first|((with_reducible refine gate_callee (f:=35) rfl ?_);refine goesL_ (some 8) rfl rfl Try.func35 (by kernel_rfl) rfl #[.int .i64 a0] rfl (by (try simp only [mT,mC,mN]);first|done|rfl|(simp only [lD,lT];rfl)) ?_;(with_reducible refine (impl_set_list.calls k a0 t250 _ A3.out).mono ?_);rintro e w8 ⟨v251,rfl,ho0,hb⟩;refine ⟨_,rfl,?_⟩;have n0_:=qK (Kd.R_lower ho0 (qZ (by repeat (with_reducible first|exact HB.out|apply qA|apply qD|apply qO))));have n1_:=qK (qT (by repeat (with_reducible first|exact HB.out|apply qA|apply qD|apply qO)) hb);clear HB;have HO252:=n0_;have HB:=n1_;clear n0_ n1_;(try clear hb);(try clear ho0))|((with_reducible refine gate_callee (f:=35) rfl ?_);refine goesL_ (some 10) rfl rfl Try.func35 (by kernel_rfl) rfl #[.int .i64 a1] rfl (by (try simp only [mT,mC,mN]);first|done|rfl|(simp only [lD,lT];rfl)) ?_;(with_reducible refine (impl_set_list.calls k a1 t253 _ A4.out).mono ?_);rintro e w9 ⟨v254,rfl,ho0,hb⟩;refine ⟨_,rfl,?_⟩;have n0_:=qK (Kd.R_elder' (by (with_reducible repeat (first|apply rL|apply rN|apply rW));exact HO252.out) (Kd.R_base ho0) hb);have n1_:=qK (Kd.R_lower (Kd.R_new' ho0 (Kd.R_lt (by (with_reducible repeat (first|apply rL|apply rN|apply rW));exact HO252.out))) (qZ (by repeat (with_reducible first|exact HB.out|apply qA|apply qD|apply qO))));have n2_:=qK (qT (by repeat (with_reducible first|exact HB.out|apply qA|apply qD|apply qO)) hb);clear HO252;clear HB;have HO252:=n0_;have HO255:=n1_;have HB:=n2_;clear n0_ n1_ n2_;(try clear hb);(try clear ho0);obtain ⟨Ao10,co10,eo10⟩:=Kd.R_slice HO252.out;subst eo10;obtain ⟨Ao11,co11,eo11⟩:=Kd.R_slice HO255.out;subst eo11)|((with_reducible refine gate_callee (f:=66) rfl ?_);refine goesL_ (some 15) rfl rfl Try.func66 (by kernel_rfl) rfl #[.int .i64 (t250.length:Int),.int .i64 (t253.length:Int)] rfl (by (try simp only [mT,mC,mN]);first|done|rfl|(simp only [lD,lT];rfl)) ?_;(with_reducible refine (cmp_Compare_int.calls (t250.length:Int) (t253.length:Int) t256 _ A5.out).mono ?_);rintro e w' ⟨rfl,⟨nd,rfl⟩⟩;refine ⟨_,rfl,?_⟩)|((with_reducible refine gate_callee (f:=67) rfl ?_);refine goesL_ (some 18) rfl rfl Try.func67 (by kernel_rfl) rfl #[.slice Ao10 t250.length co10,.slice Ao11 t253.length co11] rfl (by (try simp only [mT,mC,mN]);first|done|rfl|(simp only [lD,lT];rfl)) ?_;(with_reducible refine (slices_Compare_int_int.calls k _ _ t250 _ _ t253 t257 _ ?side1 ?side2 ?side3 ?side4 A6.out).mono ?_);(case side1=>repeat (first|exact (Kd.R_reads' HO252.out).2.2|(with_reducible first|refine cL ?_ _|refine cN ?_ _|refine cW ?_)));(case side2=>exact (Kd.R_reads' HO252.out).2.1);(case side3=>repeat (first|exact (Kd.R_reads' HO255.out).2.2|(with_reducible first|refine cL ?_ _|refine cN ?_ _|refine cW ?_)));(case side4=>exact (Kd.R_reads' HO255.out).2.1);rintro e w' ⟨rfl,⟨nd,rfl⟩⟩;refine ⟨_,rfl,?_⟩)|((with_reducible refine gate_dst (N:=19) rfl ?_);refine Kd.R_lit (Kd.int .i64) _ 3 ?hg (N:=19) ?hd (xs:=([t256,t257]:List Int)) (inner:=[.int .i64 t256,.int .i64 t257]) (ok:=fun _=>True) (okp:=fun _=>True) ?hr ?hp (fun _ hk=>hk) trivial (Below.refl _ _) (Nat.le_refl _) (by simp) ?_;(case hd=>rfl);(case hg=>rfl);(case hr=>(go_simp;try rfl));(case hp=>exact (Reps.one (show Kd.M (Kd.int .i64) _ _ _ t256 [.int .i64 t256] from rfl) (Reps.one (show Kd.M (Kd.int .i64) _ _ _ t257 [.int .i64 t257] from rfl) (Reps.none _ _))));intro v259 w12 ho13 hb hg_ hnew_;clear hg_ hnew_;(first|rw [← Ny258.out] at ho13|(simp only [Int.reduceToNat] at ho13;rw [← Ny258.out] at ho13));have n0_:=qK (Kd.R_elder' (by (with_reducible repeat (first|apply rL|apply rN|apply rW));exact HO252.out) (Kd.R_base ho13) hb);have n1_:=qK (Kd.R_elder' (by (with_reducible repeat (first|apply rL|apply rN|apply rW));exact HO255.out) (Kd.R_base ho13) hb);have n2_:=qK (Kd.R_lower (Kd.R_new' (Kd.R_new' ho13 (Kd.R_lt (by (with_reducible repeat (first|apply rL|apply rN|apply rW));exact HO252.out))) (Kd.R_lt (by (with_reducible repeat (first|apply rL|apply rN|apply rW));exact HO255.out))) (qZ (by repeat (with_reducible first|exact HB.out|apply qA|apply qD|apply qO))));have n3_:=qK (qT (by repeat (with_reducible first|exact HB.out|apply qA|apply qD|apply qO)) hb);clear HO252;clear HO255;clear HB;have HO252:=n0_;have HO255:=n1_;have HO260:=n2_;have HB:=n3_;clear n0_ n1_ n2_ n3_;clear hb ho13;obtain ⟨Ao14,co14,eo14⟩:=Kd.R_slice HO260.out;subst eo14)|((with_reducible refine gate_callee (f:=65) rfl ?_);refine goesL_ (some 20) rfl rfl Try.func65 (by kernel_rfl) rfl #[.slice Ao14 y258.length co14] rfl (by (try simp only [mT,mC,mN]);first|done|rfl|(simp only [lD,lT];rfl)) ?_;(with_reducible refine (cmp_Or_int.calls k _ _ y258 t261 _ ?side1 ?side2 A7.out).mono ?_);(case side1=>repeat (first|exact (Kd.R_reads' HO260.out).2.2|(with_reducible first|refine cL ?_ _|refine cN ?_ _|refine cW ?_)));(case side2=>exact (Kd.R_reads' HO260.out).2.1);rintro e w' ⟨rfl,⟨nd,rfl⟩⟩;refine ⟨_,rfl,?_⟩))
 go_ret
 exact ⟨by first|rfl|(simp [errW_none,errW_some] <;> rfl)|(simp [*,errW_none,errW_some] <;> rfl),by repeat (first|(with_reducible first|exact HB.out|apply qA|apply qD|apply qO)|exact HB.out)⟩

/-! ### impl_partsOf: function 30 -/
def sortL_ren : Go.Shelf.Ren := ⟨fun | 6 => 54 | 15 => 64 | 14 => 63 | 28 => 77 | 29 => 78 | 20 => 69 | 21 => 70 | 22 => 71 | 23 => 72 | 24 => 73 | 25 => 74 | 26 => 75 | 27 => 76 | 46 => 80 | 47 => 81 | 48 => 82 | 49 => 83 | 50 => 84 | 57 => 85 | n => n, fun | 22 => 56 | 24 => 52 | 25 => 76 | 3 => 3 | 39 => 82 | 0 => 0 | 53 => 96 | 55 => 98 | 4 => 4 | 46 => 89 | 45 => 88 | 50 => 93 | 5 => 5 | 9 => 9 | 66 => 100 | 70 => 104 | 76 => 106 | 77 => 107 | n => n, fun | n => n⟩
theorem sortL : Go.Proofs.SlLaysF.n6 Try.prog sortL_ren := {
  mixed := by kernel_rfl
  f6 := ⟨Try.f54.name, by decide, Try.func54.trans (congrArg some (by kernel_rfl))⟩
  f14 := ⟨Try.f63.name, by decide, Try.func63.trans (congrArg some (by kernel_rfl))⟩
  f15 := Try.func64.trans (congrArg some (by kernel_rfl))
  f20 := ⟨Try.f69.name, by decide, Try.func69.trans (congrArg some (by kernel_rfl))⟩
  f21 := ⟨Try.f70.name, by decide, Try.func70.trans (congrArg some (by kernel_rfl))⟩
  f22 := ⟨Try.f71.name, by decide, Try.func71.trans (congrArg some (by kernel_rfl))⟩
  f23 := ⟨Try.f72.name, by decide, Try.func72.trans (congrArg some (by kernel_rfl))⟩
  f24 := ⟨Try.f73.name, by decide, Try.func73.trans (congrArg some (by kernel_rfl))⟩
  f25 := ⟨Try.f74.name, by decide, Try.func74.trans (congrArg some (by kernel_rfl))⟩
  f26 := ⟨Try.f75.name, by decide, Try.func75.trans (congrArg some (by kernel_rfl))⟩
  f27 := ⟨Try.f76.name, by decide, Try.func76.trans (congrArg some (by kernel_rfl))⟩
  f28 := Try.func77.trans (congrArg some (by kernel_rfl))
  f29 := Try.func78.trans (congrArg some (by kernel_rfl))
  f46 := ⟨Try.f80.name, by decide, Try.func80.trans (congrArg some (by kernel_rfl))⟩
  f47 := Try.func81.trans (congrArg some (by kernel_rfl))
  f48 := Try.func82.trans (congrArg some (by kernel_rfl))
  f49 := ⟨Try.f83.name, by decide, Try.func83.trans (congrArg some (by kernel_rfl))⟩
  f50 := ⟨Try.f84.name, by decide, Try.func84.trans (congrArg some (by kernel_rfl))⟩
  f57 := ⟨Try.f85.name, by decide, Try.func85.trans (congrArg some (by kernel_rfl))⟩
  t0 := Try.underlying0
  a0 := Try.isAgg0
  z0 := Try.sizeOf0
  v0 := Try.zeroValue0
  t3 := Try.underlying3
  a3 := Try.isAgg3
  z3 := Try.sizeOf3
  v3 := Try.zeroValue3
  t4 := Try.underlying4
  a4 := Try.isAgg4
  z4 := Try.sizeOf4
  v4 := Try.zeroValue4
  t5 := Try.underlying5
  a5 := Try.isAgg5
  z5 := Try.sizeOf5
  v5 := Try.zeroValue5
  t9 := Try.underlying9
  a9 := Try.isAgg9
  z9 := Try.sizeOf9
  v9 := Try.zeroValue9
  t22 := Try.underlying56
  a22 := Try.isAgg56
  z22 := Try.sizeOf56
  v22 := Try.zeroValue56
  a24 := Try.isAgg52
  z24 := Try.sizeOf52
  t25 := Try.underlying76
  a25 := Try.isAgg76
  z25 := Try.sizeOf76
  v25 := Try.zeroValue76
  t39 := Try.underlying82
  a39 := Try.isAgg82
  z39 := Try.sizeOf82
  v39 := Try.zeroValue82
  t45 := Try.underlying88
  a45 := Try.isAgg88
  z45 := Try.sizeOf88
  v45 := Try.zeroValue88
  t46 := Try.underlying89
  a46 := Try.isAgg89
  z46 := Try.sizeOf89
  v46 := Try.zeroValue89
  t50 := Try.underlying93
  a50 := Try.isAgg93
  z50 := Try.sizeOf93
  v50 := Try.zeroValue93
  t53 := Try.underlying96
  a53 := Try.isAgg96
  z53 := Try.sizeOf96
  v53 := Try.zeroValue96
  t55 := Try.underlying98
  a55 := Try.isAgg98
  z55 := Try.sizeOf98
  v55 := Try.zeroValue98
  t66 := Try.underlying100
  a66 := Try.isAgg100
  z66 := Try.sizeOf100
  v66 := Try.zeroValue100
  t70 := Try.underlying104
  a70 := Try.isAgg104
  z70 := Try.sizeOf104
  v70 := Try.zeroValue104
  t76 := Try.underlying106
  a76 := Try.isAgg106
  z76 := Try.sizeOf106
  v76 := Try.zeroValue106
  t77 := Try.underlying107
  a77 := Try.isAgg107
  z77 := Try.sizeOf107
  v77 := Try.zeroValue107 }
set_option maxHeartbeats 8000000 in
set_option maxRecDepth 100000 in
theorem impl_set_listD (k:Nat) (a0:Int) (r:List Int) (w:World) (h:impl_set_list.f k a0=some r) :
  Calls Try.prog 35 #[.int .i64 a0] w fun e w'=>∃ v0_:Value,e=.returned (v0_)∧Kd.R (Kd.int .i64) 3 w' w.heap.size (fun _=>True) v0_ r∧BelD w.heap.size w w':=by
 have HB:=qK (BelD.refl w.heap.size w);have H:(impl_set_list.l0 k a0 ([]:List Int) 0)=some r:=h;clear h;have H':=qK H;clear H;go_enter Try.func35,Try.ntmps35
 go_wp2
 go_loopg [3,4] k (fun kq v3 v4 w'=>∃ (x3_1:List Int) (x4_1:Int),v4=.int .i64 x4_1∧Aside0 (impl_set_list.l0 kq a0 x3_1 x4_1=some r)∧Aside0 (kq≤k)∧Aside0 (Kd.R (Kd.int .i64) 3 w' w.heap.size (fun _=>True) v3 x3_1)∧Aside0 (BelD w.heap.size w w'))
 case atStart=>exact ⟨(([]:List Int)),(0),(by first|rfl|(simp;done)|(simp [*];done)),H',⟨Nat.le_refl _⟩,⟨by first|exact Kd.R_nil _ _ _ _ _|exact Kd.N_nil _ _ _ _ _|exact Kd.V_nil _ _ _ _ _|exact Kd.Q_nil _ _ _ _ _|exact Kd.S_nil _ _ _ _ _⟩,⟨by repeat (first|(with_reducible first|exact HB.out|apply beld_alloc|apply beld_drewN|apply beld_drew1)|exact HB.out)⟩⟩
 case round =>
  clear H';obtain ⟨x3_1,x4_1,rfl,HA,HK1,HO_3,HB⟩:=hrel;cases gk with
  | zero=>exact absurd HA.out (by simp [impl_set_list.l0])
  | succ k1 =>
   have H:=HA.out;clear HA;simp only [impl_set_list.l0] at H;by_cases c2:0≤x4_1
   ·rw [if_pos c2] at H;have c2b0:=eq_true c2;have c2b1:decide (0≤x4_1)=true:=decide_eq_true c2;clear c2;obtain ⟨ji3,hji3⟩:∃ j_:Int,(shr .i64 a0 x4_1)=j_:=⟨_,rfl⟩;replace H:(if (ji3)=0 then (some x3_1) else (if (Go.bits .and .i64 (ji3) 1)=1 then (if x3_1.length < 17592186044416 then (impl_set_list.l0 k1 a0 (x3_1 ++ [x4_1]) (wrap64 (x4_1 + 1))) else (none)) else (impl_set_list.l0 k1 a0 x3_1 (wrap64 (x4_1 + 1)))))=some r:=by first|(rw [hji3] at H;exact H)|(simp only [hji3] at H ⊢;exact H)
    have hji3_:(a0 / 2 ^ min x4_1.toNat 64)=ji3:=hji3;have hji3z:x4_1≤64→(a0 / 2 ^ x4_1.toNat)=ji3:=shr_small hji3;by_cases c4:(ji3)=0
    ·rw [if_pos c4] at H;have c4b0:((ji3) == 0)=true:=beq_iff_eq.mpr c4;have c4b1:((ji3) != 0)=false:=bne_eq_false_iff_eq.mpr c4;clear c4;obtain rfl:=Option.some.inj H;go_wp2
     go_ret
     exact ⟨_,by first|rfl|(simp [errW_none,errW_some] <;> rfl)|(simp only [← hji3];first|rfl|(simp [errW_none,errW_some] <;> rfl))|(simp [*,errW_none,errW_some] <;> rfl),by (with_reducible repeat (first|apply rL|apply rN|apply rW));exact HO_3.out,by repeat (first|(with_reducible first|exact HB.out|apply beld_alloc|apply beld_drewN|apply beld_drew1)|exact HB.out)⟩
    ·rw [if_neg c4] at H;have c4b0:((ji3) == 0)=false:=beq_eq_false_iff_ne.mpr c4;have c4b1:((ji3) != 0)=true:=bne_iff_ne.mpr c4;have c5b0:=eq_true (of_decide_eq_true (by first|(with_reducible assumption)|assumption):0≤x4_1);by_cases c6:(Go.bits .and .i64 (ji3) 1)=1
     ·rw [if_pos c6] at H;have c6b0:((Go.bits .and .i64 (ji3) 1) == 1)=true:=beq_iff_eq.mpr c6;have c6b1:((Go.bits .and .i64 (ji3) 1) != 1)=false:=bne_eq_false_iff_eq.mpr c6;clear c6;by_cases c7:x3_1.length < 17592186044416
      ·rw [if_pos c7] at H;have LMc7:=qK c7;clear c7;obtain ⟨y255,hy255⟩:∃ y_:List Int,y_=(x3_1 ++ [x4_1]):=⟨_,rfl⟩;replace H:(impl_set_list.l0 k1 a0 y255 (wrap64 (x4_1 + 1)))=some r:=by first|(rw [hy255];with_reducible exact H)|(have H2_:=(Option.bind_some _ _).symm.trans H;rw [hy255];with_reducible exact H2_)|(have H2_:=(Option.bind_some _ _).symm.trans H;with_reducible exact H2_)|with_reducible exact H|(rw [hy255];exact H)|exact H
       have Ny255:=qK hy255;clear hy255;have H':=qK H;clear H;go_wp2_with (first|((with_reducible refine gate_builtin (b:=.append) (xs:=#[.tmp 16,.tmp 18]) rfl ?_);at_builtin;refine appD (w0:=w) w.heap.size rfl (.tmp 16) (.tmp 18) 23 3 (.int .i64 0) 8 rfl Try.underlying23 info3 rfl (by decide) u3 x3_1 x4_1 rfl rfl ?aO ?aB ?aS ?aL ?_;(case aB=>exact (by repeat (with_reducible first|exact HB.out|apply beld_alloc|apply beld_drewN|apply beld_drew1)));(case aO=>exact (by (with_reducible repeat (first|apply rL|apply rN|apply rW));exact HO_3.out));(case aS=>exact (beld_size (by repeat (with_reducible first|exact HB.out|apply beld_alloc|apply beld_drewN|apply beld_drew1))));(case aL=>have:=LMc7.out;omega);intro v256 w8 ho hb;rw [← Ny255.out] at ho;have n0_:=qK (hb);have n1_:=qK (ho);clear HB;clear HO_3;have HB:=n0_;have HO257:=n1_;clear n0_ n1_;clear ho hb))
       go_roundg k1
       case measure=>have:=HK1.out;omega
       case rel=>exact ⟨(y255),(wrap64 (x4_1 + 1)),(by first|rfl|(simp;done)|(simp [*];done)),H',⟨by have:=HK1.out;omega⟩,⟨by (with_reducible repeat (first|apply rL|apply rN|apply rW));exact HO257.out⟩,⟨by repeat (first|(with_reducible first|exact HB.out|apply beld_alloc|apply beld_drewN|apply beld_drew1)|exact HB.out)⟩⟩
      ·rw [if_neg c7] at H;exact absurd H (by simp)
     ·rw [if_neg c6] at H;have c6b0:((Go.bits .and .i64 (ji3) 1) == 1)=false:=beq_eq_false_iff_ne.mpr c6;have c6b1:((Go.bits .and .i64 (ji3) 1) != 1)=true:=bne_iff_ne.mpr c6;have H':=qK H;clear H;go_wp2
      go_roundg k1
      case measure=>have:=HK1.out;omega
      case rel=>exact ⟨(x3_1),(wrap64 (x4_1 + 1)),(by first|rfl|(simp;done)|(simp [*];done)),H',⟨by have:=HK1.out;omega⟩,⟨by (with_reducible repeat (first|apply rL|apply rN|apply rW));exact HO_3.out⟩,⟨by repeat (first|(with_reducible first|exact HB.out|apply beld_alloc|apply beld_drewN|apply beld_drew1)|exact HB.out)⟩⟩
   ·rw [if_neg c2] at H;exact absurd H (by simp)
set_option maxHeartbeats 8000000 in
set_option maxRecDepth 100000 in
theorem impl_compareSetsD (k:Nat) (a0:Int) (a1:Int) (r:Int) (w:World) (h:impl_compareSets.f k a0 a1=some r) :
  Calls Try.prog 55 #[.int .i64 a0,.int .i64 a1] w fun e w'=>e=.returned (.int .i64 r)∧BelD w.heap.size w w':=by
 have HB:=qK (BelD.refl w.heap.size w);have H:((impl_set_list.f k a0).bind fun t264=>((impl_set_list.f k a1).bind fun t267=>((cmp_Compare_int.f (t264.length:Int) (t267.length:Int)).bind fun t270=>((slices_Compare_int_int.f k t264 t267).bind fun t271=>((cmp_Or_int.f k (([t270,t271]:List Int))).bind fun t275=>(some t275))))))=some r:=h;clear h;replace H:=Option.bind_eq_some_iff.mp H;obtain ⟨t264,A30,H⟩:=H;replace H:((impl_set_list.f k a1).bind fun t267=>((cmp_Compare_int.f (t264.length:Int) (t267.length:Int)).bind fun t270=>((slices_Compare_int_int.f k t264 t267).bind fun t271=>((cmp_Or_int.f k (([t270,t271]:List Int))).bind fun t275=>(some t275)))))=some r:=H;have A3:=qK A30;clear A30;replace H:=Option.bind_eq_some_iff.mp H;obtain ⟨t267,A40,H⟩:=H;replace H:((cmp_Compare_int.f (t264.length:Int) (t267.length:Int)).bind fun t270=>((slices_Compare_int_int.f k t264 t267).bind fun t271=>((cmp_Or_int.f k (([t270,t271]:List Int))).bind fun t275=>(some t275))))=some r:=H;have A4:=qK A40;clear A40;replace H:=Option.bind_eq_some_iff.mp H;obtain ⟨t270,A50,H⟩:=H;replace H:((slices_Compare_int_int.f k t264 t267).bind fun t271=>((cmp_Or_int.f k (([t270,t271]:List Int))).bind fun t275=>(some t275)))=some r:=H;have A5:=qK A50;clear A50;replace H:=Option.bind_eq_some_iff.mp H;obtain ⟨t271,A60,H⟩:=H;replace H:((cmp_Or_int.f k (([t270,t271]:List Int))).bind fun t275=>(some t275))=some r:=H;have A6:=qK A60;clear A60;obtain ⟨y272,hy272⟩:∃ y_:List Int,y_=(([t270,t271]:List Int)):=⟨_,rfl⟩;replace H:((cmp_Or_int.f k y272).bind fun t275=>(some t275))=some r:=by first|(rw [hy272];with_reducible exact H)|(have H2_:=(Option.bind_some _ _).symm.trans H;rw [hy272];with_reducible exact H2_)|(have H2_:=(Option.bind_some _ _).symm.trans H;with_reducible exact H2_)|with_reducible exact H|(rw [hy272];exact H)|exact H
 have Ny272:=qK hy272;clear hy272;replace H:=Option.bind_eq_some_iff.mp H;obtain ⟨t275,A70,H⟩:=H;replace H:(some t275)=some r:=H;have A7:=qK A70;clear A70;obtain rfl:=Option.some.inj H;go_enter Try.func55,Try.ntmps55
 go_wp2_with (first|((with_reducible refine gate_callee (f:=35) rfl ?_);refine goesL_ (some 8) rfl rfl Try.func35 (by kernel_rfl) rfl #[.int .i64 a0] rfl (by (try simp only [mT,mC,mN]);first|done|rfl|(simp only [lD,lT];rfl)) ?_;(with_reducible refine (impl_set_listD k a0 t264 _ A3.out).mono ?_);rintro e w8 ⟨v265,rfl,ho0,hb⟩;refine ⟨_,rfl,?_⟩;have n0_:=qK (Kd.R_lower ho0 (beld_size (by repeat (with_reducible first|exact HB.out|apply beld_alloc|apply beld_drewN|apply beld_drew1))));have n1_:=qK (beld_step (by repeat (with_reducible first|exact HB.out|apply beld_alloc|apply beld_drewN|apply beld_drew1)) hb);clear HB;have HO266:=n0_;have HB:=n1_;clear n0_ n1_;(try clear hb);(try clear ho0))|((with_reducible refine gate_callee (f:=35) rfl ?_);refine goesL_ (some 10) rfl rfl Try.func35 (by kernel_rfl) rfl #[.int .i64 a1] rfl (by (try simp only [mT,mC,mN]);first|done|rfl|(simp only [lD,lT];rfl)) ?_;(with_reducible refine (impl_set_listD k a1 t267 _ A4.out).mono ?_);rintro e w9 ⟨v268,rfl,ho0,hb⟩;refine ⟨_,rfl,?_⟩;have n0_:=qK (Kd.R_elder' (by (with_reducible repeat (first|apply rL|apply rN|apply rW));exact HO266.out) (Kd.R_base ho0) hb.1);have n1_:=qK (Kd.R_lower (Kd.R_new' ho0 (Kd.R_lt (by (with_reducible repeat (first|apply rL|apply rN|apply rW));exact HO266.out))) (beld_size (by repeat (with_reducible first|exact HB.out|apply beld_alloc|apply beld_drewN|apply beld_drew1))));have n2_:=qK (beld_step (by repeat (with_reducible first|exact HB.out|apply beld_alloc|apply beld_drewN|apply beld_drew1)) hb);clear HO266;clear HB;have HO266:=n0_;have HO269:=n1_;have HB:=n2_;clear n0_ n1_ n2_;(try clear hb);(try clear ho0);obtain ⟨Ao10,co10,eo10⟩:=Kd.R_slice HO266.out;subst eo10;obtain ⟨Ao11,co11,eo11⟩:=Kd.R_slice HO269.out;subst eo11)|((with_reducible refine gate_callee (f:=66) rfl ?_);refine goesL_ (some 15) rfl rfl Try.func66 (by kernel_rfl) rfl #[.int .i64 (t264.length:Int),.int .i64 (t267.length:Int)] rfl (by (try simp only [mT,mC,mN]);first|done|rfl|(simp only [lD,lT];rfl)) ?_;(with_reducible refine (cmp_Compare_int.calls (t264.length:Int) (t267.length:Int) t270 _ A5.out).mono ?_);rintro e w' ⟨rfl,⟨nd,rfl⟩⟩;refine ⟨_,rfl,?_⟩)|((with_reducible refine gate_callee (f:=67) rfl ?_);refine goesL_ (some 18) rfl rfl Try.func67 (by kernel_rfl) rfl #[.slice Ao10 t264.length co10,.slice Ao11 t267.length co11] rfl (by (try simp only [mT,mC,mN]);first|done|rfl|(simp only [lD,lT];rfl)) ?_;(with_reducible refine (slices_Compare_int_int.calls k _ _ t264 _ _ t267 t271 _ ?side1 ?side2 ?side3 ?side4 A6.out).mono ?_);(case side1=>repeat (first|exact (Kd.R_reads' HO266.out).2.2|(with_reducible first|refine cL ?_ _|refine cN ?_ _|refine cW ?_)));(case side2=>exact (Kd.R_reads' HO266.out).2.1);(case side3=>repeat (first|exact (Kd.R_reads' HO269.out).2.2|(with_reducible first|refine cL ?_ _|refine cN ?_ _|refine cW ?_)));(case side4=>exact (Kd.R_reads' HO269.out).2.1);rintro e w' ⟨rfl,⟨nd,rfl⟩⟩;refine ⟨_,rfl,?_⟩)|((with_reducible refine gate_dst (N:=19) rfl ?_);refine litD _ 3 ?hg (N:=19) ?hd (xs:=([t270,t271]:List Int)) (inner:=[.int .i64 t270,.int .i64 t271]) (ok:=fun _=>True) ?hr ?hp trivial (BelD.refl _ _) (Nat.le_refl _) (by simp) ?_;(case hd=>rfl);(case hg=>rfl);(case hr=>(go_simp;try rfl));(case hp=>exact rfl);intro v273 w12 ho13 hb hg_ hnew_;clear hg_ hnew_;(first|rw [← Ny272.out] at ho13|(simp only [Int.reduceToNat] at ho13;rw [← Ny272.out] at ho13));have n0_:=qK (Kd.R_elder' (by (with_reducible repeat (first|apply rL|apply rN|apply rW));exact HO266.out) (Kd.R_base ho13) hb.1);have n1_:=qK (Kd.R_elder' (by (with_reducible repeat (first|apply rL|apply rN|apply rW));exact HO269.out) (Kd.R_base ho13) hb.1);have n2_:=qK (Kd.R_lower (Kd.R_new' (Kd.R_new' ho13 (Kd.R_lt (by (with_reducible repeat (first|apply rL|apply rN|apply rW));exact HO266.out))) (Kd.R_lt (by (with_reducible repeat (first|apply rL|apply rN|apply rW));exact HO269.out))) (beld_size (by repeat (with_reducible first|exact HB.out|apply beld_alloc|apply beld_drewN|apply beld_drew1))));have n3_:=qK (beld_step (by repeat (with_reducible first|exact HB.out|apply beld_alloc|apply beld_drewN|apply beld_drew1)) hb);clear HO266;clear HO269;clear HB;have HO266:=n0_;have HO269:=n1_;have HO274:=n2_;have HB:=n3_;clear n0_ n1_ n2_ n3_;clear hb ho13;obtain ⟨Ao14,co14,eo14⟩:=Kd.R_slice HO274.out;subst eo14)|((with_reducible refine gate_callee (f:=65) rfl ?_);refine goesL_ (some 20) rfl rfl Try.func65 (by kernel_rfl) rfl #[.slice Ao14 y272.length co14] rfl (by (try simp only [mT,mC,mN]);first|done|rfl|(simp only [lD,lT];rfl)) ?_;(with_reducible refine (cmp_Or_int.calls k _ _ y272 t275 _ ?side1 ?side2 A7.out).mono ?_);(case side1=>repeat (first|exact (Kd.R_reads' HO274.out).2.2|(with_reducible first|refine cL ?_ _|refine cN ?_ _|refine cW ?_)));(case side2=>exact (Kd.R_reads' HO274.out).2.1);rintro e w' ⟨rfl,⟨nd,rfl⟩⟩;refine ⟨_,rfl,?_⟩))
 go_ret
 exact ⟨by first|rfl|(simp [errW_none,errW_some] <;> rfl)|(simp [*,errW_none,errW_some] <;> rfl),by repeat (first|(with_reducible first|exact HB.out|apply beld_alloc|apply beld_drewN|apply beld_drew1)|exact HB.out)⟩
/-- How two sets compare: what the program's own function says of them. -/
def cfP (x y:Fin 64):Int:=(impl_compareSets.f 20 (x.val:Int) (y.val:Int)).getD 0
/-- A set's place in that order: how many it holds, then its members from the least on. -/
def rankP (x:Fin 64):Nat:=((List.range 6).filter fun k=>x.val.testBit k).length * 64 + (63 - ((List.range 6).filter fun k=>x.val.testBit k).foldl (fun s k=>s + 2 ^ (5 - k)) 0)
theorem cfP_some : ∀ x y:Fin 64,impl_compareSets.f 20 (x.val:Int) (y.val:Int)=some (cfP x y):=by
 have h:∀ x y:Fin 64,(impl_compareSets.f 20 (x.val:Int) (y.val:Int)).isSome=true:=by decide +kernel
 intro x y;unfold cfP
 cases e:impl_compareSets.f 20 (x.val:Int) (y.val:Int) with
 | none=>have:=h x y;rw [e] at this;cases this
 | some z=>rfl
theorem ltP : ∀ x y:Fin 64,Go.Proofs.ltOf cfP x y=decide (rankP x < rankP y):=by decide +kernel
theorem rankP_inj : ∀ x y:Fin 64,rankP x=rankP y→x=y:=by decide +kernel
theorem swoP : Go.Sort.SWO (Go.Proofs.ltOf cfP):=by
 refine ⟨fun x=>?_,fun x y z=>?_,fun x y z=>?_⟩
 ·rw [ltP];simp
 ·rw [ltP,ltP,ltP];simp only [decide_eq_true_eq];omega
 ·rw [ltP,ltP,ltP];simp only [decide_eq_false_iff_not];omega
theorem totP (x y:Fin 64) (h1:Go.Proofs.ltOf cfP x y=false) (h2:Go.Proofs.ltOf cfP y x=false):x=y:=by
 rw [ltP] at h1 h2;simp only [decide_eq_false_iff_not] at h1 h2;exact rankP_inj x y (by omega)
def sortP (l:List Int):Option (List Int):=if 0 < l.length∧l.length≤1000∧(l.all fun x=>decide (0≤x∧x < 64))=true then some (sortS cfP l) else none
theorem sort_parts.calls (u:Value) (l r:List Int) (w0 w:World) (hB:Below w0.heap.size w0 w) (ho0:Kd.R (Kd.int .i64) 52 w w0.heap.size (fun _=>True) u l) (h:sortP l=some r) :
  Calls Try.prog 54 #[u,.func (.func 55) #[] #[]] w fun e w'=>e=.returned (.tuple #[])∧Kd.R (Kd.int .i64) 52 w' w0.heap.size (fun _=>True) u r∧Below w0.heap.size w0 w':=by
 unfold sortP at h
 by_cases hl:0 < l.length∧l.length≤1000∧(l.all fun x=>decide (0≤x∧x < 64))=true
 ·rw [if_pos hl] at h;obtain rfl:=Option.some.inj h;obtain ⟨h0,h1,h2⟩:=hl;exact sort_R sortL cfP swoP totP 55 (enters_of Try.func55 (by kernel_rfl) rfl) (fun W x y=>impl_compareSetsD 20 _ _ _ W (cfP_some x y)) ho0 h0 (by omega) (fun x hx=>by simpa using List.all_eq_true.1 h2 x hx) hB
 ·rw [if_neg hl] at h;cases h
def impl_partsOf.l0 : Nat→Int→List Int→Int→Option (List Int)
 | 0,_,_,_=>none
 | k + 1,x0,x3,x4=>if x4≤x0 then ((impl_set_has.f x0 x4).bind fun t276=>(if t276=true then (if x3.length < 17592186044416 then (impl_partsOf.l0 k x0 (x3 ++ [x4]) (wrap64 (x4 + 1))) else (none)) else (impl_partsOf.l0 k x0 x3 (wrap64 (x4 + 1))))) else (some x3)
def impl_partsOf.f (k:Nat) (a0:Int):Option (List Int):=(impl_partsOf.l0 k a0 ([]:List Int) 0).bind fun q=>sortP q
theorem impl_partsOf.mono_l : ∀ k,(∀ y0 y1 y2,LeO (impl_partsOf.l0 k y0 y1 y2) (impl_partsOf.l0 (k + 1) y0 y1 y2))
 | 0=>fun _ _ _ r h=>by simp [impl_partsOf.l0] at h
 | k + 1=>by
  have ih0:=impl_partsOf.mono_l k
  ·intro y0 y1 y2;unfold impl_partsOf.l0
   repeat' first
   | (with_reducible exact ih0 _ _ _)
   | (with_reducible exact LeO.refl _)
   | (with_reducible exact LeO.none _)
   | (with_reducible refine LeO.ite ?_ ?_)
   | (with_reducible refine LeO.bind ?_ (fun _=>?_))
   | exact ih0 _ _ _
   | exact LeO.none _
   | refine LeO.ite ?_ ?_
   | refine LeO.bind ?_ (fun _=>?_)
theorem impl_partsOf.mono : ∀ a0 k,LeO (impl_partsOf.f k a0) (impl_partsOf.f (k + 1) a0):=by
 intro a0 k;have ih0:=impl_partsOf.mono_l k;unfold impl_partsOf.f
 repeat' first
   | (with_reducible exact ih0 _ _ _)
   | (with_reducible exact LeO.refl _)
   | (with_reducible exact LeO.none _)
   | (with_reducible refine LeO.ite ?_ ?_)
   | (with_reducible refine LeO.bind ?_ (fun _=>?_))
   | exact ih0 _ _ _
   | exact LeO.none _
   | refine LeO.ite ?_ ?_
   | refine LeO.bind ?_ (fun _=>?_)
set_option maxHeartbeats 8000000 in
set_option maxRecDepth 100000 in
theorem impl_partsOf.calls (k:Nat) (a0:Int) (r:List Int) (w:World) (h:impl_partsOf.f k a0=some r) :
  Calls Try.prog 30 #[.int .i64 a0] w fun e w'=>∃ v0_:Value,e=.returned (v0_)∧Kd.R (Kd.int .i64) 52 w' w.heap.size (fun _=>True) v0_ r∧Below w.heap.size w w':=by
 have HB:=qK (Below.refl w.heap.size w);obtain ⟨q,H,hS0⟩:=Option.bind_eq_some_iff.1 h;have HS:=qK hS0;clear hS0 h;have H':=qK H;clear H;go_enter Try.func30,Try.ntmps30
 go_wp2
 go_loopg [3,4] k (fun kq v3 v4 w'=>∃ (x3_1:List Int) (x4_1:Int),v4=.int .i64 x4_1∧Aside0 (impl_partsOf.l0 kq a0 x3_1 x4_1=some q)∧Aside0 (kq≤k)∧Aside0 (Kd.R (Kd.int .i64) 52 w' w.heap.size (fun _=>True) v3 x3_1)∧Aside0 (Below w.heap.size w w'))
 case atStart=>exact ⟨(([]:List Int)),(0),(by first|rfl|(simp;done)|(simp [*];done)),H',⟨Nat.le_refl _⟩,⟨by first|exact Kd.R_nil _ _ _ _ _|exact Kd.N_nil _ _ _ _ _|exact Kd.V_nil _ _ _ _ _|exact Kd.Q_nil _ _ _ _ _|exact Kd.S_nil _ _ _ _ _⟩,⟨by repeat (first|(with_reducible first|exact HB.out|apply qA|apply qD|apply qO)|exact HB.out)⟩⟩
 case round =>
  clear H';obtain ⟨x3_1,x4_1,rfl,HA,HK1,HO_3,HB⟩:=hrel;cases gk with
  | zero=>exact absurd HA.out (by simp [impl_partsOf.l0])
  | succ k1 =>
   have H:=HA.out;clear HA;simp only [impl_partsOf.l0] at H;by_cases c2:x4_1≤a0
   ·rw [if_pos c2] at H;have c2b0:decide (x4_1≤a0)=true:=decide_eq_true c2;clear c2;replace H:=Option.bind_eq_some_iff.mp H;obtain ⟨t276,A30,H⟩:=H;replace H:(if t276=true then (if x3_1.length < 17592186044416 then (impl_partsOf.l0 k1 a0 (x3_1 ++ [x4_1]) (wrap64 (x4_1 + 1))) else (none)) else (impl_partsOf.l0 k1 a0 x3_1 (wrap64 (x4_1 + 1))))=some q:=H;have A3:=qK A30;clear A30;by_cases c4:t276=true
    ·subst c4;have H1:(if x3_1.length < 17592186044416 then (impl_partsOf.l0 k1 a0 (x3_1 ++ [x4_1]) (wrap64 (x4_1 + 1))) else (none))=some q:=by rw [if_pos rfl] at H;exact H
     clear H;have H:=H1;clear H1;by_cases c5:x3_1.length < 17592186044416
     ·rw [if_pos c5] at H;have LMc5:=qK c5;clear c5;obtain ⟨y277,hy277⟩:∃ y_:List Int,y_=(x3_1 ++ [x4_1]):=⟨_,rfl⟩;replace H:(impl_partsOf.l0 k1 a0 y277 (wrap64 (x4_1 + 1)))=some q:=by first|(rw [hy277];with_reducible exact H)|(have H2_:=(Option.bind_some _ _).symm.trans H;rw [hy277];with_reducible exact H2_)|(have H2_:=(Option.bind_some _ _).symm.trans H;with_reducible exact H2_)|with_reducible exact H|(rw [hy277];exact H)|exact H
      have Ny277:=qK hy277;clear hy277;have H':=qK H;clear H;go_wp2_with (first|((with_reducible refine gate_callee (f:=34) rfl ?_);refine goesL_ (some 12) rfl rfl Try.func34 (by kernel_rfl) rfl #[.int .i64 a0,.int .i64 x4_1] rfl (by (try simp only [mT,mC,mN]);first|done|rfl|(simp only [lD,lT];rfl)) ?_;(with_reducible refine (impl_set_has.calls a0 x4_1 true _ A3.out).mono ?_);rintro e w' ⟨rfl,⟨nd,rfl⟩⟩;refine ⟨_,rfl,?_⟩)|((with_reducible refine gate_builtin (b:=.append) (xs:=#[.tmp 13,.tmp 15]) rfl ?_);at_builtin;refine Kd.R_append (Kd.int .i64) (w0:=w) w.heap.size rfl (.tmp 13) (.tmp 15) 56 52 (.int .i64 0) 8 rfl Try.underlying56 info52 rfl (by decide) (by omega) u3 x3_1 x4_1 [.int .i64 x4_1] (fun _=>True) (fun _=>False) rfl rfl ?aP (fun _ hk=>hk.elim) ?aF ?aO ?aB ?aS ?aL ?_;(case aP=>exact rfl);(case aB=>exact (by repeat (with_reducible first|exact HB.out|apply qA|apply qD|apply qO)));(case aF=>exact (fun _ _=>trivial));(case aO=>exact (by (with_reducible repeat (first|apply rL|apply rN|apply rW));exact HO_3.out));(case aS=>exact (qZ (by repeat (with_reducible first|exact HB.out|apply qA|apply qD|apply qO))));(case aL=>have:=LMc5.out;omega);intro v278 w6 ho hb hg hat;rw [← Ny277.out] at ho;have n0_:=qK (hb);have n1_:=qK (ho);clear HB;clear HO_3;have HB:=n0_;have HO279:=n1_;clear n0_ n1_;clear ho hb hg hat))
      go_roundg k1
      case measure=>have:=HK1.out;omega
      case rel=>exact ⟨(y277),(wrap64 (x4_1 + 1)),(by first|rfl|(simp;done)|(simp [*];done)),H',⟨by have:=HK1.out;omega⟩,⟨by (with_reducible repeat (first|apply rL|apply rN|apply rW));exact HO279.out⟩,⟨by repeat (first|(with_reducible first|exact HB.out|apply qA|apply qD|apply qO)|exact HB.out)⟩⟩
     ·rw [if_neg c5] at H;exact absurd H (by simp)
    ·replace c4:=Bool.eq_false_iff.mpr c4;subst c4;have H1:(impl_partsOf.l0 k1 a0 x3_1 (wrap64 (x4_1 + 1)))=some q:=by rw [if_neg (show ¬ (false=true) by decide)] at H;exact H
     clear H;have H:=H1;clear H1;have H':=qK H;clear H;go_wp2_with (first|((with_reducible refine gate_callee (f:=34) rfl ?_);refine goesL_ (some 12) rfl rfl Try.func34 (by kernel_rfl) rfl #[.int .i64 a0,.int .i64 x4_1] rfl (by (try simp only [mT,mC,mN]);first|done|rfl|(simp only [lD,lT];rfl)) ?_;(with_reducible refine (impl_set_has.calls a0 x4_1 false _ A3.out).mono ?_);rintro e w' ⟨rfl,⟨nd,rfl⟩⟩;refine ⟨_,rfl,?_⟩))
     go_roundg k1
     case measure=>have:=HK1.out;omega
     case rel=>exact ⟨(x3_1),(wrap64 (x4_1 + 1)),(by first|rfl|(simp;done)|(simp [*];done)),H',⟨by have:=HK1.out;omega⟩,⟨by (with_reducible repeat (first|apply rL|apply rN|apply rW));exact HO_3.out⟩,⟨by repeat (first|(with_reducible first|exact HB.out|apply qA|apply qD|apply qO)|exact HB.out)⟩⟩
   ·rw [if_neg c2] at H;have c2b0:decide (x4_1≤a0)=false:=decide_eq_false c2;clear c2;have HS2:=qK (show sortP x3_1=some r by rw [Option.some.inj H];exact HS.out);clear H;go_wp2_with (first|((with_reducible refine gate_callee (f:=54) rfl ?_);refine goesL_ (some 18) rfl rfl Try.func54 (by kernel_rfl) rfl #[u3,.func (.func 55) #[] #[]] rfl (by (try simp only [mT,mC,mN]);first|done|rfl|(simp only [lD,lT];rfl)) ?_;(with_reducible refine (sort_parts.calls u3 x3_1 r w _ ?side1 ?side2 HS2.out).mono ?_);(case side1=>exact (by repeat (with_reducible first|exact HB.out|apply qA|apply qD|apply qO)));(case side2=>(with_reducible repeat (first|apply rL|apply rN|apply rW));exact HO_3.out);rintro e w9 ⟨rfl,ho0,hb⟩;refine ⟨_,rfl,?_⟩;have n0_:=qK ho0;have n1_:=qK hb;clear HB HO_3;have HO_3:=n0_;have HB:=n1_;clear n0_ n1_ hb ho0))
    go_ret
    exact ⟨_,by first|rfl|(simp [errW_none,errW_some] <;> rfl)|(simp [*,errW_none,errW_some] <;> rfl),by (with_reducible repeat (first|apply rL|apply rN|apply rW));exact HO_3.out,by repeat (first|(with_reducible first|exact HB.out|apply qA|apply qD|apply qO)|exact HB.out)⟩

/-! ### impl_closure: function 32 -/
mutual
def impl_closure.l0 : Nat→List (S72)→Int→Option (Int)
 | 0,_,_=>none
 | k + 1,x0,x1=>impl_closure.l1 k x0 x1 x1 x0 (x0.length:Int) 0
def impl_closure.l1 : Nat→List (S72)→Int→Int→List (S72)→Int→Int→Option (Int)
 | 0,_,_,_,_,_,_=>none
 | k + 1,x0,x1,x5,x9,x10,x11=>if x11 < x10 then (if 0≤x11 then (if x11 < (x9.length:Int) then ((impl_set_has.f x5 ((rd_T72 x9 x11).f0)).bind fun t264=>(if t264=true then (impl_closure.l1 k x0 x1 (Go.bits .or .i64 x5 ((rd_T72 x9 x11).f1)) x9 x10 (wrap64 (x11 + 1))) else (impl_closure.l1 k x0 x1 x5 x9 x10 (wrap64 (x11 + 1))))) else (none)) else (none)) else (if x5=x1 then (some x1) else (impl_closure.l0 k x0 x5))
end
def impl_closure.f (k:Nat) (l0:List (S72)) (a1:Int):Option (Int):=impl_closure.l0 k l0 a1
theorem impl_closure.mono_l : ∀ k,(∀ y0 y1,LeO (impl_closure.l0 k y0 y1) (impl_closure.l0 (k + 1) y0 y1))∧(∀ y0 y1 y2 y3 y4 y5,LeO (impl_closure.l1 k y0 y1 y2 y3 y4 y5) (impl_closure.l1 (k + 1) y0 y1 y2 y3 y4 y5))
 | 0=>⟨fun _ _ r h=>by simp [impl_closure.l0] at h,fun _ _ _ _ _ _ r h=>by simp [impl_closure.l1] at h⟩
 | k + 1=>by
  obtain ⟨ih0,ih1⟩:=impl_closure.mono_l k;refine ⟨?_,?_⟩
  ·intro y0 y1;unfold impl_closure.l0
   repeat' first
   | (with_reducible exact ih0 _ _)
   | (with_reducible exact ih1 _ _ _ _ _ _)
   | (with_reducible exact LeO.refl _)
   | (with_reducible exact LeO.none _)
   | (with_reducible refine LeO.ite ?_ ?_)
   | (with_reducible refine LeO.bind ?_ (fun _=>?_))
   | exact ih0 _ _
   | exact ih1 _ _ _ _ _ _
   | exact LeO.none _
   | refine LeO.ite ?_ ?_
   | refine LeO.bind ?_ (fun _=>?_)
  ·intro y0 y1 y2 y3 y4 y5;unfold impl_closure.l1
   repeat' first
   | (with_reducible exact ih0 _ _)
   | (with_reducible exact ih1 _ _ _ _ _ _)
   | (with_reducible exact LeO.refl _)
   | (with_reducible exact LeO.none _)
   | (with_reducible refine LeO.ite ?_ ?_)
   | (with_reducible refine LeO.bind ?_ (fun _=>?_))
   | exact ih0 _ _
   | exact ih1 _ _ _ _ _ _
   | exact LeO.none _
   | refine LeO.ite ?_ ?_
   | refine LeO.bind ?_ (fun _=>?_)
theorem impl_closure.mono : ∀ a0 a1 k,LeO (impl_closure.f k a0 a1) (impl_closure.f (k + 1) a0 a1):=by
 intro a0 a1 k;obtain ⟨ih0,ih1⟩:=impl_closure.mono_l k;unfold impl_closure.f
 repeat' first
   | (with_reducible exact ih0 _ _)
   | (with_reducible exact ih1 _ _ _ _ _ _)
   | (with_reducible exact LeO.refl _)
   | (with_reducible exact LeO.none _)
   | (with_reducible refine LeO.ite ?_ ?_)
   | (with_reducible refine LeO.bind ?_ (fun _=>?_))
   | exact ih0 _ _
   | exact ih1 _ _ _ _ _ _
   | exact LeO.none _
   | refine LeO.ite ?_ ?_
   | refine LeO.bind ?_ (fun _=>?_)
set_option maxHeartbeats 8000000 in
set_option maxRecDepth 100000 in
theorem impl_closure.calls (k:Nat) (A0:Option Addr) (c0:Nat) (l0:List (S72)) (a1:Int) (r:Int) (w:World) (hr0:Kd.C k72 w A0 l0.length l0) (hc0:l0.length≤c0) (h:impl_closure.f k l0 a1=some r) :
  Calls Try.prog 32 #[.slice A0 l0.length c0,.int .i64 a1] w fun e w'=>e=.returned (.int .i64 r)∧Below w.heap.size w w':=by
 have hu72:=Try.underlying72;have HR0:=qK hr0;have HC0:=qK hc0;clear hr0 hc0;have HB:=qK (Below.refl w.heap.size w);have H:(impl_closure.l0 k l0 a1)=some r:=h;clear h;have H':=qK H;clear H;go_enter Try.func32,Try.ntmps32
 go_wp2
 go_loopg [1] k (fun kq v1 w'=>∃ (x1_1:Int),v1=.int .i64 x1_1∧Aside0 (impl_closure.l0 kq l0 x1_1=some r)∧Aside0 (kq≤k)∧Aside0 (Below w.heap.size w w'))
 case atStart=>exact ⟨(a1),(by first|rfl|(simp;done)|(simp [*];done)),H',⟨Nat.le_refl _⟩,⟨by repeat (first|(with_reducible first|exact HB.out|apply qA|apply qD|apply qO)|exact HB.out)⟩⟩
 case round =>
  clear H';try clear p2
  obtain ⟨x1_1,rfl,HA,HK1,HB⟩:=hrel;cases gk with
  | zero=>exact absurd HA.out (by simp [impl_closure.l0])
  | succ k1 =>
   have H:=HA.out;clear HA;simp only [impl_closure.l0] at H;have H':=qK H;clear H;go_wp2
   go_loopg [5,11] k1 (fun kq v5 v11 w'=>∃ (x5_2:Int) (x11_2:Int),v5=.int .i64 x5_2∧v11=.int .i64 x11_2∧Aside0 (impl_closure.l1 kq l0 x1_1 x5_2 l0 (l0.length:Int) x11_2=some r)∧Aside0 (kq≤k1)∧Aside0 (Below w.heap.size w w'))
   case atStart=>exact ⟨(x1_1),(0),(by first|rfl|(simp;done)|(simp [*];done)),(by first|rfl|(simp;done)|(simp [*];done)),H',⟨Nat.le_refl _⟩,⟨by repeat (first|(with_reducible first|exact HB.out|apply qA|apply qD|apply qO)|exact HB.out)⟩⟩
   case round =>
    clear H';try clear p2
    try clear p2
    obtain ⟨x5_2,x11_2,rfl,rfl,HA,HK2,HB⟩:=hrel;cases gk with
    | zero=>exact absurd HA.out (by simp [impl_closure.l1])
    | succ k2 =>
     have H:=HA.out;clear HA;simp only [impl_closure.l1] at H;by_cases c3:x11_2 < (l0.length:Int)
     ·rw [if_pos c3] at H;have c3b0:decide (x11_2 < (l0.length:Int))=true:=decide_eq_true c3;clear c3;by_cases c4:0≤x11_2
      ·rw [if_pos c4] at H;have c4b0:decide (0≤x11_2)=true:=decide_eq_true c4;clear c4;by_cases c5:x11_2 < (l0.length:Int)
       ·rw [if_pos c5] at H;have c5b0:decide (x11_2 < (l0.length:Int))=true:=decide_eq_true c5;clear c5;replace H:=Option.bind_eq_some_iff.mp H;obtain ⟨t264,A60,H⟩:=H;replace H:(if t264=true then (impl_closure.l1 k2 l0 x1_1 (Go.bits .or .i64 x5_2 ((rd_T72 l0 x11_2).f1)) l0 (l0.length:Int) (wrap64 (x11_2 + 1))) else (impl_closure.l1 k2 l0 x1_1 x5_2 l0 (l0.length:Int) (wrap64 (x11_2 + 1))))=some r:=H;have A6:=qK A60;clear A60;by_cases c7:t264=true
        ·subst c7;have H1:(impl_closure.l1 k2 l0 x1_1 (Go.bits .or .i64 x5_2 ((rd_T72 l0 x11_2).f1)) l0 (l0.length:Int) (wrap64 (x11_2 + 1)))=some r:=by rw [if_pos rfl] at H;exact H
         clear H;have H:=H1;clear H1;have H':=qK H;clear H;have p262:0≤(x11_2:Int):=of_decide_eq_true (by first|(with_reducible assumption)|assumption);have q262:x11_2 < (l0.length:Int):=of_decide_eq_true (by first|(with_reducible assumption)|assumption);obtain ⟨ad262,e262,hx262_0,hx262_1⟩:=at_T72 HR0.out x11_2 p262 q262;cases e262
         replace hx262_0:=(HB.out.cell (World.block_lt_of_cell? w _ hx262_0)).trans hx262_0;replace hx262_1:=(HB.out.cell (World.block_lt_of_cell? w _ hx262_1)).trans hx262_1;replace p262:=eq_true p262;replace q262:=eq_true q262;go_wp2_with (first|((with_reducible refine gate_dst (N:=7) rfl ?_);refine box_event ?hg (N:=7) ?hd (cs:=#[.int .i64 0,.int .i64 0]) (t:=72) ?hr ?_;(case hd=>rfl);(case hg=>rfl);(case hr=>(go_simp;try rfl));intro gb263 hg w8 hbox hb;have n0_:=qK (qT (by repeat (with_reducible first|exact HB.out|apply qA|apply qD|apply qO)) hb);have n1_:=qK (hbox);have n2_:=qK ((by rw [hg];exact (qZ (by repeat (with_reducible first|exact HB.out|apply qA|apply qD|apply qO))):w.heap.size≤gb263));have n3_:=qK ((by rw [hg];exact (qZ (by repeat (with_reducible first|exact HB.out|apply qA|apply qD|apply qO))):w.heap.size≤gb263));clear HB;have HB:=n0_;have BK263:=n1_;have GW263:=n2_;have GE263:=n3_;clear n0_ n1_ n2_ n3_;clear hb hbox hg;have hcz9_0:w8.cell? ⟨gb263,0,none⟩=some (.int .i64 0):=(qC BK263.out 0).trans rfl;have hcz9_1:w8.cell? ⟨gb263,1,none⟩=some (.int .i64 0):=(qC BK263.out 1).trans rfl;have hfz9_0:=qF BK263.out 0;have hfz9_1:=qF BK263.out 1)|((with_reducible refine gate_callee (f:=34) rfl ?_);refine goesL_ (some 18) rfl rfl Try.func34 (by kernel_rfl) rfl #[.int .i64 x5_2,.int .i64 ((rd_T72 l0 x11_2).f0)] rfl (by (try simp only [mT,mC,mN]);first|done|rfl|(simp only [lD,lT];rfl)) ?_;(with_reducible refine (impl_set_has.calls x5_2 ((rd_T72 l0 x11_2).f0) true _ A6.out).mono ?_);rintro e w' ⟨rfl,⟨nd,rfl⟩⟩;refine ⟨_,rfl,?_⟩))
         go_roundg k2
         case measure=>have:=HK1.out;have:=HK2.out;omega
         case rel=>exact ⟨(Go.bits .or .i64 x5_2 ((rd_T72 l0 x11_2).f1)),(wrap64 (x11_2 + 1)),(by first|rfl|(simp;done)|(simp [*];done)),(by first|rfl|(simp;done)|(simp [*];done)),H',⟨by have:=HK1.out;have:=HK2.out;omega⟩,⟨by repeat (first|(with_reducible first|exact HB.out|apply qA|apply qD|apply qO|refine qS ?_ GE263.out)|exact HB.out)⟩⟩
        ·replace c7:=Bool.eq_false_iff.mpr c7;subst c7;have H1:(impl_closure.l1 k2 l0 x1_1 x5_2 l0 (l0.length:Int) (wrap64 (x11_2 + 1)))=some r:=by rw [if_neg (show ¬ (false=true) by decide)] at H;exact H
         clear H;have H:=H1;clear H1;have H':=qK H;clear H;have p262:0≤(x11_2:Int):=of_decide_eq_true (by first|(with_reducible assumption)|assumption);have q262:x11_2 < (l0.length:Int):=of_decide_eq_true (by first|(with_reducible assumption)|assumption);obtain ⟨ad262,e262,hx262_0,hx262_1⟩:=at_T72 HR0.out x11_2 p262 q262;cases e262
         replace hx262_0:=(HB.out.cell (World.block_lt_of_cell? w _ hx262_0)).trans hx262_0;replace hx262_1:=(HB.out.cell (World.block_lt_of_cell? w _ hx262_1)).trans hx262_1;replace p262:=eq_true p262;replace q262:=eq_true q262;go_wp2_with (first|((with_reducible refine gate_dst (N:=7) rfl ?_);refine box_event ?hg (N:=7) ?hd (cs:=#[.int .i64 0,.int .i64 0]) (t:=72) ?hr ?_;(case hd=>rfl);(case hg=>rfl);(case hr=>(go_simp;try rfl));intro gb263 hg w10 hbox hb;have n0_:=qK (qT (by repeat (with_reducible first|exact HB.out|apply qA|apply qD|apply qO)) hb);have n1_:=qK (hbox);have n2_:=qK ((by rw [hg];exact (qZ (by repeat (with_reducible first|exact HB.out|apply qA|apply qD|apply qO))):w.heap.size≤gb263));have n3_:=qK ((by rw [hg];exact (qZ (by repeat (with_reducible first|exact HB.out|apply qA|apply qD|apply qO))):w.heap.size≤gb263));clear HB;have HB:=n0_;have BK263:=n1_;have GW263:=n2_;have GE263:=n3_;clear n0_ n1_ n2_ n3_;clear hb hbox hg;have hcz11_0:w10.cell? ⟨gb263,0,none⟩=some (.int .i64 0):=(qC BK263.out 0).trans rfl;have hcz11_1:w10.cell? ⟨gb263,1,none⟩=some (.int .i64 0):=(qC BK263.out 1).trans rfl;have hfz11_0:=qF BK263.out 0;have hfz11_1:=qF BK263.out 1)|((with_reducible refine gate_callee (f:=34) rfl ?_);refine goesL_ (some 18) rfl rfl Try.func34 (by kernel_rfl) rfl #[.int .i64 x5_2,.int .i64 ((rd_T72 l0 x11_2).f0)] rfl (by (try simp only [mT,mC,mN]);first|done|rfl|(simp only [lD,lT];rfl)) ?_;(with_reducible refine (impl_set_has.calls x5_2 ((rd_T72 l0 x11_2).f0) false _ A6.out).mono ?_);rintro e w' ⟨rfl,⟨nd,rfl⟩⟩;refine ⟨_,rfl,?_⟩))
         go_roundg k2
         case measure=>have:=HK1.out;have:=HK2.out;omega
         case rel=>exact ⟨(x5_2),(wrap64 (x11_2 + 1)),(by first|rfl|(simp;done)|(simp [*];done)),(by first|rfl|(simp;done)|(simp [*];done)),H',⟨by have:=HK1.out;have:=HK2.out;omega⟩,⟨by repeat (first|(with_reducible first|exact HB.out|apply qA|apply qD|apply qO|refine qS ?_ GE263.out)|exact HB.out)⟩⟩
       ·rw [if_neg c5] at H;exact absurd H (by simp)
      ·rw [if_neg c4] at H;exact absurd H (by simp)
     ·rw [if_neg c3] at H;have c3b0:decide (x11_2 < (l0.length:Int))=false:=decide_eq_false c3;clear c3;by_cases c12:x5_2=x1_1
      ·rw [if_pos c12] at H;have c12b0:(x5_2 == x1_1)=true:=beq_iff_eq.mpr c12;have c12b1:(x5_2 != x1_1)=false:=bne_eq_false_iff_eq.mpr c12;clear c12;obtain rfl:=Option.some.inj H;go_wp2
       go_ret
       exact ⟨by first|rfl|(simp [errW_none,errW_some] <;> rfl)|(simp [*,errW_none,errW_some] <;> rfl),by repeat (first|(with_reducible first|exact HB.out|apply qA|apply qD|apply qO)|exact HB.out)⟩
      ·rw [if_neg c12] at H;have c12b0:(x5_2 == x1_1)=false:=beq_eq_false_iff_ne.mpr c12;have c12b1:(x5_2 != x1_1)=true:=bne_iff_ne.mpr c12;have H':=qK H;clear H;go_wp2
       go_roundg k2
       case measure=>have:=HK1.out;have:=HK2.out;omega
       case rel=>exact ⟨(x5_2),(by first|rfl|(simp;done)|(simp [*];done)),H',⟨by have:=HK1.out;have:=HK2.out;omega⟩,⟨by repeat (first|(with_reducible first|exact HB.out|apply qA|apply qD|apply qO)|exact HB.out)⟩⟩

end Go.Proofs.Ytnkdpagkmljbnaa.PFnExactIsNormal
