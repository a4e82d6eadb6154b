/-
  A text of this claim's own, printed by a program of the session (wip/tools/xprint.py): functions of the program as Lean functions, each with what its call comes to.
-/
import Derived.Test.YtecebaeifmddnaaPFnExactBestOfx0
namespace Go.Proofs.Ytecebaeifmddnaa.PFnExactBestOf
open Go.Proofs.YtecebaeifmddnaaW.PrintWords renaming pw_below_drewN → qD, blk_cell → qC, below_drew1 → qO, below_alloc → qA, blk_frozen → qF, below_set → qS, blk_drewN → qN, blk_alloc → qL, blk_drew → qW, below_size → qZ, below_step → qT, blk_below → qB, blk_far → qR, blk_put → qP
open Go.Proofs.YtecebaeifmddnaaW.PrintWords.Aside0 renaming mk → qK
open Bool renaming true → Y, false → Z
open List renaming setIfInBounds_toArray → sIb, set_cons_zero → sZ, set_cons_succ → sS, map_toArray → mT, map_cons → mC, map_nil → mN, length_drop → lD, length_take → lT
open Go.Proofs.YtecebaeifmddnaaW.PrintWords.Kd renaming C_alloc → cL, C_drewN → cN, C_drew → cW, C_below → cB, R_alloc → rL, R_drewN → rN, R_drew → rW, R_below → rB
open Go.RowKit Go.Proofs.YtecebaeifmddnaaW.PrintWords Go.Proofs.YtecebaeifmddnaaW.PrintLast Go.Proofs.YtecebaeifmddnaaW.PrintMore
attribute [local go_sem] max2_int min2_int max_two min_two max_three min_three max_four min_four   -- for this text's walks alone
set_option linter.unusedVariables false
set_option linter.unusedSimpArgs false

/-! ### laws_szIntS: function 28 -/
def laws_szIntS.f (l0:List Int) (a1:Int):Option (Int):=if (wrap64 (a1 - (l0.length:Int))) < 0 then (some (-1)) else (some (wrap64 (a1 - (l0.length:Int))))
set_option maxHeartbeats 8000000 in
set_option maxRecDepth 100000 in
theorem laws_szIntS.calls (A0:Option Addr) (c0:Nat) (l0:List Int) (a1:Int) (r:Int) (w:World) (hr0:Kd.C (Kd.int .i64) w A0 l0.length l0) (hc0:l0.length≤c0) (h:laws_szIntS.f l0 a1=some r) :
  Calls Try.prog 28 #[.slice A0 l0.length c0,.int .i64 a1] w fun e w'=>e=.returned (.int .i64 r)∧Drawn0 w w':=by
 have HR0:=qK hr0;have HC0:=qK hc0;clear hr0 hc0;have H:(if (wrap64 (a1 - (l0.length:Int))) < 0 then (some (-1)) else (some (wrap64 (a1 - (l0.length:Int)))))=some r:=h;clear h;by_cases c3:(wrap64 (a1 - (l0.length:Int))) < 0
 ·rw [if_pos c3] at H;have c3b0:decide ((wrap64 (a1 - (l0.length:Int))) < 0)=true:=decide_eq_true c3;clear c3;obtain rfl:=Option.some.inj H;go_enter Try.func28,Try.ntmps28
  go_wp2
  go_ret
  exact ⟨by first|rfl|(simp;done)|(simp [*];done),by repeat (first|exact Drawn0.refl _|apply Drawn0.step)⟩
 ·rw [if_neg c3] at H;have c3b0:decide ((wrap64 (a1 - (l0.length:Int))) < 0)=false:=decide_eq_false c3;clear c3;obtain rfl:=Option.some.inj H;go_enter Try.func28,Try.ntmps28
  go_wp2
  go_ret
  exact ⟨by first|rfl|(simp;done)|(simp [*];done),by repeat (first|exact Drawn0.refl _|apply Drawn0.step)⟩

/-! ### laws_szIntSS: function 29 -/
def laws_szIntSS.l0 : Nat→List (List Int)→Int→Int→Option (Int)
 | 0,_,_,_=>none
 | k + 1,x0,x1,x5=>if x5 < (x0.length:Int) then (if 0≤x5 then ((laws_szIntS.f (rd_L1 x0 x5) x1).bind fun t102=>(if t102 < 0 then (some (-1)) else (laws_szIntSS.l0 k x0 t102 (wrap64 (x5 + 1))))) else (none)) else (some x1)
def laws_szIntSS.f (k:Nat) (l0:List (List Int)) (a1:Int):Option (Int):=if (wrap64 (a1 - (l0.length:Int))) < 0 then (some (-1)) else (laws_szIntSS.l0 k l0 (wrap64 (a1 - (l0.length:Int))) 0)
theorem laws_szIntSS.mono_l : ∀ k,(∀ y0 y1 y2,LeO (laws_szIntSS.l0 k y0 y1 y2) (laws_szIntSS.l0 (k + 1) y0 y1 y2))
 | 0=>fun _ _ _ r h=>by simp [laws_szIntSS.l0] at h
 | k + 1=>by
  have ih0:=laws_szIntSS.mono_l k
  ·intro y0 y1 y2;unfold laws_szIntSS.l0
   repeat' first
   | (with_reducible exact ih0 _ _ _)
   | (with_reducible exact LeO.refl _)
   | (with_reducible exact LeO.none _)
   | (with_reducible refine LeO.ite ?_ ?_)
   | (with_reducible refine LeO.bind ?_ (fun _=>?_))
   | exact ih0 _ _ _
   | exact LeO.none _
   | refine LeO.ite ?_ ?_
   | refine LeO.bind ?_ (fun _=>?_)
theorem laws_szIntSS.mono : ∀ a0 a1 k,LeO (laws_szIntSS.f k a0 a1) (laws_szIntSS.f (k + 1) a0 a1):=by
 intro a0 a1 k;have ih0:=laws_szIntSS.mono_l k;unfold laws_szIntSS.f
 repeat' first
   | (with_reducible exact ih0 _ _ _)
   | (with_reducible exact LeO.refl _)
   | (with_reducible exact LeO.none _)
   | (with_reducible refine LeO.ite ?_ ?_)
   | (with_reducible refine LeO.bind ?_ (fun _=>?_))
   | exact ih0 _ _ _
   | exact LeO.none _
   | refine LeO.ite ?_ ?_
   | refine LeO.bind ?_ (fun _=>?_)
set_option maxHeartbeats 8000000 in
set_option maxRecDepth 100000 in
theorem laws_szIntSS.calls (k:Nat) (A0:Option Addr) (c0:Nat) (l0:List (List Int)) (a1:Int) (r:Int) (w:World) (hr0:Kd.C (Kd.slice 3 (Kd.int .i64)) w A0 l0.length l0) (hc0:l0.length≤c0) (h:laws_szIntSS.f k l0 a1=some r) :
  Calls Try.prog 29 #[.slice A0 l0.length c0,.int .i64 a1] w fun e w'=>e=.returned (.int .i64 r)∧Drawn0 w w':=by
 have HR0:=qK hr0;have HC0:=qK hc0;clear hr0 hc0;have H:(if (wrap64 (a1 - (l0.length:Int))) < 0 then (some (-1)) else (laws_szIntSS.l0 k l0 (wrap64 (a1 - (l0.length:Int))) 0))=some r:=h;clear h;by_cases c3:(wrap64 (a1 - (l0.length:Int))) < 0
 ·rw [if_pos c3] at H;have c3b0:decide ((wrap64 (a1 - (l0.length:Int))) < 0)=true:=decide_eq_true c3;clear c3;obtain rfl:=Option.some.inj H;go_enter Try.func29,Try.ntmps29
  go_wp2
  go_ret
  exact ⟨by first|rfl|(simp;done)|(simp [*];done),by repeat (first|exact Drawn0.refl _|apply Drawn0.step)⟩
 ·rw [if_neg c3] at H;have c3b0:decide ((wrap64 (a1 - (l0.length:Int))) < 0)=false:=decide_eq_false c3;clear c3;have H':=qK H;clear H;go_enter Try.func29,Try.ntmps29
  go_wp2
  go_loopg [1,5] k (fun kq v1 v5 w'=>∃ (x1_1:Int) (x5_1:Int),v1=.int .i64 x1_1∧v5=.int .i64 x5_1∧Aside0 (laws_szIntSS.l0 kq l0 x1_1 x5_1=some r)∧Aside0 (kq≤k)∧Drawn0 w w')
  case atStart=>exact ⟨(wrap64 (a1 - (l0.length:Int))),(0),(by first|rfl|(simp;done)|(simp [*];done)),(by first|rfl|(simp;done)|(simp [*];done)),H',⟨Nat.le_refl _⟩,by repeat (first|exact Drawn0.refl _|apply Drawn0.step)⟩
  case round =>
   clear H';try clear c2
   try clear p2
   try clear c3
   try clear c3b0
   obtain ⟨x1_1,x5_1,rfl,rfl,HA,HK1,⟨m1,rfl⟩⟩:=hrel;cases gk with
   | zero=>exact absurd HA.out (by simp [laws_szIntSS.l0])
   | succ k1 =>
    have H:=HA.out;clear HA;simp only [laws_szIntSS.l0] at H;by_cases c4:x5_1 < (l0.length:Int)
    ·rw [if_pos c4] at H;have c4b0:decide (x5_1 < (l0.length:Int))=true:=decide_eq_true c4;clear c4;by_cases c5:0≤x5_1
     ·rw [if_pos c5] at H;have c5b0:decide (0≤x5_1)=true:=decide_eq_true c5;clear c5;replace H:=Option.bind_eq_some_iff.mp H;obtain ⟨t102,A60,H⟩:=H;replace H:(if t102 < 0 then (some (-1)) else (laws_szIntSS.l0 k1 l0 t102 (wrap64 (x5_1 + 1))))=some r:=H;have A6:=qK A60;clear A60;by_cases c7:t102 < 0
      ·rw [if_pos c7] at H;have c7b0:decide (t102 < 0)=true:=decide_eq_true c7;clear c7;obtain rfl:=Option.some.inj H;have p101:0≤(x5_1:Int):=of_decide_eq_true (by first|(with_reducible assumption)|assumption);have q101:x5_1 < (l0.length:Int):=of_decide_eq_true (by first|(with_reducible assumption)|assumption);obtain ⟨ad101,A101_0,c101_0,e101,hx101_0,hl101_0,hi101_0⟩:=at_L1 HR0.out x5_1 p101 q101;cases e101
       have HR101_0:=qK hi101_0;have HC101_0:=qK hl101_0;clear hi101_0 hl101_0;replace p101:=eq_true p101;replace q101:=eq_true q101;go_wp2_with (first|((with_reducible refine gate_callee (f:=28) rfl ?_);refine goesL_ (some 23) rfl rfl Try.func28 (by kernel_rfl) rfl #[.slice A101_0 (rd_L1 l0 x5_1).length c101_0,.int .i64 x1_1] rfl (by (try simp only [mT,mC,mN]);first|done|rfl|(simp only [lD,lT];rfl)) ?_;(with_reducible refine (laws_szIntS.calls _ _ (rd_L1 l0 x5_1) x1_1 t102 _ ?side1 ?side2 A6.out).mono ?_);(case side1=>repeat (first|exact HR101_0.out|(with_reducible first|refine cL ?_ _|refine cN ?_ _|refine cW ?_)));(case side2=>exact HC101_0.out);rintro e w' ⟨rfl,⟨nd,rfl⟩⟩;refine ⟨_,rfl,?_⟩))
       go_ret
       exact ⟨by first|rfl|(simp;done)|(simp [*];done),by repeat (first|exact Drawn0.refl _|apply Drawn0.step)⟩
      ·rw [if_neg c7] at H;have c7b0:decide (t102 < 0)=false:=decide_eq_false c7;clear c7;have H':=qK H;clear H;have p101:0≤(x5_1:Int):=of_decide_eq_true (by first|(with_reducible assumption)|assumption);have q101:x5_1 < (l0.length:Int):=of_decide_eq_true (by first|(with_reducible assumption)|assumption);obtain ⟨ad101,A101_0,c101_0,e101,hx101_0,hl101_0,hi101_0⟩:=at_L1 HR0.out x5_1 p101 q101;cases e101
       have HR101_0:=qK hi101_0;have HC101_0:=qK hl101_0;clear hi101_0 hl101_0;replace p101:=eq_true p101;replace q101:=eq_true q101;go_wp2_with (first|((with_reducible refine gate_callee (f:=28) rfl ?_);refine goesL_ (some 23) rfl rfl Try.func28 (by kernel_rfl) rfl #[.slice A101_0 (rd_L1 l0 x5_1).length c101_0,.int .i64 x1_1] rfl (by (try simp only [mT,mC,mN]);first|done|rfl|(simp only [lD,lT];rfl)) ?_;(with_reducible refine (laws_szIntS.calls _ _ (rd_L1 l0 x5_1) x1_1 t102 _ ?side1 ?side2 A6.out).mono ?_);(case side1=>repeat (first|exact HR101_0.out|(with_reducible first|refine cL ?_ _|refine cN ?_ _|refine cW ?_)));(case side2=>exact HC101_0.out);rintro e w' ⟨rfl,⟨nd,rfl⟩⟩;refine ⟨_,rfl,?_⟩))
       go_roundg k1
       case measure=>have:=HK1.out;omega
       case rel=>exact ⟨(t102),(wrap64 (x5_1 + 1)),(by first|rfl|(simp;done)|(simp [*];done)),(by first|rfl|(simp;done)|(simp [*];done)),H',⟨by have:=HK1.out;omega⟩,by repeat (first|exact Drawn0.refl _|apply Drawn0.step)⟩
     ·rw [if_neg c5] at H;exact absurd H (by simp)
    ·rw [if_neg c4] at H;have c4b0:decide (x5_1 < (l0.length:Int))=false:=decide_eq_false c4;clear c4;obtain rfl:=Option.some.inj H;go_wp2
     go_ret
     exact ⟨by first|rfl|(simp;done)|(simp [*];done),by repeat (first|exact Drawn0.refl _|apply Drawn0.step)⟩

/-! ### laws_szStats: function 6 -/
def laws_szStats.f (k:Nat) (l0_0:List Int) (l0_1:List (List Int)) (a1:Int):Option (Int):=(laws_szIntS.f l0_0 a1).bind fun t104=>(if t104 < 0 then (some (-1)) else ((laws_szIntSS.f k l0_1 t104).bind fun t105=>(if t105 < 0 then (some (-1)) else (some t105))))
theorem laws_szStats.mono : ∀ a0 a1 a2 k,LeO (laws_szStats.f k a0 a1 a2) (laws_szStats.f (k + 1) a0 a1 a2):=by
 intro a0 a1 a2 k;unfold laws_szStats.f
 repeat' first
   | (with_reducible exact laws_szIntSS.mono _ _ _)
   | (with_reducible exact LeO.refl _)
   | (with_reducible exact LeO.none _)
   | (with_reducible refine LeO.ite ?_ ?_)
   | (with_reducible refine LeO.bind ?_ (fun _=>?_))
   | exact laws_szIntSS.mono _ _ _
   | exact LeO.none _
   | refine LeO.ite ?_ ?_
   | refine LeO.bind ?_ (fun _=>?_)
set_option maxHeartbeats 8000000 in
set_option maxRecDepth 100000 in
theorem laws_szStats.calls (k:Nat) (A0_0:Option Addr) (c0_0:Nat) (l0_0:List Int) (A0_1:Option Addr) (c0_1:Nat) (l0_1:List (List Int)) (a1:Int) (r:Int) (w:World) (hr0_0:Kd.C (Kd.int .i64) w A0_0 l0_0.length l0_0) (hc0_0:l0_0.length≤c0_0) (hr0_1:Kd.C (Kd.slice 3 (Kd.int .i64)) w A0_1 l0_1.length l0_1) (hc0_1:l0_1.length≤c0_1) (h:laws_szStats.f k l0_0 l0_1 a1=some r) :
  Calls Try.prog 6 #[.agg #[.slice A0_0 l0_0.length c0_0,.slice A0_1 l0_1.length c0_1],.int .i64 a1] w fun e w'=>e=.returned (.int .i64 r)∧Below w.heap.size w w':=by
 have hu25:=Try.underlying25;have HR0_0:=qK hr0_0;have HC0_0:=qK hc0_0;clear hr0_0 hc0_0;have HR0_1:=qK hr0_1;have HC0_1:=qK hc0_1;clear hr0_1 hc0_1;have HB:=qK (Below.refl w.heap.size w);have H:((laws_szIntS.f l0_0 a1).bind fun t104=>(if t104 < 0 then (some (-1)) else ((laws_szIntSS.f k l0_1 t104).bind fun t105=>(if t105 < 0 then (some (-1)) else (some t105)))))=some r:=h;clear h;replace H:=Option.bind_eq_some_iff.mp H;obtain ⟨t104,A30,H⟩:=H;replace H:(if t104 < 0 then (some (-1)) else ((laws_szIntSS.f k l0_1 t104).bind fun t105=>(if t105 < 0 then (some (-1)) else (some t105))))=some r:=H;have A3:=qK A30;clear A30;by_cases c4:t104 < 0
 ·rw [if_pos c4] at H;have c4b0:decide (t104 < 0)=true:=decide_eq_true c4;clear c4;obtain rfl:=Option.some.inj H;go_enter Try.func6,Try.ntmps6
  go_wp2_with (first|((with_reducible refine gate_dst (N:=2) rfl ?_);refine box_event ?hg (N:=2) ?hd (cs:=#[.slice A0_0 l0_0.length c0_0,.slice A0_1 l0_1.length c0_1]) (t:=25) ?hr ?_;(case hd=>rfl);(case hg=>rfl);(case hr=>(go_simp;try rfl));intro gb103 hg w5 hbox hb;have n0_:=qK (qT (by repeat (with_reducible first|exact HB.out|apply qA|apply qD|apply qO)) hb);have n1_:=qK (hbox);have n2_:=qK ((by rw [hg];exact (qZ (by repeat (with_reducible first|exact HB.out|apply qA|apply qD|apply qO))):w.heap.size≤gb103));have n3_:=qK ((by rw [hg];exact (qZ (by repeat (with_reducible first|exact HB.out|apply qA|apply qD|apply qO))):w.heap.size≤gb103));clear HB;have HB:=n0_;have BK103:=n1_;have GW103:=n2_;have GE103:=n3_;clear n0_ n1_ n2_ n3_;clear hb hbox hg;have hcz6_0:w5.cell? ⟨gb103,0,none⟩=some (.slice A0_0 l0_0.length c0_0):=(qC BK103.out 0).trans rfl;have hcz6_1:w5.cell? ⟨gb103,1,none⟩=some (.slice A0_1 l0_1.length c0_1):=(qC BK103.out 1).trans rfl;have hfz6_0:=qF BK103.out 0;have hfz6_1:=qF BK103.out 1)|((with_reducible refine gate_callee (f:=28) rfl ?_);refine goesL_ (some 8) rfl rfl Try.func28 (by kernel_rfl) rfl #[.slice A0_0 l0_0.length c0_0,.int .i64 a1] rfl (by (try simp only [mT,mC,mN]);first|done|rfl|(simp only [lD,lT];rfl)) ?_;(with_reducible refine (laws_szIntS.calls _ _ l0_0 a1 t104 _ ?side1 ?side2 A3.out).mono ?_);(case side1=>repeat (first|exact (cB HR0_0.out HB.out)|(with_reducible first|refine cL ?_ _|refine cN ?_ _|refine cW ?_)));(case side2=>exact HC0_0.out);rintro e w' ⟨rfl,⟨nd,rfl⟩⟩;refine ⟨_,rfl,?_⟩))
  go_ret
  exact ⟨by first|rfl|(simp [errW_none,errW_some] <;> rfl)|(simp [*,errW_none,errW_some] <;> rfl),by repeat (first|(with_reducible first|exact HB.out|apply qA|apply qD|apply qO|refine qS ?_ GE103.out)|exact HB.out)⟩
 ·rw [if_neg c4] at H;have c4b0:decide (t104 < 0)=false:=decide_eq_false c4;clear c4;replace H:=Option.bind_eq_some_iff.mp H;obtain ⟨t105,A70,H⟩:=H;replace H:(if t105 < 0 then (some (-1)) else (some t105))=some r:=H;have A7:=qK A70;clear A70;by_cases c8:t105 < 0
  ·rw [if_pos c8] at H;have c8b0:decide (t105 < 0)=true:=decide_eq_true c8;clear c8;obtain rfl:=Option.some.inj H;go_enter Try.func6,Try.ntmps6
   go_wp2_with (first|((with_reducible refine gate_dst (N:=2) rfl ?_);refine box_event ?hg (N:=2) ?hd (cs:=#[.slice A0_0 l0_0.length c0_0,.slice A0_1 l0_1.length c0_1]) (t:=25) ?hr ?_;(case hd=>rfl);(case hg=>rfl);(case hr=>(go_simp;try rfl));intro gb103 hg w9 hbox hb;have n0_:=qK (qT (by repeat (with_reducible first|exact HB.out|apply qA|apply qD|apply qO)) hb);have n1_:=qK (hbox);have n2_:=qK ((by rw [hg];exact (qZ (by repeat (with_reducible first|exact HB.out|apply qA|apply qD|apply qO))):w.heap.size≤gb103));have n3_:=qK ((by rw [hg];exact (qZ (by repeat (with_reducible first|exact HB.out|apply qA|apply qD|apply qO))):w.heap.size≤gb103));clear HB;have HB:=n0_;have BK103:=n1_;have GW103:=n2_;have GE103:=n3_;clear n0_ n1_ n2_ n3_;clear hb hbox hg;have hcz10_0:w9.cell? ⟨gb103,0,none⟩=some (.slice A0_0 l0_0.length c0_0):=(qC BK103.out 0).trans rfl;have hcz10_1:w9.cell? ⟨gb103,1,none⟩=some (.slice A0_1 l0_1.length c0_1):=(qC BK103.out 1).trans rfl;have hfz10_0:=qF BK103.out 0;have hfz10_1:=qF BK103.out 1)|((with_reducible refine gate_callee (f:=28) rfl ?_);refine goesL_ (some 8) rfl rfl Try.func28 (by kernel_rfl) rfl #[.slice A0_0 l0_0.length c0_0,.int .i64 a1] rfl (by (try simp only [mT,mC,mN]);first|done|rfl|(simp only [lD,lT];rfl)) ?_;(with_reducible refine (laws_szIntS.calls _ _ l0_0 a1 t104 _ ?side1 ?side2 A3.out).mono ?_);(case side1=>repeat (first|exact (cB HR0_0.out HB.out)|(with_reducible first|refine cL ?_ _|refine cN ?_ _|refine cW ?_)));(case side2=>exact HC0_0.out);rintro e w' ⟨rfl,⟨nd,rfl⟩⟩;refine ⟨_,rfl,?_⟩)|((with_reducible refine gate_callee (f:=29) rfl ?_);refine goesL_ (some 14) rfl rfl Try.func29 (by kernel_rfl) rfl #[.slice A0_1 l0_1.length c0_1,.int .i64 t104] rfl (by (try simp only [mT,mC,mN]);first|done|rfl|(simp only [lD,lT];rfl)) ?_;(with_reducible refine (laws_szIntSS.calls k _ _ l0_1 t104 t105 _ ?side1 ?side2 A7.out).mono ?_);(case side1=>repeat (first|exact (cB HR0_1.out (by repeat (with_reducible first|exact HB.out|apply qA|apply qD|apply qO|refine qS ?_ GE103.out)))|(with_reducible first|refine cL ?_ _|refine cN ?_ _|refine cW ?_)));(case side2=>exact HC0_1.out);rintro e w' ⟨rfl,⟨nd,rfl⟩⟩;refine ⟨_,rfl,?_⟩))
   go_ret
   exact ⟨by first|rfl|(simp [errW_none,errW_some] <;> rfl)|(simp [*,errW_none,errW_some] <;> rfl),by repeat (first|(with_reducible first|exact HB.out|apply qA|apply qD|apply qO|refine qS ?_ GE103.out)|exact HB.out)⟩
  ·rw [if_neg c8] at H;have c8b0:decide (t105 < 0)=false:=decide_eq_false c8;clear c8;obtain rfl:=Option.some.inj H;go_enter Try.func6,Try.ntmps6
   go_wp2_with (first|((with_reducible refine gate_dst (N:=2) rfl ?_);refine box_event ?hg (N:=2) ?hd (cs:=#[.slice A0_0 l0_0.length c0_0,.slice A0_1 l0_1.length c0_1]) (t:=25) ?hr ?_;(case hd=>rfl);(case hg=>rfl);(case hr=>(go_simp;try rfl));intro gb103 hg w11 hbox hb;have n0_:=qK (qT (by repeat (with_reducible first|exact HB.out|apply qA|apply qD|apply qO)) hb);have n1_:=qK (hbox);have n2_:=qK ((by rw [hg];exact (qZ (by repeat (with_reducible first|exact HB.out|apply qA|apply qD|apply qO))):w.heap.size≤gb103));have n3_:=qK ((by rw [hg];exact (qZ (by repeat (with_reducible first|exact HB.out|apply qA|apply qD|apply qO))):w.heap.size≤gb103));clear HB;have HB:=n0_;have BK103:=n1_;have GW103:=n2_;have GE103:=n3_;clear n0_ n1_ n2_ n3_;clear hb hbox hg;have hcz12_0:w11.cell? ⟨gb103,0,none⟩=some (.slice A0_0 l0_0.length c0_0):=(qC BK103.out 0).trans rfl;have hcz12_1:w11.cell? ⟨gb103,1,none⟩=some (.slice A0_1 l0_1.length c0_1):=(qC BK103.out 1).trans rfl;have hfz12_0:=qF BK103.out 0;have hfz12_1:=qF BK103.out 1)|((with_reducible refine gate_callee (f:=28) rfl ?_);refine goesL_ (some 8) rfl rfl Try.func28 (by kernel_rfl) rfl #[.slice A0_0 l0_0.length c0_0,.int .i64 a1] rfl (by (try simp only [mT,mC,mN]);first|done|rfl|(simp only [lD,lT];rfl)) ?_;(with_reducible refine (laws_szIntS.calls _ _ l0_0 a1 t104 _ ?side1 ?side2 A3.out).mono ?_);(case side1=>repeat (first|exact (cB HR0_0.out HB.out)|(with_reducible first|refine cL ?_ _|refine cN ?_ _|refine cW ?_)));(case side2=>exact HC0_0.out);rintro e w' ⟨rfl,⟨nd,rfl⟩⟩;refine ⟨_,rfl,?_⟩)|((with_reducible refine gate_callee (f:=29) rfl ?_);refine goesL_ (some 14) rfl rfl Try.func29 (by kernel_rfl) rfl #[.slice A0_1 l0_1.length c0_1,.int .i64 t104] rfl (by (try simp only [mT,mC,mN]);first|done|rfl|(simp only [lD,lT];rfl)) ?_;(with_reducible refine (laws_szIntSS.calls k _ _ l0_1 t104 t105 _ ?side1 ?side2 A7.out).mono ?_);(case side1=>repeat (first|exact (cB HR0_1.out (by repeat (with_reducible first|exact HB.out|apply qA|apply qD|apply qO|refine qS ?_ GE103.out)))|(with_reducible first|refine cL ?_ _|refine cN ?_ _|refine cW ?_)));(case side2=>exact HC0_1.out);rintro e w' ⟨rfl,⟨nd,rfl⟩⟩;refine ⟨_,rfl,?_⟩))
   go_ret
   exact ⟨by first|rfl|(simp [errW_none,errW_some] <;> rfl)|(simp [*,errW_none,errW_some] <;> rfl),by repeat (first|(with_reducible first|exact HB.out|apply qA|apply qD|apply qO|refine qS ?_ GE103.out)|exact HB.out)⟩

/-! ### spec_l1In: function 49 -/
def spec_l1In.f (a0:Int) (a1:Int) (a2:Int):Option (Bool):=if a0 ≥ a1 then (some (decide (a0≤a2))) else (some false)
set_option maxHeartbeats 8000000 in
set_option maxRecDepth 100000 in
theorem spec_l1In.calls (a0:Int) (a1:Int) (a2:Int) (r:Bool) (w:World) (h:spec_l1In.f a0 a1 a2=some r) :
  Calls Try.prog 49 #[.int .i64 a0,.int .i64 a1,.int .i64 a2] w fun e w'=>e=.returned (.bool r)∧Drawn0 w w':=by
 have H:(if a0 ≥ a1 then (some (decide (a0≤a2))) else (some false))=some r:=h;clear h;by_cases c4:a0 ≥ a1
 ·rw [if_pos c4] at H;have c4b0:decide (a1≤a0)=true:=decide_eq_true c4;clear c4;obtain rfl:=Option.some.inj H;go_enter Try.func49,Try.ntmps49
  go_wp2
  go_ret
  exact ⟨by first|rfl|(simp;done)|(simp [*];done),by repeat (first|exact Drawn0.refl _|apply Drawn0.step)⟩
 ·rw [if_neg c4] at H;have c4b0:decide (a1≤a0)=false:=decide_eq_false c4;clear c4;obtain rfl:=Option.some.inj H;go_enter Try.func49,Try.ntmps49
  go_wp2
  go_ret
  exact ⟨by first|rfl|(simp;done)|(simp [*];done),by repeat (first|exact Drawn0.refl _|apply Drawn0.step)⟩

/-! ### spec_GoodStats: function 23 -/
mutual
def spec_GoodStats.j0 : Nat→Bool→List Int→List (List Int)→Option (Bool)
 | 0,_,_,_=>none
 | k + 1,x20,x107000,x107001=>if x20=true then (some false) else (spec_GoodStats.l0 k x107000 (x107000.length:Int) 0 x107000 x107001)
def spec_GoodStats.l0 : Nat→List Int→Int→Int→List Int→List (List Int)→Option (Bool)
 | 0,_,_,_,_,_=>none
 | k + 1,x22,x23,x24,x107000,x107001=>if x24 < x23 then (if 0≤x24 then (if x24 < (x22.length:Int) then ((spec_l1In.f (rd x22 x24) 1 50).bind fun t109=>(if t109=true then (if x24 < (x107001.length:Int) then (spec_GoodStats.j2 k x24 x22 x23 x24 (((rd_L1 x107001 x24).length:Int) != x24) x107000 x107001) else (none)) else (spec_GoodStats.j2 k x24 x22 x23 x24 true x107000 x107001))) else (none)) else (none)) else (some true)
def spec_GoodStats.j2 : Nat→Int→List Int→Int→Int→Bool→List Int→List (List Int)→Option (Bool)
 | 0,_,_,_,_,_,_,_=>none
 | k + 1,x3,x22,x23,x24,x41,x107000,x107001=>if x41=true then (some false) else (if 0≤x3 then (if x3 < (x107001.length:Int) then (spec_GoodStats.l1 k x22 x23 x24 (rd_L1 x107001 x3) ((rd_L1 x107001 x3).length:Int) 0 x107000 x107001) else (none)) else (none))
def spec_GoodStats.l1 : Nat→List Int→Int→Int→List Int→Int→Int→List Int→List (List Int)→Option (Bool)
 | 0,_,_,_,_,_,_,_,_=>none
 | k + 1,x22,x23,x24,x46,x47,x48,x107000,x107001=>if x48 < x47 then (if 0≤x48 then (if x48 < (x46.length:Int) then ((spec_l1In.f (rd x46 x48) 1 10).bind fun t113=>(if t113=true then (spec_GoodStats.l1 k x22 x23 x24 x46 x47 (wrap64 (x48 + 1)) x107000 x107001) else (some false))) else (none)) else (none)) else (spec_GoodStats.l0 k x22 x23 (wrap64 (x24 + 1)) x107000 x107001)
end
def spec_GoodStats.f (k:Nat) (l0_0:List Int) (l0_1:List (List Int)):Option (Bool):=(spec_l1In.f (l0_0.length:Int) 1 6).bind fun t107=>(if t107=true then (spec_GoodStats.j0 k ((l0_1.length:Int) != (l0_0.length:Int)) l0_0 l0_1) else (spec_GoodStats.j0 k true l0_0 l0_1))
theorem spec_GoodStats.mono_l : ∀ k,(∀ y0 y1 y2,LeO (spec_GoodStats.j0 k y0 y1 y2) (spec_GoodStats.j0 (k + 1) y0 y1 y2))∧(∀ y0 y1 y2 y3 y4,LeO (spec_GoodStats.l0 k y0 y1 y2 y3 y4) (spec_GoodStats.l0 (k + 1) y0 y1 y2 y3 y4))∧(∀ y0 y1 y2 y3 y4 y5 y6,LeO (spec_GoodStats.j2 k y0 y1 y2 y3 y4 y5 y6) (spec_GoodStats.j2 (k + 1) y0 y1 y2 y3 y4 y5 y6))∧(∀ y0 y1 y2 y3 y4 y5 y6 y7,LeO (spec_GoodStats.l1 k y0 y1 y2 y3 y4 y5 y6 y7) (spec_GoodStats.l1 (k + 1) y0 y1 y2 y3 y4 y5 y6 y7))
 | 0=>⟨fun _ _ _ r h=>by simp [spec_GoodStats.j0] at h,fun _ _ _ _ _ r h=>by simp [spec_GoodStats.l0] at h,fun _ _ _ _ _ _ _ r h=>by simp [spec_GoodStats.j2] at h,fun _ _ _ _ _ _ _ _ r h=>by simp [spec_GoodStats.l1] at h⟩
 | k + 1=>by
  obtain ⟨ih0,ih1,ih2,ih3⟩:=spec_GoodStats.mono_l k;refine ⟨?_,?_,?_,?_⟩
  ·intro y0 y1 y2;unfold spec_GoodStats.j0
   repeat' first
   | (with_reducible exact ih0 _ _ _)
   | (with_reducible exact ih1 _ _ _ _ _)
   | (with_reducible exact ih2 _ _ _ _ _ _ _)
   | (with_reducible exact ih3 _ _ _ _ _ _ _ _)
   | (with_reducible exact LeO.refl _)
   | (with_reducible exact LeO.none _)
   | (with_reducible refine LeO.ite ?_ ?_)
   | (with_reducible refine LeO.bind ?_ (fun _=>?_))
   | exact ih0 _ _ _
   | exact ih1 _ _ _ _ _
   | exact ih2 _ _ _ _ _ _ _
   | exact ih3 _ _ _ _ _ _ _ _
   | exact LeO.none _
   | refine LeO.ite ?_ ?_
   | refine LeO.bind ?_ (fun _=>?_)
  ·intro y0 y1 y2 y3 y4;unfold spec_GoodStats.l0
   repeat' first
   | (with_reducible exact ih0 _ _ _)
   | (with_reducible exact ih1 _ _ _ _ _)
   | (with_reducible exact ih2 _ _ _ _ _ _ _)
   | (with_reducible exact ih3 _ _ _ _ _ _ _ _)
   | (with_reducible exact LeO.refl _)
   | (with_reducible exact LeO.none _)
   | (with_reducible refine LeO.ite ?_ ?_)
   | (with_reducible refine LeO.bind ?_ (fun _=>?_))
   | exact ih0 _ _ _
   | exact ih1 _ _ _ _ _
   | exact ih2 _ _ _ _ _ _ _
   | exact ih3 _ _ _ _ _ _ _ _
   | exact LeO.none _
   | refine LeO.ite ?_ ?_
   | refine LeO.bind ?_ (fun _=>?_)
  ·intro y0 y1 y2 y3 y4 y5 y6;unfold spec_GoodStats.j2
   repeat' first
   | (with_reducible exact ih0 _ _ _)
   | (with_reducible exact ih1 _ _ _ _ _)
   | (with_reducible exact ih2 _ _ _ _ _ _ _)
   | (with_reducible exact ih3 _ _ _ _ _ _ _ _)
   | (with_reducible exact LeO.refl _)
   | (with_reducible exact LeO.none _)
   | (with_reducible refine LeO.ite ?_ ?_)
   | (with_reducible refine LeO.bind ?_ (fun _=>?_))
   | exact ih0 _ _ _
   | exact ih1 _ _ _ _ _
   | exact ih2 _ _ _ _ _ _ _
   | exact ih3 _ _ _ _ _ _ _ _
   | exact LeO.none _
   | refine LeO.ite ?_ ?_
   | refine LeO.bind ?_ (fun _=>?_)
  ·intro y0 y1 y2 y3 y4 y5 y6 y7;unfold spec_GoodStats.l1
   repeat' first
   | (with_reducible exact ih0 _ _ _)
   | (with_reducible exact ih1 _ _ _ _ _)
   | (with_reducible exact ih2 _ _ _ _ _ _ _)
   | (with_reducible exact ih3 _ _ _ _ _ _ _ _)
   | (with_reducible exact LeO.refl _)
   | (with_reducible exact LeO.none _)
   | (with_reducible refine LeO.ite ?_ ?_)
   | (with_reducible refine LeO.bind ?_ (fun _=>?_))
   | exact ih0 _ _ _
   | exact ih1 _ _ _ _ _
   | exact ih2 _ _ _ _ _ _ _
   | exact ih3 _ _ _ _ _ _ _ _
   | exact LeO.none _
   | refine LeO.ite ?_ ?_
   | refine LeO.bind ?_ (fun _=>?_)
theorem spec_GoodStats.mono : ∀ a0 a1 k,LeO (spec_GoodStats.f k a0 a1) (spec_GoodStats.f (k + 1) a0 a1):=by
 intro a0 a1 k;obtain ⟨ih0,ih1,ih2,ih3⟩:=spec_GoodStats.mono_l k;unfold spec_GoodStats.f
 repeat' first
   | (with_reducible exact ih0 _ _ _)
   | (with_reducible exact ih1 _ _ _ _ _)
   | (with_reducible exact ih2 _ _ _ _ _ _ _)
   | (with_reducible exact ih3 _ _ _ _ _ _ _ _)
   | (with_reducible exact LeO.refl _)
   | (with_reducible exact LeO.none _)
   | (with_reducible refine LeO.ite ?_ ?_)
   | (with_reducible refine LeO.bind ?_ (fun _=>?_))
   | exact ih0 _ _ _
   | exact ih1 _ _ _ _ _
   | exact ih2 _ _ _ _ _ _ _
   | exact ih3 _ _ _ _ _ _ _ _
   | exact LeO.none _
   | refine LeO.ite ?_ ?_
   | refine LeO.bind ?_ (fun _=>?_)
set_option maxHeartbeats 8000000 in
set_option maxRecDepth 100000 in
theorem spec_GoodStats.calls (k:Nat) (A0_0:Option Addr) (c0_0:Nat) (l0_0:List Int) (A0_1:Option Addr) (c0_1:Nat) (l0_1:List (List Int)) (r:Bool) (w:World) (hr0_0:Kd.C (Kd.int .i64) w A0_0 l0_0.length l0_0) (hc0_0:l0_0.length≤c0_0) (hr0_1:Kd.C (Kd.slice 3 (Kd.int .i64)) w A0_1 l0_1.length l0_1) (hc0_1:l0_1.length≤c0_1) (h:spec_GoodStats.f k l0_0 l0_1=some r) :
  Calls Try.prog 23 #[.agg #[.slice A0_0 l0_0.length c0_0,.slice A0_1 l0_1.length c0_1]] w fun e w'=>e=.returned (.bool r)∧Below w.heap.size w w':=by
 have hu29:=Try.underlying29;have HR0_0:=qK hr0_0;have HC0_0:=qK hc0_0;clear hr0_0 hc0_0;have HR0_1:=qK hr0_1;have HC0_1:=qK hc0_1;clear hr0_1 hc0_1;have HB:=qK (Below.refl w.heap.size w);have H:((spec_l1In.f (l0_0.length:Int) 1 6).bind fun t107=>(if t107=true then (spec_GoodStats.j0 k ((l0_1.length:Int) != (l0_0.length:Int)) l0_0 l0_1) else (spec_GoodStats.j0 k true l0_0 l0_1)))=some r:=h;clear h;have HC2:=qK H;clear H;go_enter Try.func23,Try.ntmps23
 go_upto_region 1 with (first|((with_reducible refine gate_dst (N:=1) rfl ?_);(try (refine gate_guard (by rfl) ?_;dsimp only));refine box_event ?hg (N:=1) ?hd (cs:=#[.slice A0_0 l0_0.length c0_0,.slice A0_1 l0_1.length c0_1]) (t:=29) ?hr ?_;(case hd=>rfl);(case hg=>rfl);(case hr=>(go_simp;try rfl));intro gb106 hg w3 hbox hb;have n0_:=qK (qT (by repeat (with_reducible first|exact HB.out|apply qA|apply qD|apply qO)) hb);have n1_:=qK (hbox);have n2_:=qK ((by rw [hg];exact (qZ (by repeat (with_reducible first|exact HB.out|apply qA|apply qD|apply qO))):w.heap.size≤gb106));have n3_:=qK ((by rw [hg];exact (qZ (by repeat (with_reducible first|exact HB.out|apply qA|apply qD|apply qO))):w.heap.size≤gb106));clear HB;have HB:=n0_;have BK106:=n1_;have GW106:=n2_;have GE106:=n3_;clear n0_ n1_ n2_ n3_;clear hb hbox hg))
 (try simp only [Act.put,List.setIfInBounds_toArray,List.set_cons_zero,List.set_cons_succ]);go_cut [20] (fun v20 wc=>∃ (kq:Nat) (x20_1:Bool),v20=.bool x20_1∧Aside0 (spec_GoodStats.j0 kq x20_1 l0_0 l0_1=some r)∧Aside0 (kq≤k)∧Aside0 (wc.heap[gb106]?=some (.cells #[(.slice A0_0 l0_0.length c0_0),(.slice A0_1 l0_1.length c0_1)] 29 (0,0)))∧Aside0 (Below w.heap.size w wc))
 case first =>
  have H:=HC2.out;clear HC2;replace H:=Option.bind_eq_some_iff.mp H;obtain ⟨t107,A40,H⟩:=H;replace H:(if t107=true then (spec_GoodStats.j0 k ((l0_1.length:Int) != (l0_0.length:Int)) l0_0 l0_1) else (spec_GoodStats.j0 k true l0_0 l0_1))=some r:=H;have A4:=qK A40;clear A40;by_cases c5:t107=true
  ·subst c5;have H1:(spec_GoodStats.j0 k ((l0_1.length:Int) != (l0_0.length:Int)) l0_0 l0_1)=some r:=by rw [if_pos rfl] at H;exact H
   clear H;have H:=H1;clear H1;have H':=qK H;clear H;have hcz6_0:w3.cell? ⟨gb106,0,none⟩=some (.slice A0_0 l0_0.length c0_0):=(qC BK106.out 0).trans rfl;have hcz6_1:w3.cell? ⟨gb106,1,none⟩=some (.slice A0_1 l0_1.length c0_1):=(qC BK106.out 1).trans rfl;have hfz6_0:=qF BK106.out 0;have hfz6_1:=qF BK106.out 1;go_wp2_with (first|((with_reducible refine gate_callee (f:=49) rfl ?_);refine goesL_ (some 10) rfl rfl Try.func49 (by kernel_rfl) rfl #[.int .i64 (l0_0.length:Int),.int .i64 1,.int .i64 6] rfl (by (try simp only [mT,mC,mN]);first|done|rfl|(simp only [lD,lT];rfl)) ?_;(with_reducible refine (spec_l1In.calls (l0_0.length:Int) 1 6 true _ A4.out).mono ?_);rintro e w' ⟨rfl,⟨nd,rfl⟩⟩;refine ⟨_,rfl,?_⟩))
   go_meet
   case rel=>exact ⟨_,(((l0_1.length:Int) != (l0_0.length:Int))),(by first|rfl|(simp;done)|(simp [*];done)),H',⟨by first|omega|exact Nat.le_refl _⟩,⟨by (with_reducible repeat (first|refine qN ?_ _|refine qW ?_|refine qL ?_ _));exact BK106.out⟩,⟨by repeat (first|(with_reducible first|exact HB.out|apply qA|apply qD|apply qO|refine qS ?_ GE106.out)|exact HB.out)⟩⟩
  ·replace c5:=Bool.eq_false_iff.mpr c5;subst c5;have H1:(spec_GoodStats.j0 k true l0_0 l0_1)=some r:=by rw [if_neg (show ¬ (false=true) by decide)] at H;exact H
   clear H;have H:=H1;clear H1;have H':=qK H;clear H;have hcz7_0:w3.cell? ⟨gb106,0,none⟩=some (.slice A0_0 l0_0.length c0_0):=(qC BK106.out 0).trans rfl;have hcz7_1:w3.cell? ⟨gb106,1,none⟩=some (.slice A0_1 l0_1.length c0_1):=(qC BK106.out 1).trans rfl;have hfz7_0:=qF BK106.out 0;have hfz7_1:=qF BK106.out 1;go_wp2_with (first|((with_reducible refine gate_callee (f:=49) rfl ?_);refine goesL_ (some 10) rfl rfl Try.func49 (by kernel_rfl) rfl #[.int .i64 (l0_0.length:Int),.int .i64 1,.int .i64 6] rfl (by (try simp only [mT,mC,mN]);first|done|rfl|(simp only [lD,lT];rfl)) ?_;(with_reducible refine (spec_l1In.calls (l0_0.length:Int) 1 6 false _ A4.out).mono ?_);rintro e w' ⟨rfl,⟨nd,rfl⟩⟩;refine ⟨_,rfl,?_⟩))
   go_meet
   case rel=>exact ⟨_,(true),(by first|rfl|(simp;done)|(simp [*];done)),H',⟨by first|omega|exact Nat.le_refl _⟩,⟨by (with_reducible repeat (first|refine qN ?_ _|refine qW ?_|refine qL ?_ _));exact BK106.out⟩,⟨by repeat (first|(with_reducible first|exact HB.out|apply qA|apply qD|apply qO|refine qS ?_ GE106.out)|exact HB.out)⟩⟩
 case rest =>
  clear HC2;try clear c2
  try clear p2
  try clear c4
  try clear c5
  try clear hcz6_0
  try clear hcz6_1
  try clear hcz7_0
  try clear hcz7_1
  try clear hfz6_0
  try clear hfz6_1
  try clear hfz7_0
  try clear hfz7_1
  obtain ⟨kq,x20_1,rfl,HA,HJ1,BK106,HB⟩:=hcut;cases kq with
  | zero=>exact absurd HA.out (by simp [spec_GoodStats.j0])
  | succ kj1 =>
   have H:=HA.out;clear HA;simp only [spec_GoodStats.j0] at H;by_cases c8:x20_1=true
   ·subst c8;have H1:(some false)=some r:=by rw [if_pos rfl] at H;exact H
    clear H;have H:=H1;clear H1;obtain rfl:=Option.some.inj H;go_wp2
    go_ret
    exact ⟨by first|rfl|(simp [errW_none,errW_some] <;> rfl)|(simp [*,errW_none,errW_some] <;> rfl),by repeat (first|(with_reducible first|exact HB.out|apply qA|apply qD|apply qO|refine qS ?_ GE106.out)|exact HB.out)⟩
   ·replace c8:=Bool.eq_false_iff.mpr c8;subst c8;have H1:(spec_GoodStats.l0 kj1 l0_0 (l0_0.length:Int) 0 l0_0 l0_1)=some r:=by rw [if_neg (show ¬ (false=true) by decide)] at H;exact H
    clear H;have H:=H1;clear H1;have H':=qK H;clear H;have hcz9_0:wc.cell? ⟨gb106,0,none⟩=some (.slice A0_0 l0_0.length c0_0):=(qC BK106.out 0).trans rfl;have hcz9_1:wc.cell? ⟨gb106,1,none⟩=some (.slice A0_1 l0_1.length c0_1):=(qC BK106.out 1).trans rfl;have hfz9_0:=qF BK106.out 0;have hfz9_1:=qF BK106.out 1;go_wp2
    go_loopg [24] kj1 (fun kq v24 w'=>∃ (x24_2:Int),v24=.int .i64 x24_2∧Aside0 (spec_GoodStats.l0 kq l0_0 (l0_0.length:Int) x24_2 l0_0 l0_1=some r)∧Aside0 (kq≤kj1)∧Aside0 (w'.heap[gb106]?=some (.cells #[(.slice A0_0 l0_0.length c0_0),(.slice A0_1 l0_1.length c0_1)] 29 (0,0)))∧Aside0 (Below w.heap.size w w'))
    case atStart=>exact ⟨(0),(by first|rfl|(simp;done)|(simp [*];done)),H',⟨Nat.le_refl _⟩,⟨by (with_reducible repeat (first|refine qN ?_ _|refine qW ?_|refine qL ?_ _));exact BK106.out⟩,⟨by repeat (first|(with_reducible first|exact HB.out|apply qA|apply qD|apply qO|refine qS ?_ GE106.out)|exact HB.out)⟩⟩
    case round =>
     clear H';try clear c2
     try clear p2
     try clear c4
     try clear c5
     try clear c8
     try clear hcz6_0
     try clear hcz6_1
     try clear hcz7_0
     try clear hcz7_1
     try clear hcz9_0
     try clear hcz9_1
     try clear hfz6_0
     try clear hfz6_1
     try clear hfz7_0
     try clear hfz7_1
     try clear hfz9_0
     try clear hfz9_1
     try clear p2
     obtain ⟨x24_2,rfl,HA,HK2,BK106,HB⟩:=hrel;cases gk with
     | zero=>exact absurd HA.out (by simp [spec_GoodStats.l0])
     | succ k2 =>
      have H:=HA.out;clear HA;simp only [spec_GoodStats.l0] at H;by_cases c10:x24_2 < (l0_0.length:Int)
      ·rw [if_pos c10] at H;have c10b0:decide (x24_2 < (l0_0.length:Int))=true:=decide_eq_true c10;clear c10;by_cases c11:0≤x24_2
       ·rw [if_pos c11] at H;have c11b0:decide (0≤x24_2)=true:=decide_eq_true c11;clear c11;by_cases c12:x24_2 < (l0_0.length:Int)
        ·rw [if_pos c12] at H;have c12b0:decide (x24_2 < (l0_0.length:Int))=true:=decide_eq_true c12;clear c12;have HC13:=qK H;clear H;have p108:0≤(x24_2:Int):=of_decide_eq_true (by first|(with_reducible assumption)|assumption);have q108:x24_2 < (l0_0.length:Int):=of_decide_eq_true (by first|(with_reducible assumption)|assumption);obtain ⟨ad108,e108,hx108_0⟩:=Kd.at_int HR0_0.out x24_2 p108 q108;cases e108
         replace hx108_0:=(HB.out.cell (World.block_lt_of_cell? w _ hx108_0)).trans hx108_0;replace p108:=eq_true p108;replace q108:=eq_true q108;go_upto_region 6 with (fail)
         go_cut [41] (fun v41 wc=>∃ (kq:Nat) (x41_12:Bool),v41=.bool x41_12∧Aside0 (spec_GoodStats.j2 kq x24_2 l0_0 (l0_0.length:Int) x24_2 x41_12 l0_0 l0_1=some r)∧Aside0 (kq≤k2)∧Aside0 (wc.heap[gb106]?=some (.cells #[(.slice (some ad108) l0_0.length c0_0),(.slice A0_1 l0_1.length c0_1)] 29 (0,0)))∧Aside0 (Below w.heap.size w wc))
         case first =>
          have H:=HC13.out;clear HC13;replace H:=Option.bind_eq_some_iff.mp H;obtain ⟨t109,A140,H⟩:=H;replace H:(if t109=true then (if x24_2 < (l0_1.length:Int) then (spec_GoodStats.j2 k2 x24_2 l0_0 (l0_0.length:Int) x24_2 (((rd_L1 l0_1 x24_2).length:Int) != x24_2) l0_0 l0_1) else (none)) else (spec_GoodStats.j2 k2 x24_2 l0_0 (l0_0.length:Int) x24_2 true l0_0 l0_1))=some r:=H;have A14:=qK A140;clear A140;by_cases c15:t109=true
          ·subst c15;have H1:(if x24_2 < (l0_1.length:Int) then (spec_GoodStats.j2 k2 x24_2 l0_0 (l0_0.length:Int) x24_2 (((rd_L1 l0_1 x24_2).length:Int) != x24_2) l0_0 l0_1) else (none))=some r:=by rw [if_pos rfl] at H;exact H
           clear H;have H:=H1;clear H1;by_cases c16:x24_2 < (l0_1.length:Int)
           ·rw [if_pos c16] at H;have c16b0:decide (x24_2 < (l0_1.length:Int))=true:=decide_eq_true c16;clear c16;(first|rw [c16b0]|(simp only [i64_w,i32_w];rw [c16b0])|skip);have H':=qK H;clear H;go_wp2_with (first|((with_reducible refine gate_callee (f:=49) rfl ?_);refine goesL_ (some 30) rfl rfl Try.func49 (by kernel_rfl) rfl #[.int .i64 (rd l0_0 x24_2),.int .i64 1,.int .i64 50] rfl (by (try simp only [mT,mC,mN]);first|done|rfl|(simp only [lD,lT];rfl)) ?_;(with_reducible refine (spec_l1In.calls (rd l0_0 x24_2) 1 50 true _ A14.out).mono ?_);rintro e w' ⟨rfl,⟨nd,rfl⟩⟩;refine ⟨_,rfl,?_⟩;have hcz17_0:wr.cell? ⟨gb106,0,none⟩=some (.slice (some ad108) l0_0.length c0_0):=(qC BK106.out 0).trans rfl;have hcz17_1:wr.cell? ⟨gb106,1,none⟩=some (.slice A0_1 l0_1.length c0_1):=(qC BK106.out 1).trans rfl;have hfz17_0:=qF BK106.out 0;have hfz17_1:=qF BK106.out 1;have p110:0≤(x24_2:Int):=of_decide_eq_true (by first|(with_reducible assumption)|assumption);have q110:x24_2 < (l0_1.length:Int):=of_decide_eq_true (by first|(with_reducible assumption)|assumption);obtain ⟨ad110,A110_0,c110_0,e110,hx110_0,hl110_0,hi110_0⟩:=at_L1 HR0_1.out x24_2 p110 q110;cases e110;replace hx110_0:=(HB.out.cell (World.block_lt_of_cell? w _ hx110_0)).trans hx110_0;have HR110_0:=qK hi110_0;have HC110_0:=qK hl110_0;clear hi110_0 hl110_0;replace p110:=eq_true p110;replace q110:=eq_true q110))
            go_meet
            case rel=>exact ⟨_,((((rd_L1 l0_1 x24_2).length:Int) != x24_2)),(by first|rfl|(simp;done)|(simp [*];done)),H',⟨by have:=HJ1.out;have:=HK2.out;first|omega|exact Nat.le_refl _⟩,⟨by (with_reducible repeat (first|refine qN ?_ _|refine qW ?_|refine qL ?_ _));exact BK106.out⟩,⟨by repeat (first|(with_reducible first|exact HB.out|apply qA|apply qD|apply qO|refine qS ?_ GE106.out)|exact HB.out)⟩⟩
           ·rw [if_neg c16] at H;exact absurd H (by simp)
          ·replace c15:=Bool.eq_false_iff.mpr c15;subst c15;have H1:(spec_GoodStats.j2 k2 x24_2 l0_0 (l0_0.length:Int) x24_2 true l0_0 l0_1)=some r:=by rw [if_neg (show ¬ (false=true) by decide)] at H;exact H
           clear H;have H:=H1;clear H1;have H':=qK H;clear H;go_wp2_with (first|((with_reducible refine gate_callee (f:=49) rfl ?_);refine goesL_ (some 30) rfl rfl Try.func49 (by kernel_rfl) rfl #[.int .i64 (rd l0_0 x24_2),.int .i64 1,.int .i64 50] rfl (by (try simp only [mT,mC,mN]);first|done|rfl|(simp only [lD,lT];rfl)) ?_;(with_reducible refine (spec_l1In.calls (rd l0_0 x24_2) 1 50 false _ A14.out).mono ?_);rintro e w' ⟨rfl,⟨nd,rfl⟩⟩;refine ⟨_,rfl,?_⟩))
           go_meet
           case rel=>exact ⟨_,(true),(by first|rfl|(simp;done)|(simp [*];done)),H',⟨by have:=HJ1.out;have:=HK2.out;first|omega|exact Nat.le_refl _⟩,⟨by (with_reducible repeat (first|refine qN ?_ _|refine qW ?_|refine qL ?_ _));exact BK106.out⟩,⟨by repeat (first|(with_reducible first|exact HB.out|apply qA|apply qD|apply qO|refine qS ?_ GE106.out)|exact HB.out)⟩⟩
         case rest =>
          clear HC13;try clear c1
          try clear p1
          try clear q1
          try clear hx1
          try clear c2
          try clear p2
          try clear c4
          try clear c5
          try clear c8
          try clear c10
          try clear c10b0
          try clear p10
          try clear q10
          try clear hx10
          try clear c11
          try clear c11b0
          try clear p11
          try clear q11
          try clear hx11
          try clear c12
          try clear c12b0
          try clear c15
          try clear c16
          try clear c16b0
          try clear hcz17_0
          try clear hcz17_1
          try clear hcz6_0
          try clear hcz6_1
          try clear hcz7_0
          try clear hcz7_1
          try clear hcz9_0
          try clear hcz9_1
          try clear hfz17_0
          try clear hfz17_1
          try clear hfz6_0
          try clear hfz6_1
          try clear hfz7_0
          try clear hfz7_1
          try clear hfz9_0
          try clear hfz9_1
          try clear hx108_0
          try clear hx110_0
          try clear p108
          try clear p110
          try clear p2
          try clear q108
          try clear q110
          obtain ⟨kq,x41_12,rfl,HA,HJ12,BK106,HB⟩:=hcut;cases kq with
          | zero=>exact absurd HA.out (by simp [spec_GoodStats.j2])
          | succ kj12 =>
           have H:=HA.out;clear HA;simp only [spec_GoodStats.j2] at H;by_cases c18:x41_12=true
           ·subst c18;have H1:(some false)=some r:=by rw [if_pos rfl] at H;exact H
            clear H;have H:=H1;clear H1;obtain rfl:=Option.some.inj H;go_wp2
            go_ret
            exact ⟨by first|rfl|(simp [errW_none,errW_some] <;> rfl)|(simp [*,errW_none,errW_some] <;> rfl),by repeat (first|(with_reducible first|exact HB.out|apply qA|apply qD|apply qO|refine qS ?_ GE106.out)|exact HB.out)⟩
           ·replace c18:=Bool.eq_false_iff.mpr c18;subst c18;have H1:(if 0≤x24_2 then (if x24_2 < (l0_1.length:Int) then (spec_GoodStats.l1 kj12 l0_0 (l0_0.length:Int) x24_2 (rd_L1 l0_1 x24_2) ((rd_L1 l0_1 x24_2).length:Int) 0 l0_0 l0_1) else (none)) else (none))=some r:=by rw [if_neg (show ¬ (false=true) by decide)] at H;exact H
            clear H;have H:=H1;clear H1;by_cases c19:0≤x24_2
            ·rw [if_pos c19] at H;have c19b0:decide (0≤x24_2)=true:=decide_eq_true c19;clear c19;by_cases c20:x24_2 < (l0_1.length:Int)
             ·rw [if_pos c20] at H;have c20b0:decide (x24_2 < (l0_1.length:Int))=true:=decide_eq_true c20;clear c20;have H':=qK H;clear H;have hcz21_0:wc.cell? ⟨gb106,0,none⟩=some (.slice (some ad108) l0_0.length c0_0):=(qC BK106.out 0).trans rfl;have hcz21_1:wc.cell? ⟨gb106,1,none⟩=some (.slice A0_1 l0_1.length c0_1):=(qC BK106.out 1).trans rfl;have hfz21_0:=qF BK106.out 0;have hfz21_1:=qF BK106.out 1;have p111:0≤(x24_2:Int):=of_decide_eq_true (by first|(with_reducible assumption)|assumption);have q111:x24_2 < (l0_1.length:Int):=of_decide_eq_true (by first|(with_reducible assumption)|assumption);obtain ⟨ad111,A111_0,c111_0,e111,hx111_0,hl111_0,hi111_0⟩:=at_L1 HR0_1.out x24_2 p111 q111;cases e111
              replace hx111_0:=(HB.out.cell (World.block_lt_of_cell? w _ hx111_0)).trans hx111_0;have HR111_0:=qK hi111_0;have HC111_0:=qK hl111_0;clear hi111_0 hl111_0;replace p111:=eq_true p111;replace q111:=eq_true q111;go_wp2
              go_loopg [48] kj12 (fun kq v48 w'=>∃ (x48_4:Int),v48=.int .i64 x48_4∧Aside0 (spec_GoodStats.l1 kq l0_0 (l0_0.length:Int) x24_2 (rd_L1 l0_1 x24_2) ((rd_L1 l0_1 x24_2).length:Int) x48_4 l0_0 l0_1=some r)∧Aside0 (kq≤kj12)∧Aside0 (w'.heap[gb106]?=some (.cells #[(.slice (some ad108) l0_0.length c0_0),(.slice (some ad111) l0_1.length c0_1)] 29 (0,0)))∧Aside0 (Below w.heap.size w w'))
              case atStart=>exact ⟨(0),(by first|rfl|(simp;done)|(simp [*];done)),H',⟨Nat.le_refl _⟩,⟨by (with_reducible repeat (first|refine qN ?_ _|refine qW ?_|refine qL ?_ _));exact BK106.out⟩,⟨by repeat (first|(with_reducible first|exact HB.out|apply qA|apply qD|apply qO|refine qS ?_ GE106.out)|exact HB.out)⟩⟩
              case round =>
               clear H';try clear c1
               try clear p1
               try clear q1
               try clear hx1
               try clear c2
               try clear p2
               try clear c4
               try clear c5
               try clear c8
               try clear c10
               try clear c10b0
               try clear p10
               try clear q10
               try clear hx10
               try clear c11
               try clear c11b0
               try clear p11
               try clear q11
               try clear hx11
               try clear c12
               try clear c12b0
               try clear c15
               try clear c16
               try clear c16b0
               try clear c18
               try clear c19
               try clear c19b0
               try clear c20
               try clear c20b0
               try clear hcz17_0
               try clear hcz17_1
               try clear hcz21_0
               try clear hcz21_1
               try clear hcz6_0
               try clear hcz6_1
               try clear hcz7_0
               try clear hcz7_1
               try clear hcz9_0
               try clear hcz9_1
               try clear hfz17_0
               try clear hfz17_1
               try clear hfz21_0
               try clear hfz21_1
               try clear hfz6_0
               try clear hfz6_1
               try clear hfz7_0
               try clear hfz7_1
               try clear hfz9_0
               try clear hfz9_1
               try clear hx108_0
               try clear hx110_0
               try clear hx111_0
               try clear p1
               try clear p10
               try clear p108
               try clear p11
               try clear p110
               try clear p111
               try clear p2
               try clear q1
               try clear q10
               try clear q108
               try clear q11
               try clear q110
               try clear q111
               obtain ⟨x48_4,rfl,HA,HK4,BK106,HB⟩:=hrel;cases gk with
               | zero=>exact absurd HA.out (by simp [spec_GoodStats.l1])
               | succ k4 =>
                have H:=HA.out;clear HA;simp only [spec_GoodStats.l1] at H;by_cases c22:x48_4 < ((rd_L1 l0_1 x24_2).length:Int)
                ·rw [if_pos c22] at H;have c22b0:decide (x48_4 < ((rd_L1 l0_1 x24_2).length:Int))=true:=decide_eq_true c22;clear c22;by_cases c23:0≤x48_4
                 ·rw [if_pos c23] at H;have c23b0:decide (0≤x48_4)=true:=decide_eq_true c23;clear c23;by_cases c24:x48_4 < ((rd_L1 l0_1 x24_2).length:Int)
                  ·rw [if_pos c24] at H;have c24b0:decide (x48_4 < ((rd_L1 l0_1 x24_2).length:Int))=true:=decide_eq_true c24;clear c24;replace H:=Option.bind_eq_some_iff.mp H;obtain ⟨t113,A250,H⟩:=H;replace H:(if t113=true then (spec_GoodStats.l1 k4 l0_0 (l0_0.length:Int) x24_2 (rd_L1 l0_1 x24_2) ((rd_L1 l0_1 x24_2).length:Int) (wrap64 (x48_4 + 1)) l0_0 l0_1) else (some false))=some r:=H;have A25:=qK A250;clear A250;by_cases c26:t113=true
                   ·subst c26;have H1:(spec_GoodStats.l1 k4 l0_0 (l0_0.length:Int) x24_2 (rd_L1 l0_1 x24_2) ((rd_L1 l0_1 x24_2).length:Int) (wrap64 (x48_4 + 1)) l0_0 l0_1)=some r:=by rw [if_pos rfl] at H;exact H
                    clear H;have H:=H1;clear H1;have H':=qK H;clear H;have p112:0≤(x48_4:Int):=of_decide_eq_true (by first|(with_reducible assumption)|assumption);have q112:x48_4 < ((rd_L1 l0_1 x24_2).length:Int):=of_decide_eq_true (by first|(with_reducible assumption)|assumption);obtain ⟨ad112,e112,hx112_0⟩:=Kd.at_int HR111_0.out x48_4 p112 q112;cases e112
                    replace hx112_0:=(HB.out.cell (World.block_lt_of_cell? w _ hx112_0)).trans hx112_0;replace p112:=eq_true p112;replace q112:=eq_true q112;go_wp2_with (first|((with_reducible refine gate_callee (f:=49) rfl ?_);refine goesL_ (some 53) rfl rfl Try.func49 (by kernel_rfl) rfl #[.int .i64 (rd (rd_L1 l0_1 x24_2) x48_4),.int .i64 1,.int .i64 10] rfl (by (try simp only [mT,mC,mN]);first|done|rfl|(simp only [lD,lT];rfl)) ?_;(with_reducible refine (spec_l1In.calls (rd (rd_L1 l0_1 x24_2) x48_4) 1 10 true _ A25.out).mono ?_);rintro e w' ⟨rfl,⟨nd,rfl⟩⟩;refine ⟨_,rfl,?_⟩))
                    go_roundg k4
                    case measure=>have:=HJ1.out;have:=HK2.out;have:=HJ12.out;have:=HK4.out;omega
                    case rel=>exact ⟨(wrap64 (x48_4 + 1)),(by first|rfl|(simp;done)|(simp [*];done)),H',⟨by have:=HJ1.out;have:=HK2.out;have:=HJ12.out;have:=HK4.out;omega⟩,⟨by (with_reducible repeat (first|refine qN ?_ _|refine qW ?_|refine qL ?_ _));exact BK106.out⟩,⟨by repeat (first|(with_reducible first|exact HB.out|apply qA|apply qD|apply qO|refine qS ?_ GE106.out)|exact HB.out)⟩⟩
                   ·replace c26:=Bool.eq_false_iff.mpr c26;subst c26;have H1:(some false)=some r:=by rw [if_neg (show ¬ (false=true) by decide)] at H;exact H
                    clear H;have H:=H1;clear H1;obtain rfl:=Option.some.inj H;have p112:0≤(x48_4:Int):=of_decide_eq_true (by first|(with_reducible assumption)|assumption);have q112:x48_4 < ((rd_L1 l0_1 x24_2).length:Int):=of_decide_eq_true (by first|(with_reducible assumption)|assumption);obtain ⟨ad112,e112,hx112_0⟩:=Kd.at_int HR111_0.out x48_4 p112 q112;cases e112
                    replace hx112_0:=(HB.out.cell (World.block_lt_of_cell? w _ hx112_0)).trans hx112_0;replace p112:=eq_true p112;replace q112:=eq_true q112;go_wp2_with (first|((with_reducible refine gate_callee (f:=49) rfl ?_);refine goesL_ (some 53) rfl rfl Try.func49 (by kernel_rfl) rfl #[.int .i64 (rd (rd_L1 l0_1 x24_2) x48_4),.int .i64 1,.int .i64 10] rfl (by (try simp only [mT,mC,mN]);first|done|rfl|(simp only [lD,lT];rfl)) ?_;(with_reducible refine (spec_l1In.calls (rd (rd_L1 l0_1 x24_2) x48_4) 1 10 false _ A25.out).mono ?_);rintro e w' ⟨rfl,⟨nd,rfl⟩⟩;refine ⟨_,rfl,?_⟩))
                    go_ret
                    exact ⟨by first|rfl|(simp [errW_none,errW_some] <;> rfl)|(simp [*,errW_none,errW_some] <;> rfl),by repeat (first|(with_reducible first|exact HB.out|apply qA|apply qD|apply qO|refine qS ?_ GE106.out)|exact HB.out)⟩
                  ·rw [if_neg c24] at H;exact absurd H (by simp)
                 ·rw [if_neg c23] at H;exact absurd H (by simp)
                ·rw [if_neg c22] at H;have c22b0:decide (x48_4 < ((rd_L1 l0_1 x24_2).length:Int))=false:=decide_eq_false c22;clear c22;have H':=qK H;clear H;go_wp2
                 go_roundg k4
                 case measure=>have:=HJ1.out;have:=HK2.out;have:=HJ12.out;have:=HK4.out;omega
                 case rel=>exact ⟨(wrap64 (x24_2 + 1)),(by first|rfl|(simp;done)|(simp [*];done)),H',⟨by have:=HJ1.out;have:=HK2.out;have:=HJ12.out;have:=HK4.out;omega⟩,⟨by (with_reducible repeat (first|refine qN ?_ _|refine qW ?_|refine qL ?_ _));exact BK106.out⟩,⟨by repeat (first|(with_reducible first|exact HB.out|apply qA|apply qD|apply qO|refine qS ?_ GE106.out)|exact HB.out)⟩⟩
             ·rw [if_neg c20] at H;exact absurd H (by simp)
            ·rw [if_neg c19] at H;exact absurd H (by simp)
        ·rw [if_neg c12] at H;exact absurd H (by simp)
       ·rw [if_neg c11] at H;exact absurd H (by simp)
      ·rw [if_neg c10] at H;have c10b0:decide (x24_2 < (l0_0.length:Int))=false:=decide_eq_false c10;clear c10;obtain rfl:=Option.some.inj H;go_wp2
       go_ret
       exact ⟨by first|rfl|(simp [errW_none,errW_some] <;> rfl)|(simp [*,errW_none,errW_some] <;> rfl),by repeat (first|(with_reducible first|exact HB.out|apply qA|apply qD|apply qO|refine qS ?_ GE106.out)|exact HB.out)⟩

/-! ### spec_l1Some: function 30 -/
def spec_l1Some.l0 : Nat→List Int→Int→List Int→Int→Int→Option (Bool)
 | 0,_,_,_,_,_=>none
 | k + 1,x0,x1,x7,x8,x9=>if x9 < x8 then (if 0≤x9 then (if x9 < (x7.length:Int) then (if (rd x7 x9) < 0 then (some false) else (if (rd x7 x9) ≥ x1 then (some false) else (if x9 > 0 then (if 0≤(wrap64 (x9 - 1)) then (if (wrap64 (x9 - 1)) < (x0.length:Int) then (if (rd x0 (wrap64 (x9 - 1))) ≥ (rd x7 x9) then (some false) else (spec_l1Some.l0 k x0 x1 x7 x8 (wrap64 (x9 + 1)))) else (none)) else (none)) else (spec_l1Some.l0 k x0 x1 x7 x8 (wrap64 (x9 + 1)))))) else (none)) else (none)) else (some true)
def spec_l1Some.f (k:Nat) (l0:List Int) (a1:Int):Option (Bool):=spec_l1Some.l0 k l0 a1 l0 (l0.length:Int) 0
theorem spec_l1Some.mono_l : ∀ k,(∀ y0 y1 y2 y3 y4,LeO (spec_l1Some.l0 k y0 y1 y2 y3 y4) (spec_l1Some.l0 (k + 1) y0 y1 y2 y3 y4))
 | 0=>fun _ _ _ _ _ r h=>by simp [spec_l1Some.l0] at h
 | k + 1=>by
  have ih0:=spec_l1Some.mono_l k
  ·intro y0 y1 y2 y3 y4;unfold spec_l1Some.l0
   repeat' first
   | (with_reducible exact ih0 _ _ _ _ _)
   | (with_reducible exact LeO.refl _)
   | (with_reducible exact LeO.none _)
   | (with_reducible refine LeO.ite ?_ ?_)
   | (with_reducible refine LeO.bind ?_ (fun _=>?_))
   | exact ih0 _ _ _ _ _
   | exact LeO.none _
   | refine LeO.ite ?_ ?_
   | refine LeO.bind ?_ (fun _=>?_)
theorem spec_l1Some.mono : ∀ a0 a1 k,LeO (spec_l1Some.f k a0 a1) (spec_l1Some.f (k + 1) a0 a1):=by
 intro a0 a1 k;have ih0:=spec_l1Some.mono_l k;unfold spec_l1Some.f
 repeat' first
   | (with_reducible exact ih0 _ _ _ _ _)
   | (with_reducible exact LeO.refl _)
   | (with_reducible exact LeO.none _)
   | (with_reducible refine LeO.ite ?_ ?_)
   | (with_reducible refine LeO.bind ?_ (fun _=>?_))
   | exact ih0 _ _ _ _ _
   | exact LeO.none _
   | refine LeO.ite ?_ ?_
   | refine LeO.bind ?_ (fun _=>?_)
set_option maxHeartbeats 8000000 in
set_option maxRecDepth 100000 in
theorem spec_l1Some.calls (k:Nat) (A0:Option Addr) (c0:Nat) (l0:List Int) (a1:Int) (r:Bool) (w:World) (hr0:Kd.C (Kd.int .i64) w A0 l0.length l0) (hc0:l0.length≤c0) (h:spec_l1Some.f k l0 a1=some r) :
  Calls Try.prog 30 #[.slice A0 l0.length c0,.int .i64 a1] w fun e w'=>e=.returned (.bool r)∧Drawn0 w w':=by
 have HR0:=qK hr0;have HC0:=qK hc0;clear hr0 hc0;have H:(spec_l1Some.l0 k l0 a1 l0 (l0.length:Int) 0)=some r:=h;clear h;have H':=qK H;clear H;go_enter Try.func30,Try.ntmps30
 go_wp2
 go_loopg [9] k (fun kq v9 w'=>∃ (x9_1:Int),v9=.int .i64 x9_1∧Aside0 (spec_l1Some.l0 kq l0 a1 l0 (l0.length:Int) x9_1=some r)∧Aside0 (kq≤k)∧Drawn0 w w')
 case atStart=>exact ⟨(0),(by first|rfl|(simp;done)|(simp [*];done)),H',⟨Nat.le_refl _⟩,by repeat (first|exact Drawn0.refl _|apply Drawn0.step)⟩
 case round =>
  clear H';try clear p2
  obtain ⟨x9_1,rfl,HA,HK1,⟨m1,rfl⟩⟩:=hrel;cases gk with
  | zero=>exact absurd HA.out (by simp [spec_l1Some.l0])
  | succ k1 =>
   have H:=HA.out;clear HA;simp only [spec_l1Some.l0] at H;by_cases c3:x9_1 < (l0.length:Int)
   ·rw [if_pos c3] at H;have c3b0:decide (x9_1 < (l0.length:Int))=true:=decide_eq_true c3;clear c3;by_cases c4:0≤x9_1
    ·rw [if_pos c4] at H;have c4b0:decide (0≤x9_1)=true:=decide_eq_true c4;clear c4;by_cases c5:x9_1 < (l0.length:Int)
     ·rw [if_pos c5] at H;have c5b0:decide (x9_1 < (l0.length:Int))=true:=decide_eq_true c5;clear c5;by_cases c6:(rd l0 x9_1) < 0
      ·rw [if_pos c6] at H;have c6b0:decide ((rd l0 x9_1) < 0)=true:=decide_eq_true c6;clear c6;obtain rfl:=Option.some.inj H;have p114:0≤(x9_1:Int):=of_decide_eq_true (by first|(with_reducible assumption)|assumption);have q114:x9_1 < (l0.length:Int):=of_decide_eq_true (by first|(with_reducible assumption)|assumption);obtain ⟨ad114,e114,hx114_0⟩:=Kd.at_int HR0.out x9_1 p114 q114;cases e114
       replace p114:=eq_true p114;replace q114:=eq_true q114;go_wp2
       go_ret
       exact ⟨by first|rfl|(simp;done)|(simp [*];done),by repeat (first|exact Drawn0.refl _|apply Drawn0.step)⟩
      ·rw [if_neg c6] at H;have c6b0:decide ((rd l0 x9_1) < 0)=false:=decide_eq_false c6;clear c6;by_cases c7:(rd l0 x9_1) ≥ a1
       ·rw [if_pos c7] at H;have c7b0:decide (a1≤(rd l0 x9_1))=true:=decide_eq_true c7;clear c7;obtain rfl:=Option.some.inj H;have p114:0≤(x9_1:Int):=of_decide_eq_true (by first|(with_reducible assumption)|assumption);have q114:x9_1 < (l0.length:Int):=of_decide_eq_true (by first|(with_reducible assumption)|assumption);obtain ⟨ad114,e114,hx114_0⟩:=Kd.at_int HR0.out x9_1 p114 q114;cases e114
        replace p114:=eq_true p114;replace q114:=eq_true q114;go_wp2
        go_ret
        exact ⟨by first|rfl|(simp;done)|(simp [*];done),by repeat (first|exact Drawn0.refl _|apply Drawn0.step)⟩
       ·rw [if_neg c7] at H;have c7b0:decide (a1≤(rd l0 x9_1))=false:=decide_eq_false c7;clear c7;by_cases c8:x9_1 > 0
        ·rw [if_pos c8] at H;have c8b0:decide (0 < x9_1)=true:=decide_eq_true c8;clear c8;obtain ⟨ji9,hji9⟩:∃ j_:Int,(wrap64 (x9_1 - 1))=j_:=⟨_,rfl⟩;replace H:(if 0≤(ji9) then (if (ji9) < (l0.length:Int) then (if (rd l0 (ji9)) ≥ (rd l0 x9_1) then (some false) else (spec_l1Some.l0 k1 l0 a1 l0 (l0.length:Int) (wrap64 (x9_1 + 1)))) else (none)) else (none))=some r:=by first|(rw [hji9] at H;exact H)|(simp only [hji9] at H ⊢;exact H)
         have hji9w:(IntKind.i64.wrap (x9_1 - 1))=ji9:=(i64_w _).trans hji9;by_cases c10:0≤(ji9)
         ·rw [if_pos c10] at H;have c10b0:decide (0≤(ji9))=true:=decide_eq_true c10;clear c10;by_cases c11:(ji9) < (l0.length:Int)
          ·rw [if_pos c11] at H;have c11b0:decide ((ji9) < (l0.length:Int))=true:=decide_eq_true c11;clear c11;by_cases c12:(rd l0 (ji9)) ≥ (rd l0 x9_1)
           ·rw [if_pos c12] at H;have c12b0:decide ((rd l0 x9_1)≤(rd l0 (ji9)))=true:=decide_eq_true c12;clear c12;obtain rfl:=Option.some.inj H;have p114:0≤(x9_1:Int):=of_decide_eq_true (by first|(with_reducible assumption)|assumption);have q114:x9_1 < (l0.length:Int):=of_decide_eq_true (by first|(with_reducible assumption)|assumption);obtain ⟨ad114,e114,hx114_0⟩:=Kd.at_int HR0.out x9_1 p114 q114;cases e114
            replace p114:=eq_true p114;replace q114:=eq_true q114;have p115:0≤((ji9):Int):=of_decide_eq_true (by first|(with_reducible assumption)|assumption);have q115:(ji9) < (l0.length:Int):=of_decide_eq_true (by first|(with_reducible assumption)|assumption);obtain ⟨ad115,e115,hx115_0⟩:=Kd.at_int HR0.out (ji9) p115 q115;obtain rfl:ad114=ad115:=(by injection e115);replace p115:=eq_true p115;replace q115:=eq_true q115;go_wp2
            go_ret
            exact ⟨by first|rfl|(simp;done)|(simp only [← hji9] <;> (first|rfl|simp))|(simp [*];done),by repeat (first|exact Drawn0.refl _|apply Drawn0.step)⟩
           ·rw [if_neg c12] at H;have c12b0:decide ((rd l0 x9_1)≤(rd l0 (ji9)))=false:=decide_eq_false c12;clear c12;have H':=qK H;clear H;have p114:0≤(x9_1:Int):=of_decide_eq_true (by first|(with_reducible assumption)|assumption);have q114:x9_1 < (l0.length:Int):=of_decide_eq_true (by first|(with_reducible assumption)|assumption);obtain ⟨ad114,e114,hx114_0⟩:=Kd.at_int HR0.out x9_1 p114 q114;cases e114
            replace p114:=eq_true p114;replace q114:=eq_true q114;have p115:0≤((ji9):Int):=of_decide_eq_true (by first|(with_reducible assumption)|assumption);have q115:(ji9) < (l0.length:Int):=of_decide_eq_true (by first|(with_reducible assumption)|assumption);obtain ⟨ad115,e115,hx115_0⟩:=Kd.at_int HR0.out (ji9) p115 q115;obtain rfl:ad114=ad115:=(by injection e115);replace p115:=eq_true p115;replace q115:=eq_true q115;go_wp2
            go_roundg k1
            case measure=>have:=HK1.out;omega
            case rel=>exact ⟨(wrap64 (x9_1 + 1)),(by first|rfl|(simp;done)|(simp [*];done)),H',⟨by have:=HK1.out;omega⟩,by repeat (first|exact Drawn0.refl _|apply Drawn0.step)⟩
          ·rw [if_neg c11] at H;exact absurd H (by simp)
         ·rw [if_neg c10] at H;exact absurd H (by simp)
        ·rw [if_neg c8] at H;have c8b0:decide (0 < x9_1)=false:=decide_eq_false c8;clear c8;have H':=qK H;clear H;have p114:0≤(x9_1:Int):=of_decide_eq_true (by first|(with_reducible assumption)|assumption);have q114:x9_1 < (l0.length:Int):=of_decide_eq_true (by first|(with_reducible assumption)|assumption);obtain ⟨ad114,e114,hx114_0⟩:=Kd.at_int HR0.out x9_1 p114 q114;cases e114
         replace p114:=eq_true p114;replace q114:=eq_true q114;go_wp2
         go_roundg k1
         case measure=>have:=HK1.out;omega
         case rel=>exact ⟨(wrap64 (x9_1 + 1)),(by first|rfl|(simp;done)|(simp [*];done)),H',⟨by have:=HK1.out;omega⟩,by repeat (first|exact Drawn0.refl _|apply Drawn0.step)⟩
     ·rw [if_neg c5] at H;exact absurd H (by simp)
    ·rw [if_neg c4] at H;exact absurd H (by simp)
   ·rw [if_neg c3] at H;have c3b0:decide (x9_1 < (l0.length:Int))=false:=decide_eq_false c3;clear c3;obtain rfl:=Option.some.inj H;go_wp2
    go_ret
    exact ⟨by first|rfl|(simp;done)|(simp [*];done),by repeat (first|exact Drawn0.refl _|apply Drawn0.step)⟩

/-! ### spec_l12Size: function 52 -/
mutual
def spec_l12Size.l0 : Nat→List Int→Int→Int→List Int→Int→Int→List Int→List (List Int)→Option (Int)
 | 0,_,_,_,_,_,_,_,_=>none
 | k + 1,x1,x5,x6,x11,x12,x13,x117000,x117001=>if x13 < x12 then (if 0≤x13 then (if x13 < (x11.length:Int) then (if 0≤(rd x11 x13) then (if (rd x11 x13) < (x117000.length:Int) then (if x13≤(x1.length:Int) then (spec_l12Size.l1 k x1 (wrap64 (x5 * (rd x117000 (rd x11 x13)))) x6 (rd x11 x13) x11 x12 x13 (x1.take (x13:Int).toNat) ((x1.take (x13:Int).toNat).length:Int) 0 x117000 x117001) else (none)) else (none)) else (none)) else (none)) else (none)) else (if x6=0 then (none) else (some (wrap64 (Int.tdiv x5 x6))))
def spec_l12Size.l1 : Nat→List Int→Int→Int→Int→List Int→Int→Int→List Int→Int→Int→List Int→List (List Int)→Option (Int)
 | 0,_,_,_,_,_,_,_,_,_,_,_,_=>none
 | k + 1,x1,x5,x6,x8,x11,x12,x13,x27,x28,x29,x117000,x117001=>if x29 < x28 then (if 0≤x29 then (if x29 < (x27.length:Int) then (if 0≤x8 then (if x8 < (x117001.length:Int) then (if 0≤(rd x27 x29) then (if (rd x27 x29) < ((rd_L1 x117001 x8).length:Int) then (spec_l12Size.l1 k x1 x5 (wrap64 (x6 * (rd (rd_L1 x117001 x8) (rd x27 x29)))) x8 x11 x12 x13 x27 x28 (wrap64 (x29 + 1)) x117000 x117001) else (none)) else (none)) else (none)) else (none)) else (none)) else (none)) else (spec_l12Size.l0 k x1 x5 x6 x11 x12 (wrap64 (x13 + 1)) x117000 x117001)
end
def spec_l12Size.f (k:Nat) (l0_0:List Int) (l0_1:List (List Int)) (l1:List Int):Option (Int):=spec_l12Size.l0 k l1 1 1 l1 (l1.length:Int) 0 l0_0 l0_1
theorem spec_l12Size.mono_l : ∀ k,(∀ y0 y1 y2 y3 y4 y5 y6 y7,LeO (spec_l12Size.l0 k y0 y1 y2 y3 y4 y5 y6 y7) (spec_l12Size.l0 (k + 1) y0 y1 y2 y3 y4 y5 y6 y7))∧(∀ y0 y1 y2 y3 y4 y5 y6 y7 y8 y9 y10 y11,LeO (spec_l12Size.l1 k y0 y1 y2 y3 y4 y5 y6 y7 y8 y9 y10 y11) (spec_l12Size.l1 (k + 1) y0 y1 y2 y3 y4 y5 y6 y7 y8 y9 y10 y11))
 | 0=>⟨fun _ _ _ _ _ _ _ _ r h=>by simp [spec_l12Size.l0] at h,fun _ _ _ _ _ _ _ _ _ _ _ _ r h=>by simp [spec_l12Size.l1] at h⟩
 | k + 1=>by
  obtain ⟨ih0,ih1⟩:=spec_l12Size.mono_l k;refine ⟨?_,?_⟩
  ·intro y0 y1 y2 y3 y4 y5 y6 y7;unfold spec_l12Size.l0
   repeat' first
   | (with_reducible exact ih0 _ _ _ _ _ _ _ _)
   | (with_reducible exact ih1 _ _ _ _ _ _ _ _ _ _ _ _)
   | (with_reducible exact LeO.refl _)
   | (with_reducible exact LeO.none _)
   | (with_reducible refine LeO.ite ?_ ?_)
   | (with_reducible refine LeO.bind ?_ (fun _=>?_))
   | exact ih0 _ _ _ _ _ _ _ _
   | exact ih1 _ _ _ _ _ _ _ _ _ _ _ _
   | exact LeO.none _
   | refine LeO.ite ?_ ?_
   | refine LeO.bind ?_ (fun _=>?_)
  ·intro y0 y1 y2 y3 y4 y5 y6 y7 y8 y9 y10 y11;unfold spec_l12Size.l1
   repeat' first
   | (with_reducible exact ih0 _ _ _ _ _ _ _ _)
   | (with_reducible exact ih1 _ _ _ _ _ _ _ _ _ _ _ _)
   | (with_reducible exact LeO.refl _)
   | (with_reducible exact LeO.none _)
   | (with_reducible refine LeO.ite ?_ ?_)
   | (with_reducible refine LeO.bind ?_ (fun _=>?_))
   | exact ih0 _ _ _ _ _ _ _ _
   | exact ih1 _ _ _ _ _ _ _ _ _ _ _ _
   | exact LeO.none _
   | refine LeO.ite ?_ ?_
   | refine LeO.bind ?_ (fun _=>?_)
theorem spec_l12Size.mono : ∀ a0 a1 a2 k,LeO (spec_l12Size.f k a0 a1 a2) (spec_l12Size.f (k + 1) a0 a1 a2):=by
 intro a0 a1 a2 k;obtain ⟨ih0,ih1⟩:=spec_l12Size.mono_l k;unfold spec_l12Size.f
 repeat' first
   | (with_reducible exact ih0 _ _ _ _ _ _ _ _)
   | (with_reducible exact ih1 _ _ _ _ _ _ _ _ _ _ _ _)
   | (with_reducible exact LeO.refl _)
   | (with_reducible exact LeO.none _)
   | (with_reducible refine LeO.ite ?_ ?_)
   | (with_reducible refine LeO.bind ?_ (fun _=>?_))
   | exact ih0 _ _ _ _ _ _ _ _
   | exact ih1 _ _ _ _ _ _ _ _ _ _ _ _
   | exact LeO.none _
   | refine LeO.ite ?_ ?_
   | refine LeO.bind ?_ (fun _=>?_)
set_option maxHeartbeats 8000000 in
set_option maxRecDepth 100000 in
theorem spec_l12Size.calls (k:Nat) (A0_0:Option Addr) (c0_0:Nat) (l0_0:List Int) (A0_1:Option Addr) (c0_1:Nat) (l0_1:List (List Int)) (A1:Option Addr) (c1:Nat) (l1:List Int) (r:Int) (w:World) (hr0_0:Kd.C (Kd.int .i64) w A0_0 l0_0.length l0_0) (hc0_0:l0_0.length≤c0_0) (hr0_1:Kd.C (Kd.slice 3 (Kd.int .i64)) w A0_1 l0_1.length l0_1) (hc0_1:l0_1.length≤c0_1) (hr1:Kd.C (Kd.int .i64) w A1 l1.length l1) (hc1:l1.length≤c1) (h:spec_l12Size.f k l0_0 l0_1 l1=some r) :
  Calls Try.prog 52 #[.agg #[.slice A0_0 l0_0.length c0_0,.slice A0_1 l0_1.length c0_1],.slice A1 l1.length c1] w fun e w'=>e=.returned (.int .i64 r)∧Below w.heap.size w w':=by
 have hu29:=Try.underlying29;have HR0_0:=qK hr0_0;have HC0_0:=qK hc0_0;clear hr0_0 hc0_0;have HR0_1:=qK hr0_1;have HC0_1:=qK hc0_1;clear hr0_1 hc0_1;have HR1:=qK hr1;have HC1:=qK hc1;clear hr1 hc1;have HB:=qK (Below.refl w.heap.size w);have H:(spec_l12Size.l0 k l1 1 1 l1 (l1.length:Int) 0 l0_0 l0_1)=some r:=h;clear h;have H':=qK H;clear H;go_enter Try.func52,Try.ntmps52
 go_wp2_with (first|((with_reducible refine gate_dst (N:=2) rfl ?_);refine box_event ?hg (N:=2) ?hd (cs:=#[.slice A0_0 l0_0.length c0_0,.slice A0_1 l0_1.length c0_1]) (t:=29) ?hr ?_;(case hd=>rfl);(case hg=>rfl);(case hr=>(go_simp;try rfl));intro gb116 hg w3 hbox hb;have n0_:=qK (qT (by repeat (with_reducible first|exact HB.out|apply qA|apply qD|apply qO)) hb);have n1_:=qK (hbox);have n2_:=qK ((by rw [hg];exact (qZ (by repeat (with_reducible first|exact HB.out|apply qA|apply qD|apply qO))):w.heap.size≤gb116));have n3_:=qK ((by rw [hg];exact (qZ (by repeat (with_reducible first|exact HB.out|apply qA|apply qD|apply qO))):w.heap.size≤gb116));clear HB;have HB:=n0_;have BK116:=n1_;have GW116:=n2_;have GE116:=n3_;clear n0_ n1_ n2_ n3_;clear hb hbox hg))
 go_loopg [5,6,13] k (fun kq v5 v6 v13 w'=>∃ (x5_1:Int) (x6_1:Int) (x13_1:Int),v5=.int .i64 x5_1∧v6=.int .i64 x6_1∧v13=.int .i64 x13_1∧Aside0 (spec_l12Size.l0 kq l1 x5_1 x6_1 l1 (l1.length:Int) x13_1 l0_0 l0_1=some r)∧Aside0 (kq≤k)∧Aside0 (w'.heap[gb116]?=some (.cells #[(.slice A0_0 l0_0.length c0_0),(.slice A0_1 l0_1.length c0_1)] 29 (0,0)))∧Aside0 (Below w.heap.size w w'))
 case atStart=>exact ⟨(1),(1),(0),(by first|rfl|(simp;done)|(simp [*];done)),(by first|rfl|(simp;done)|(simp [*];done)),(by first|rfl|(simp;done)|(simp [*];done)),H',⟨Nat.le_refl _⟩,⟨by (with_reducible repeat (first|refine qN ?_ _|refine qW ?_|refine qL ?_ _));exact BK116.out⟩,⟨by repeat (first|(with_reducible first|exact HB.out|apply qA|apply qD|apply qO|refine qS ?_ GE116.out)|exact HB.out)⟩⟩
 case round =>
  clear H';try clear c1
  try clear p2
  obtain ⟨x5_1,x6_1,x13_1,rfl,rfl,rfl,HA,HK1,BK116,HB⟩:=hrel;cases gk with
  | zero=>exact absurd HA.out (by simp [spec_l12Size.l0])
  | succ k1 =>
   have H:=HA.out;clear HA;simp only [spec_l12Size.l0] at H;by_cases c4:x13_1 < (l1.length:Int)
   ·rw [if_pos c4] at H;have c4b0:decide (x13_1 < (l1.length:Int))=true:=decide_eq_true c4;clear c4;by_cases c5:0≤x13_1
    ·rw [if_pos c5] at H;have c5b0:decide (0≤x13_1)=true:=decide_eq_true c5;clear c5;by_cases c6:x13_1 < (l1.length:Int)
     ·rw [if_pos c6] at H;have c6b0:decide (x13_1 < (l1.length:Int))=true:=decide_eq_true c6;clear c6;by_cases c7:0≤(rd l1 x13_1)
      ·rw [if_pos c7] at H;have c7b0:decide (0≤(rd l1 x13_1))=true:=decide_eq_true c7;clear c7;by_cases c8:(rd l1 x13_1) < (l0_0.length:Int)
       ·rw [if_pos c8] at H;have c8b0:decide ((rd l1 x13_1) < (l0_0.length:Int))=true:=decide_eq_true c8;clear c8;have c9b0:=eq_true (of_decide_eq_true (by first|(with_reducible assumption)|assumption):0≤x13_1);by_cases c10:x13_1≤(l1.length:Int)
        ·rw [if_pos c10] at H;have c10b0:=eq_true c10;have c10b1:decide (x13_1≤(l1.length:Int))=true:=decide_eq_true c10;clear c10;have H':=qK H;clear H;have p117:0≤(x13_1:Int):=of_decide_eq_true (by first|(with_reducible assumption)|assumption);have q117:x13_1 < (l1.length:Int):=of_decide_eq_true (by first|(with_reducible assumption)|assumption);obtain ⟨ad117,e117,hx117_0⟩:=Kd.at_int HR1.out x13_1 p117 q117;cases e117
         replace hx117_0:=(HB.out.cell (World.block_lt_of_cell? w _ hx117_0)).trans hx117_0;replace p117:=eq_true p117;replace q117:=eq_true q117;have hcz11_0:wr.cell? ⟨gb116,0,none⟩=some (.slice A0_0 l0_0.length c0_0):=(qC BK116.out 0).trans rfl;have hcz11_1:wr.cell? ⟨gb116,1,none⟩=some (.slice A0_1 l0_1.length c0_1):=(qC BK116.out 1).trans rfl;have hfz11_0:=qF BK116.out 0;have hfz11_1:=qF BK116.out 1;have p118:0≤((rd l1 x13_1):Int):=of_decide_eq_true (by first|(with_reducible assumption)|assumption);have q118:(rd l1 x13_1) < (l0_0.length:Int):=of_decide_eq_true (by first|(with_reducible assumption)|assumption);obtain ⟨ad118,e118,hx118_0⟩:=Kd.at_int HR0_0.out (rd l1 x13_1) p118 q118;cases e118
         replace hx118_0:=(HB.out.cell (World.block_lt_of_cell? w _ hx118_0)).trans hx118_0;replace p118:=eq_true p118;replace q118:=eq_true q118;obtain ⟨i012,hi012,_,hsz12,_⟩:=info_parts info3;obtain ⟨hcut12,hA12,hC12⟩:=print_take_of (P:=Try.prog) (Value.int .i64) 0 22 3 .i64 Try.underlying22 hi012 hsz12 (some ad117) c1 l1 x13_1 (of_decide_eq_true (by first|(with_reducible assumption)|assumption)) (of_decide_eq_true (by first|(with_reducible assumption)|assumption)) HC1.out;have HR119:=qK (Kd.C_of_reads (h1:=fun _=>rfl) (hA12 _ (Kd.reads_of_C HR1.out)));have HC119:=qK hC12;clear hA12 hC12 hi012 hsz12;obtain ⟨yc_, hyc_⟩ : ∃ y_ : List Int, y_ = l1.take (x13_1:Int).toNat := ⟨_, rfl⟩;rw [← hyc_] at H' hcut12 HR119 HC119;have Nyc_ := Aside0.mk hyc_;clear hyc_;go_wp2
         go_loopg [6,29] k1 (fun kq v6 v29 w'=>∃ (x6_2:Int) (x29_2:Int),v6=.int .i64 x6_2∧v29=.int .i64 x29_2∧Aside0 (spec_l12Size.l1 kq l1 (wrap64 (x5_1 * (rd l0_0 (rd l1 x13_1)))) x6_2 (rd l1 x13_1) l1 (l1.length:Int) x13_1 yc_ (yc_.length:Int) x29_2 l0_0 l0_1=some r)∧Aside0 (kq≤k1)∧Aside0 (w'.heap[gb116]?=some (.cells #[(.slice (some ad118) l0_0.length c0_0),(.slice A0_1 l0_1.length c0_1)] 29 (0,0)))∧Aside0 (Below w.heap.size w w'))
         case atStart=>exact ⟨(x6_1),(0),(by first|rfl|(simp;done)|(simp [*];done)),(by first|rfl|(simp;done)|(simp [*];done)),H',⟨Nat.le_refl _⟩,⟨by (with_reducible repeat (first|refine qN ?_ _|refine qW ?_|refine qL ?_ _));exact BK116.out⟩,⟨by repeat (first|(with_reducible first|exact HB.out|apply qA|apply qD|apply qO|refine qS ?_ GE116.out)|exact HB.out)⟩⟩
         case round =>
          clear H';try clear c1
          try clear p1
          try clear q1
          try clear hx1
          try clear p2
          try clear c4
          try clear c4b0
          try clear c5
          try clear c5b0
          try clear c6
          try clear c6b0
          try clear p6
          try clear c7
          try clear c7b0
          try clear c8
          try clear c8b0
          try clear c9
          try clear c9b0
          try clear c10
          try clear c10b0
          try clear c10b1
          try clear p11
          try clear q11
          try clear hx11
          try clear hcz11_0
          try clear hcz11_1
          try clear hfz11_0
          try clear hfz11_1
          try clear hx117_0
          try clear hx118_0
          try clear p117
          try clear p118
          try clear p2
          try clear q117
          try clear q118
          obtain ⟨x6_2,x29_2,rfl,rfl,HA,HK2,BK116,HB⟩:=hrel;cases gk with
          | zero=>exact absurd HA.out (by simp [spec_l12Size.l1])
          | succ k2 =>
           have H:=HA.out;clear HA;simp only [spec_l12Size.l1] at H;by_cases c13:x29_2 < (yc_.length:Int)
           ·rw [if_pos c13] at H;have c13b0:decide (x29_2 < (yc_.length:Int))=true:=decide_eq_true c13;clear c13;by_cases c14:0≤x29_2
            ·rw [if_pos c14] at H;have c14b0:decide (0≤x29_2)=true:=decide_eq_true c14;clear c14;by_cases c15:x29_2 < (yc_.length:Int)
             ·rw [if_pos c15] at H;have c15b0:decide (x29_2 < (yc_.length:Int))=true:=decide_eq_true c15;clear c15;by_cases c16:0≤(rd l1 x13_1)
              ·rw [if_pos c16] at H;have c16b0:decide (0≤(rd l1 x13_1))=true:=decide_eq_true c16;clear c16;by_cases c17:(rd l1 x13_1) < (l0_1.length:Int)
               ·rw [if_pos c17] at H;have c17b0:decide ((rd l1 x13_1) < (l0_1.length:Int))=true:=decide_eq_true c17;clear c17;by_cases c18:0≤(rd yc_ x29_2)
                ·rw [if_pos c18] at H;have c18b0:decide (0≤(rd yc_ x29_2))=true:=decide_eq_true c18;clear c18;by_cases c19:(rd yc_ x29_2) < ((rd_L1 l0_1 (rd l1 x13_1)).length:Int)
                 ·rw [if_pos c19] at H;have c19b0:decide ((rd yc_ x29_2) < ((rd_L1 l0_1 (rd l1 x13_1)).length:Int))=true:=decide_eq_true c19;clear c19;have H':=qK H;clear H;have p120:0≤(x29_2:Int):=of_decide_eq_true (by first|(with_reducible assumption)|assumption);have q120:x29_2 < (yc_.length:Int):=of_decide_eq_true (by first|(with_reducible assumption)|assumption);obtain ⟨ad120,e120,hx120_0⟩:=Kd.at_int HR119.out x29_2 p120 q120;obtain rfl:ad117=ad120:=(by injection e120);replace hx120_0:=(HB.out.cell (World.block_lt_of_cell? w _ hx120_0)).trans hx120_0;replace p120:=eq_true p120;replace q120:=eq_true q120;have hcz20_0:wr.cell? ⟨gb116,0,none⟩=some (.slice (some ad118) l0_0.length c0_0):=(qC BK116.out 0).trans rfl;have hcz20_1:wr.cell? ⟨gb116,1,none⟩=some (.slice A0_1 l0_1.length c0_1):=(qC BK116.out 1).trans rfl;have hfz20_0:=qF BK116.out 0;have hfz20_1:=qF BK116.out 1;have p121:0≤((rd l1 x13_1):Int):=of_decide_eq_true (by first|(with_reducible assumption)|assumption);have q121:(rd l1 x13_1) < (l0_1.length:Int):=of_decide_eq_true (by first|(with_reducible assumption)|assumption);obtain ⟨ad121,A121_0,c121_0,e121,hx121_0,hl121_0,hi121_0⟩:=at_L1 HR0_1.out (rd l1 x13_1) p121 q121;cases e121
                  replace hx121_0:=(HB.out.cell (World.block_lt_of_cell? w _ hx121_0)).trans hx121_0;have HR121_0:=qK hi121_0;have HC121_0:=qK hl121_0;clear hi121_0 hl121_0;replace p121:=eq_true p121;replace q121:=eq_true q121;have p122:0≤((rd yc_ x29_2):Int):=of_decide_eq_true (by first|(with_reducible assumption)|assumption);have q122:(rd yc_ x29_2) < ((rd_L1 l0_1 (rd l1 x13_1)).length:Int):=of_decide_eq_true (by first|(with_reducible assumption)|assumption);obtain ⟨ad122,e122,hx122_0⟩:=Kd.at_int HR121_0.out (rd yc_ x29_2) p122 q122;cases e122
                  replace hx122_0:=(HB.out.cell (World.block_lt_of_cell? w _ hx122_0)).trans hx122_0;replace p122:=eq_true p122;replace q122:=eq_true q122;go_wp2
                  go_roundg k2
                  case measure=>have:=HK1.out;have:=HK2.out;omega
                  case rel=>exact ⟨(wrap64 (x6_2 * (rd (rd_L1 l0_1 (rd l1 x13_1)) (rd yc_ x29_2)))),(wrap64 (x29_2 + 1)),(by first|rfl|(simp;done)|(simp [*];done)),(by first|rfl|(simp;done)|(simp [*];done)),H',⟨by have:=HK1.out;have:=HK2.out;omega⟩,⟨by (with_reducible repeat (first|refine qN ?_ _|refine qW ?_|refine qL ?_ _));exact BK116.out⟩,⟨by repeat (first|(with_reducible first|exact HB.out|apply qA|apply qD|apply qO|refine qS ?_ GE116.out)|exact HB.out)⟩⟩
                 ·rw [if_neg c19] at H;exact absurd H (by simp)
                ·rw [if_neg c18] at H;exact absurd H (by simp)
               ·rw [if_neg c17] at H;exact absurd H (by simp)
              ·rw [if_neg c16] at H;exact absurd H (by simp)
             ·rw [if_neg c15] at H;exact absurd H (by simp)
            ·rw [if_neg c14] at H;exact absurd H (by simp)
           ·rw [if_neg c13] at H;have c13b0:decide (x29_2 < (yc_.length:Int))=false:=decide_eq_false c13;clear c13;have H':=qK H;clear H;go_wp2
            go_roundg k2
            case measure=>have:=HK1.out;have:=HK2.out;omega
            case rel=>exact ⟨((wrap64 (x5_1 * (rd l0_0 (rd l1 x13_1))))),(x6_2),(wrap64 (x13_1 + 1)),(by first|rfl|(simp;done)|(simp [*];done)),(by first|rfl|(simp;done)|(simp [*];done)),(by first|rfl|(simp;done)|(simp [*];done)),H',⟨by have:=HK1.out;have:=HK2.out;omega⟩,⟨by (with_reducible repeat (first|refine qN ?_ _|refine qW ?_|refine qL ?_ _));exact BK116.out⟩,⟨by repeat (first|(with_reducible first|exact HB.out|apply qA|apply qD|apply qO|refine qS ?_ GE116.out)|exact HB.out)⟩⟩
        ·rw [if_neg c10] at H;exact absurd H (by simp)
       ·rw [if_neg c8] at H;exact absurd H (by simp)
      ·rw [if_neg c7] at H;exact absurd H (by simp)
     ·rw [if_neg c6] at H;exact absurd H (by simp)
    ·rw [if_neg c5] at H;exact absurd H (by simp)
   ·rw [if_neg c4] at H;have c4b0:decide (x13_1 < (l1.length:Int))=false:=decide_eq_false c4;clear c4;by_cases c21:x6_1=0
    ·rw [if_pos c21] at H;exact absurd H (by simp)
    ·rw [if_neg c21] at H;have c21b0:(x6_1 == 0)=false:=beq_eq_false_iff_ne.mpr c21;have c21b1:(x6_1 != 0)=true:=bne_iff_ne.mpr c21;obtain rfl:=Option.some.inj H;go_wp2
     go_ret
     exact ⟨by first|rfl|(simp [errW_none,errW_some] <;> rfl)|(simp [*,errW_none,errW_some] <;> rfl),by repeat (first|(with_reducible first|exact HB.out|apply qA|apply qD|apply qO|refine qS ?_ GE116.out)|exact HB.out)⟩

/-! ### spec_l1Has: function 66 -/
def spec_l1Has.l0 : Nat→Int→List Int→Int→Int→Option (Bool)
 | 0,_,_,_,_=>none
 | k + 1,x1,x7,x8,x9=>if x9 < x8 then (if 0≤x9 then (if x9 < (x7.length:Int) then (if (rd x7 x9)=x1 then (some true) else (spec_l1Has.l0 k x1 x7 x8 (wrap64 (x9 + 1)))) else (none)) else (none)) else (some false)
def spec_l1Has.f (k:Nat) (l0:List Int) (a1:Int):Option (Bool):=spec_l1Has.l0 k a1 l0 (l0.length:Int) 0
theorem spec_l1Has.mono_l : ∀ k,(∀ y0 y1 y2 y3,LeO (spec_l1Has.l0 k y0 y1 y2 y3) (spec_l1Has.l0 (k + 1) y0 y1 y2 y3))
 | 0=>fun _ _ _ _ r h=>by simp [spec_l1Has.l0] at h
 | k + 1=>by
  have ih0:=spec_l1Has.mono_l k
  ·intro y0 y1 y2 y3;unfold spec_l1Has.l0
   repeat' first
   | (with_reducible exact ih0 _ _ _ _)
   | (with_reducible exact LeO.refl _)
   | (with_reducible exact LeO.none _)
   | (with_reducible refine LeO.ite ?_ ?_)
   | (with_reducible refine LeO.bind ?_ (fun _=>?_))
   | exact ih0 _ _ _ _
   | exact LeO.none _
   | refine LeO.ite ?_ ?_
   | refine LeO.bind ?_ (fun _=>?_)
theorem spec_l1Has.mono : ∀ a0 a1 k,LeO (spec_l1Has.f k a0 a1) (spec_l1Has.f (k + 1) a0 a1):=by
 intro a0 a1 k;have ih0:=spec_l1Has.mono_l k;unfold spec_l1Has.f
 repeat' first
   | (with_reducible exact ih0 _ _ _ _)
   | (with_reducible exact LeO.refl _)
   | (with_reducible exact LeO.none _)
   | (with_reducible refine LeO.ite ?_ ?_)
   | (with_reducible refine LeO.bind ?_ (fun _=>?_))
   | exact ih0 _ _ _ _
   | exact LeO.none _
   | refine LeO.ite ?_ ?_
   | refine LeO.bind ?_ (fun _=>?_)
set_option maxHeartbeats 8000000 in
set_option maxRecDepth 100000 in
theorem spec_l1Has.calls (k:Nat) (A0:Option Addr) (c0:Nat) (l0:List Int) (a1:Int) (r:Bool) (w:World) (hr0:Kd.C (Kd.int .i64) w A0 l0.length l0) (hc0:l0.length≤c0) (h:spec_l1Has.f k l0 a1=some r) :
  Calls Try.prog 66 #[.slice A0 l0.length c0,.int .i64 a1] w fun e w'=>e=.returned (.bool r)∧Drawn0 w w':=by
 have HR0:=qK hr0;have HC0:=qK hc0;clear hr0 hc0;have H:(spec_l1Has.l0 k a1 l0 (l0.length:Int) 0)=some r:=h;clear h;have H':=qK H;clear H;go_enter Try.func66,Try.ntmps66
 go_wp2
 go_loopg [9] k (fun kq v9 w'=>∃ (x9_1:Int),v9=.int .i64 x9_1∧Aside0 (spec_l1Has.l0 kq a1 l0 (l0.length:Int) x9_1=some r)∧Aside0 (kq≤k)∧Drawn0 w w')
 case atStart=>exact ⟨(0),(by first|rfl|(simp;done)|(simp [*];done)),H',⟨Nat.le_refl _⟩,by repeat (first|exact Drawn0.refl _|apply Drawn0.step)⟩
 case round =>
  clear H';try clear p2
  obtain ⟨x9_1,rfl,HA,HK1,⟨m1,rfl⟩⟩:=hrel;cases gk with
  | zero=>exact absurd HA.out (by simp [spec_l1Has.l0])
  | succ k1 =>
   have H:=HA.out;clear HA;simp only [spec_l1Has.l0] at H;by_cases c3:x9_1 < (l0.length:Int)
   ·rw [if_pos c3] at H;have c3b0:decide (x9_1 < (l0.length:Int))=true:=decide_eq_true c3;clear c3;by_cases c4:0≤x9_1
    ·rw [if_pos c4] at H;have c4b0:decide (0≤x9_1)=true:=decide_eq_true c4;clear c4;by_cases c5:x9_1 < (l0.length:Int)
     ·rw [if_pos c5] at H;have c5b0:decide (x9_1 < (l0.length:Int))=true:=decide_eq_true c5;clear c5;by_cases c6:(rd l0 x9_1)=a1
      ·rw [if_pos c6] at H;have c6b0:((rd l0 x9_1) == a1)=true:=beq_iff_eq.mpr c6;have c6b1:((rd l0 x9_1) != a1)=false:=bne_eq_false_iff_eq.mpr c6;clear c6;obtain rfl:=Option.some.inj H;have p123:0≤(x9_1:Int):=of_decide_eq_true (by first|(with_reducible assumption)|assumption);have q123:x9_1 < (l0.length:Int):=of_decide_eq_true (by first|(with_reducible assumption)|assumption);obtain ⟨ad123,e123,hx123_0⟩:=Kd.at_int HR0.out x9_1 p123 q123;cases e123
       replace p123:=eq_true p123;replace q123:=eq_true q123;go_wp2
       go_ret
       exact ⟨by first|rfl|(simp;done)|(simp [*];done),by repeat (first|exact Drawn0.refl _|apply Drawn0.step)⟩
      ·rw [if_neg c6] at H;have c6b0:((rd l0 x9_1) == a1)=false:=beq_eq_false_iff_ne.mpr c6;have c6b1:((rd l0 x9_1) != a1)=true:=bne_iff_ne.mpr c6;have H':=qK H;clear H;have p123:0≤(x9_1:Int):=of_decide_eq_true (by first|(with_reducible assumption)|assumption);have q123:x9_1 < (l0.length:Int):=of_decide_eq_true (by first|(with_reducible assumption)|assumption);obtain ⟨ad123,e123,hx123_0⟩:=Kd.at_int HR0.out x9_1 p123 q123;cases e123
       replace p123:=eq_true p123;replace q123:=eq_true q123;go_wp2
       go_roundg k1
       case measure=>have:=HK1.out;omega
       case rel=>exact ⟨(wrap64 (x9_1 + 1)),(by first|rfl|(simp;done)|(simp [*];done)),H',⟨by have:=HK1.out;omega⟩,by repeat (first|exact Drawn0.refl _|apply Drawn0.step)⟩
     ·rw [if_neg c5] at H;exact absurd H (by simp)
    ·rw [if_neg c4] at H;exact absurd H (by simp)
   ·rw [if_neg c3] at H;have c3b0:decide (x9_1 < (l0.length:Int))=false:=decide_eq_false c3;clear c3;obtain rfl:=Option.some.inj H;go_wp2
    go_ret
    exact ⟨by first|rfl|(simp;done)|(simp [*];done),by repeat (first|exact Drawn0.refl _|apply Drawn0.step)⟩

/-! ### spec_l7Put: function 55 -/
def spec_l7Put.l0 : Nat→List Int→Int→Int→Option (List Int)
 | 0,_,_,_=>none
 | k + 1,x0,x1,x5=>if x5 < (x0.length:Int) then (if 0≤x5 then (if (rd x0 x5) < x1 then (spec_l7Put.l0 k x0 x1 (wrap64 (x5 + 1))) else (if x5≤(x0.length:Int) then ((some (x0.take (x5:Int).toNat:List Int)).bind fun y126=>(if ([]:List Int).length + y126.length < 17592186044416 then ((some (([]:List Int) ++ y126:List Int)).bind fun y131=>(if y131.length < 17592186044416 then ((some (y131 ++ [x1]:List Int)).bind fun y134=>((some (x0.drop (x5:Int).toNat:List Int)).bind fun y137=>(if y134.length + y137.length < 17592186044416 then (some (y134 ++ y137)) else (none)))) else (none))) else (none))) else (none))) else (none)) else (if 0≤x5 then (if x5≤(x0.length:Int) then ((some (x0.take (x5:Int).toNat:List Int)).bind fun y145=>(if ([]:List Int).length + y145.length < 17592186044416 then ((some (([]:List Int) ++ y145:List Int)).bind fun y150=>(if y150.length < 17592186044416 then ((some (y150 ++ [x1]:List Int)).bind fun y153=>((some (x0.drop (x5:Int).toNat:List Int)).bind fun y156=>(if y153.length + y156.length < 17592186044416 then (some (y153 ++ y156)) else (none)))) else (none))) else (none))) else (none)) else (none))
def spec_l7Put.f (k:Nat) (l0:List Int) (a1:Int):Option (List Int):=(spec_l1Has.f k l0 a1).bind fun t124=>(if t124=true then (some l0) else (spec_l7Put.l0 k l0 a1 0))
theorem spec_l7Put.mono_l : ∀ k,(∀ y0 y1 y2,LeO (spec_l7Put.l0 k y0 y1 y2) (spec_l7Put.l0 (k + 1) y0 y1 y2))
 | 0=>fun _ _ _ r h=>by simp [spec_l7Put.l0] at h
 | k + 1=>by
  have ih0:=spec_l7Put.mono_l k
  ·intro y0 y1 y2;unfold spec_l7Put.l0
   repeat' first
   | (with_reducible exact ih0 _ _ _)
   | (with_reducible exact spec_l1Has.mono _ _ _)
   | (with_reducible exact LeO.refl _)
   | (with_reducible exact LeO.none _)
   | (with_reducible refine LeO.ite ?_ ?_)
   | (with_reducible refine LeO.bind ?_ (fun _=>?_))
   | exact ih0 _ _ _
   | exact spec_l1Has.mono _ _ _
   | exact LeO.none _
   | refine LeO.ite ?_ ?_
   | refine LeO.bind ?_ (fun _=>?_)
theorem spec_l7Put.mono : ∀ a0 a1 k,LeO (spec_l7Put.f k a0 a1) (spec_l7Put.f (k + 1) a0 a1):=by
 intro a0 a1 k;have ih0:=spec_l7Put.mono_l k;unfold spec_l7Put.f
 repeat' first
   | (with_reducible exact ih0 _ _ _)
   | (with_reducible exact spec_l1Has.mono _ _ _)
   | (with_reducible exact LeO.refl _)
   | (with_reducible exact LeO.none _)
   | (with_reducible refine LeO.ite ?_ ?_)
   | (with_reducible refine LeO.bind ?_ (fun _=>?_))
   | exact ih0 _ _ _
   | exact spec_l1Has.mono _ _ _
   | exact LeO.none _
   | refine LeO.ite ?_ ?_
   | refine LeO.bind ?_ (fun _=>?_)
set_option maxHeartbeats 8000000 in
set_option maxRecDepth 100000 in
theorem spec_l7Put.calls (k:Nat) (P0_:Nat→Prop) (A0:Option Addr) (c0:Nat) (l0:List Int) (a1:Int) (r:List Int) (w:World) (hs0:Kd.V (Kd.int .i64) 3 w w.heap.size (fun k_=>P0_ k_) (.slice A0 l0.length c0) l0) (h:spec_l7Put.f k l0 a1=some r) :
  Calls Try.prog 55 #[.slice A0 l0.length c0,.int .i64 a1] w fun e w'=>∃ v0_:Value,e=.returned (v0_)∧Kd.V (Kd.int .i64) 3 w' w.heap.size (fun k_=>(P0_ k_ ∨ w.heap.size≤k_)) v0_ r∧Below w.heap.size w w':=by
 have HO0:=qK (show Kd.V (Kd.int .i64) 3 w w.heap.size (fun k_=>(P0_ k_ ∨ w.heap.size≤k_)) (.slice A0 l0.length c0) l0 from Kd.V_mono hs0 (fun k_ hk=>.inl hk));have HB:=qK (Below.refl w.heap.size w);have H:((spec_l1Has.f k l0 a1).bind fun t124=>(if t124=true then (some l0) else (spec_l7Put.l0 k l0 a1 0)))=some r:=h;clear h;replace H:=Option.bind_eq_some_iff.mp H;obtain ⟨t124,A30,H⟩:=H;replace H:(if t124=true then (some l0) else (spec_l7Put.l0 k l0 a1 0))=some r:=H;have A3:=qK A30;clear A30;by_cases c4:t124=true
 ·subst c4;have H1:(some l0)=some r:=by rw [if_pos rfl] at H;exact H
  clear H;have H:=H1;clear H1;obtain rfl:=Option.some.inj H;go_enter Try.func55,Try.ntmps55
  go_wp2_with (first|((with_reducible refine gate_callee (f:=66) rfl ?_);refine goesL_ (some 9) rfl rfl Try.func66 (by kernel_rfl) rfl #[.slice A0 l0.length c0,.int .i64 a1] rfl (by (try simp only [mT,mC,mN]);first|done|rfl|(simp only [lD,lT];rfl)) ?_;(with_reducible refine (spec_l1Has.calls k _ _ l0 a1 true _ ?side1 ?side2 A3.out).mono ?_);(case side1=>repeat (first|exact (Kd.V_reads' HO0.out).2.2|(with_reducible first|refine cL ?_ _|refine cN ?_ _|refine cW ?_)));(case side2=>exact (Kd.V_reads' HO0.out).2.1);rintro e w' ⟨rfl,⟨nd,rfl⟩⟩;refine ⟨_,rfl,?_⟩))
  go_ret
  exact ⟨_,by first|rfl|(simp [errW_none,errW_some] <;> rfl)|(simp [*,errW_none,errW_some] <;> rfl),by (with_reducible repeat (first|apply Kd.V_alloc|apply Kd.V_drewN|apply Kd.V_drew));exact HO0.out,by repeat (first|(with_reducible first|exact HB.out|apply qA|apply qD|apply qO)|exact HB.out)⟩
 ·replace c4:=Bool.eq_false_iff.mpr c4;subst c4;have H1:(spec_l7Put.l0 k l0 a1 0)=some r:=by rw [if_neg (show ¬ (false=true) by decide)] at H;exact H
  clear H;have H:=H1;clear H1;have H':=qK H;clear H;go_enter Try.func55,Try.ntmps55
  go_wp2_with (first|((with_reducible refine gate_callee (f:=66) rfl ?_);refine goesL_ (some 9) rfl rfl Try.func66 (by kernel_rfl) rfl #[.slice A0 l0.length c0,.int .i64 a1] rfl (by (try simp only [mT,mC,mN]);first|done|rfl|(simp only [lD,lT];rfl)) ?_;(with_reducible refine (spec_l1Has.calls k _ _ l0 a1 false _ ?side1 ?side2 A3.out).mono ?_);(case side1=>repeat (first|exact (Kd.V_reads' HO0.out).2.2|(with_reducible first|refine cL ?_ _|refine cN ?_ _|refine cW ?_)));(case side2=>exact (Kd.V_reads' HO0.out).2.1);rintro e w' ⟨rfl,⟨nd,rfl⟩⟩;refine ⟨_,rfl,?_⟩))
  go_loopg [5] k (fun kq v5 w'=>∃ (x5_1:Int),v5=.int .i64 x5_1∧Aside0 (spec_l7Put.l0 kq l0 a1 x5_1=some r)∧Aside0 (kq≤k)∧Aside0 (Kd.V (Kd.int .i64) 3 w' w.heap.size (fun k_=>(P0_ k_ ∨ w.heap.size≤k_)) (.slice A0 l0.length c0) l0)∧Aside0 (Below w.heap.size w w'))
  case atStart=>exact ⟨(0),(by first|rfl|(simp;done)|(simp [*];done)),H',⟨Nat.le_refl _⟩,⟨by (with_reducible repeat (first|apply Kd.V_alloc|apply Kd.V_drewN|apply Kd.V_drew));exact HO0.out⟩,⟨by repeat (first|(with_reducible first|exact HB.out|apply qA|apply qD|apply qO)|exact HB.out)⟩⟩
  case round =>
   clear H';try clear p2
   try clear c4
   obtain ⟨x5_1,rfl,HA,HK1,HO_0,HB⟩:=hrel;cases gk with
   | zero=>exact absurd HA.out (by simp [spec_l7Put.l0])
   | succ k1 =>
    have H:=HA.out;clear HA;simp only [spec_l7Put.l0] at H;by_cases c5:x5_1 < (l0.length:Int)
    ·rw [if_pos c5] at H;have c5b0:decide (x5_1 < (l0.length:Int))=true:=decide_eq_true c5;clear c5;by_cases c6:0≤x5_1
     ·rw [if_pos c6] at H;have c6b0:decide (0≤x5_1)=true:=decide_eq_true c6;clear c6;by_cases c7:(rd l0 x5_1) < a1
      ·rw [if_pos c7] at H;have c7b0:decide ((rd l0 x5_1) < a1)=true:=decide_eq_true c7;clear c7;have H':=qK H;clear H;have p125:0≤(x5_1:Int):=of_decide_eq_true (by first|(with_reducible assumption)|assumption);have q125:x5_1 < (l0.length:Int):=of_decide_eq_true (by first|(with_reducible assumption)|assumption);obtain ⟨ad125,e125,hx125_0⟩:=Kd.at_int (Kd.V_reads' HO_0.out).2.2 x5_1 p125 q125;cases e125
       replace p125:=eq_true p125;replace q125:=eq_true q125;go_wp2
       go_roundg k1
       case measure=>have:=HK1.out;omega
       case rel=>exact ⟨(wrap64 (x5_1 + 1)),(by first|rfl|(simp;done)|(simp [*];done)),H',⟨by have:=HK1.out;omega⟩,⟨by (with_reducible repeat (first|apply Kd.V_alloc|apply Kd.V_drewN|apply Kd.V_drew));exact HO_0.out⟩,⟨by repeat (first|(with_reducible first|exact HB.out|apply qA|apply qD|apply qO)|exact HB.out)⟩⟩
      ·rw [if_neg c7] at H;have c7b0:decide ((rd l0 x5_1) < a1)=false:=decide_eq_false c7;clear c7;have c8b0:=eq_true (of_decide_eq_true (by first|(with_reducible assumption)|assumption):0≤x5_1);by_cases c9:x5_1≤(l0.length:Int)
       ·rw [if_pos c9] at H;have c9b0:=eq_true c9;have c9b1:decide (x5_1≤(l0.length:Int))=true:=decide_eq_true c9;clear c9;obtain ⟨y126,hy126⟩:∃ y_:List Int,y_=(l0.take (x5_1:Int).toNat):=⟨_,rfl⟩;replace H:(if ([]:List Int).length + y126.length < 17592186044416 then ((some (([]:List Int) ++ y126:List Int)).bind fun y131=>(if y131.length < 17592186044416 then ((some (y131 ++ [a1]:List Int)).bind fun y134=>((some (l0.drop (x5_1:Int).toNat:List Int)).bind fun y137=>(if y134.length + y137.length < 17592186044416 then (some (y134 ++ y137)) else (none)))) else (none))) else (none))=some r:=by first|(rw [hy126];with_reducible exact H)|(have H2_:=(Option.bind_some _ _).symm.trans H;rw [hy126];with_reducible exact H2_)|(have H2_:=(Option.bind_some _ _).symm.trans H;with_reducible exact H2_)|with_reducible exact H|(rw [hy126];exact H)|exact H
        have Ny126:=qK hy126;clear hy126;by_cases c10:([]:List Int).length + y126.length < 17592186044416
        ·rw [if_pos c10] at H;have LMc10:=qK c10;clear c10;obtain ⟨y131,hy131⟩:∃ y_:List Int,y_=(([]:List Int) ++ y126):=⟨_,rfl⟩;replace H:(if y131.length < 17592186044416 then ((some (y131 ++ [a1]:List Int)).bind fun y134=>((some (l0.drop (x5_1:Int).toNat:List Int)).bind fun y137=>(if y134.length + y137.length < 17592186044416 then (some (y134 ++ y137)) else (none)))) else (none))=some r:=by first|(rw [hy131];with_reducible exact H)|(have H2_:=(Option.bind_some _ _).symm.trans H;rw [hy131];with_reducible exact H2_)|(have H2_:=(Option.bind_some _ _).symm.trans H;with_reducible exact H2_)|with_reducible exact H|(rw [hy131];exact H)|exact H
         have Ny131:=qK hy131;clear hy131;by_cases c11:y131.length < 17592186044416
         ·rw [if_pos c11] at H;have LMc11:=qK c11;clear c11;obtain ⟨y134,hy134⟩:∃ y_:List Int,y_=(y131 ++ [a1]):=⟨_,rfl⟩;replace H:((some (l0.drop (x5_1:Int).toNat:List Int)).bind fun y137=>(if y134.length + y137.length < 17592186044416 then (some (y134 ++ y137)) else (none)))=some r:=by first|(rw [hy134];with_reducible exact H)|(have H2_:=(Option.bind_some _ _).symm.trans H;rw [hy134];with_reducible exact H2_)|(have H2_:=(Option.bind_some _ _).symm.trans H;with_reducible exact H2_)|with_reducible exact H|(rw [hy134];exact H)|exact H
          have Ny134:=qK hy134;clear hy134;have c12b0:=eq_true (of_decide_eq_true (by first|(with_reducible assumption)|assumption):0≤x5_1);have c13b0:=eq_true (of_decide_eq_true (by first|(with_reducible assumption)|assumption):x5_1≤(l0.length:Int));obtain ⟨y137,hy137⟩:∃ y_:List Int,y_=(l0.drop (x5_1:Int).toNat):=⟨_,rfl⟩;replace H:(if y134.length + y137.length < 17592186044416 then (some (y134 ++ y137)) else (none))=some r:=by first|(rw [hy137];with_reducible exact H)|(have H2_:=(Option.bind_some _ _).symm.trans H;rw [hy137];with_reducible exact H2_)|(have H2_:=(Option.bind_some _ _).symm.trans H;with_reducible exact H2_)|with_reducible exact H|(rw [hy137];exact H)|exact H
          have Ny137:=qK hy137;clear hy137;by_cases c14:y134.length + y137.length < 17592186044416
          ·rw [if_pos c14] at H;have LMc14:=qK c14;clear c14;obtain ⟨y142,hy142⟩:∃ y_:List Int,y_=(y134 ++ y137):=⟨_,rfl⟩;replace H:(some y142)=some r:=by first|(rw [hy142];with_reducible exact H)|(have H2_:=(Option.bind_some _ _).symm.trans H;rw [hy142];with_reducible exact H2_)|(have H2_:=(Option.bind_some _ _).symm.trans H;with_reducible exact H2_)|with_reducible exact H|(rw [hy142];exact H)|exact H
           have Ny142:=qK hy142;clear hy142;obtain rfl:=Option.some.inj H;have p125:0≤(x5_1:Int):=of_decide_eq_true (by first|(with_reducible assumption)|assumption);have q125:x5_1 < (l0.length:Int):=of_decide_eq_true (by first|(with_reducible assumption)|assumption);obtain ⟨ad125,e125,hx125_0⟩:=Kd.at_int (Kd.V_reads' HO_0.out).2.2 x5_1 p125 q125;cases e125
           replace p125:=eq_true p125;replace q125:=eq_true q125;have q15:(x5_1:Int)≤((l0.length:Int):Int):=of_decide_eq_true (by first|(with_reducible assumption)|assumption);obtain ⟨i015,hi015,_,hsz15,_⟩:=info_parts info3;have hroom15:l0.length≤c0:=(Kd.V_reads' HO_0.out).2.1;have hC15:Kd.F (Kd.int .i64) _ _ (some ad125) l0.length l0:=(Kd.V_at (base:=w.heap.size) HO_0.out).2.2;have hcut15:=cut_to (P:=Try.prog) 22 3 .i64 Try.underlying22 hi015 (some ad125) l0.length c0 x5_1 (of_decide_eq_true (by first|(with_reducible assumption)|assumption)) q15 hroom15;have hr15:=Kd.F_take (m:=(x5_1:Int).toNat) hC15 (by omega);have hy15:y126.length=(x5_1:Int).toNat:=(by rw [Ny126.out,lT];omega);rw [← Ny126.out] at hr15;rw [← hy15] at hcut15;have HO130:=qK (show Kd.V (Kd.int .i64) 3 _ w.heap.size _ (.slice (some ad125) y126.length c0) y126 from Kd.V_mk (by omega) hr15);have HC130:=qK (show y126.length≤c0 from by omega);clear hr15 hC15 hroom15 hi015 hsz15;have KY15:=qK hy15;clear hy15;replace q15:=eq_true q15;go_wp2_with (first|((with_reducible refine gate_builtin (b:=.append) (xs:=#[.tmp 25,.tmp 28]) rfl ?_);at_builtin;refine Kd.R_append_rows (Kd.int .i64) (w0:=w) w.heap.size rfl (.tmp 25) (.tmp 28) 22 3 (.int .i64 0) 8 rfl Try.underlying22 info3 rfl (by decide) (by omega) (.slice none 0 0) ([]:List Int) y126 _ _ _ (fun k_=>(w.heap.size≤k_)) (fun _=>False) rfl rfl ?aO ?aR (fun _ _ h=>h) (fun _ h=>h.elim) ?aF ?aB ?aS ?aL ?_;(case aR=>repeat (first|exact (Kd.V_reads' HO130.out).2.2|(with_reducible first|refine cL ?_ _|refine cN ?_ _|refine cW ?_)));(case aB=>exact (by repeat (with_reducible first|exact HB.out|apply qA|apply qD|apply qO)));(case aF=>exact (fun k_ hk=>(Nat.le_trans (qZ (by repeat (with_reducible first|exact HB.out|apply qA|apply qD|apply qO))) hk)));(case aO=>exact ((Kd.R_nil _ _ _ _ (fun k_=>(w.heap.size≤k_)))));(case aS=>exact (qZ (by repeat (with_reducible first|exact HB.out|apply qA|apply qD|apply qO))));(case aL=>have:=LMc10.out;omega);intro v132 w16 ho hb hg hat;rw [← Ny131.out] at ho;have n0_:=qK (Kd.V_afterv (Kd.V_apart_nil (by (with_reducible repeat (first|apply Kd.V_alloc|apply Kd.V_drewN|apply Kd.V_drew));exact HO_0.out)) hg hat);have n1_:=qK (Kd.V_afterv (Kd.V_apart_nil (by (with_reducible repeat (first|apply Kd.V_alloc|apply Kd.V_drewN|apply Kd.V_drew));exact HO130.out)) hg hat);have n2_:=qK (hb);have n3_:=qK (ho);clear HO_0;clear HO130;clear HB;have HO_0:=n0_;have HO130:=n1_;have HB:=n2_;have HO133:=n3_;clear n0_ n1_ n2_ n3_;clear ho hb hg hat)|((with_reducible refine gate_builtin (b:=.append) (xs:=#[.tmp 30,.tmp 32]) rfl ?_);at_builtin;refine Kd.R_append (Kd.int .i64) (w0:=w) w.heap.size rfl (.tmp 30) (.tmp 32) 22 3 (.int .i64 0) 8 rfl Try.underlying22 info3 rfl (by decide) (by omega) v132 y131 a1 [.int .i64 a1] (fun k_=>(w.heap.size≤k_)) (fun _=>False) rfl rfl ?aP (fun _ hk=>hk.elim) ?aF ?aO ?aB ?aS ?aL ?_;(case aP=>exact rfl);(case aB=>exact (by repeat (with_reducible first|exact HB.out|apply qA|apply qD|apply qO)));(case aF=>exact (fun k_ hk=>(Nat.le_trans (qZ (by repeat (with_reducible first|exact HB.out|apply qA|apply qD|apply qO))) hk)));(case aO=>exact (by (with_reducible repeat (first|apply rL|apply rN|apply rW));exact HO133.out));(case aS=>exact (qZ (by repeat (with_reducible first|exact HB.out|apply qA|apply qD|apply qO))));(case aL=>have:=LMc11.out;omega);intro v135 w17 ho hb hg hat;rw [← Ny134.out] at ho;have n0_:=qK (Kd.V_afterv (ok:=(fun k_=>(P0_ k_ ∨ w.heap.size≤k_))) (by (with_reducible repeat (first|apply Kd.V_alloc|apply Kd.V_drewN|apply Kd.V_drew));exact HO_0.out) hg hat);have n1_:=qK (Kd.V_afterv (ok:=(fun k_=>(P0_ k_ ∨ w.heap.size≤k_))) (by (with_reducible repeat (first|apply Kd.V_alloc|apply Kd.V_drewN|apply Kd.V_drew));exact HO130.out) hg hat);have n2_:=qK (hb);have n3_:=qK (ho);clear HO_0;clear HO130;clear HB;clear HO133;have HO_0:=n0_;have HO130:=n1_;have HB:=n2_;have HO136:=n3_;clear n0_ n1_ n2_ n3_;clear ho hb hg hat;have q18:(x5_1:Int)≤((l0.length:Int):Int):=of_decide_eq_true (by first|(with_reducible assumption)|assumption);obtain ⟨i018,hi018,_,hsz18,_⟩:=info_parts info3;have hroom18:l0.length≤c0:=(Kd.V_reads' HO_0.out).2.1;have hC18:Kd.F (Kd.int .i64) _ _ (some ad125) l0.length l0:=(Kd.V_at (base:=w.heap.size) HO_0.out).2.2;have q018:(0:Int)≤(x5_1:Int):=of_decide_eq_true (by first|(with_reducible assumption)|assumption);have hcut18:=cut_from (P:=Try.prog) 22 3 .i64 Try.underlying22 hi018 1 hsz18 (some ad125) l0.length c0 x5_1 q018 q18;have hr18:=Kd.F_cut (m:=(x5_1:Int).toNat) (c:=c0) hC18 (by omega) hroom18;obtain ⟨A18,hA18⟩:∃ A1,A1=(if c0=(x5_1:Int).toNat then (some ad125) else ((some ad125):Option Addr).map (·.add ((x5_1:Int).toNat * 1))):=⟨_,rfl⟩;obtain ⟨c18,hc18⟩:∃ c1,c1=c0 - (x5_1:Int).toNat:=⟨_,rfl⟩;have hy18:y137.length=l0.length - (x5_1:Int).toNat:=(by rw [Ny137.out,lD] <;> omega);rw [show (l0).drop (x5_1:Int).toNat=y137 from Ny137.out.symm] at hr18;replace hr18:Kd.F (Kd.int .i64) _ _ A18 y137.length y137:=(by rw [hA18];exact hr18);rw [← hy18,← hA18,← hc18] at hcut18;have HO141:=qK (show Kd.V (Kd.int .i64) 3 _ w.heap.size _ (.slice A18 y137.length c18) y137 from Kd.V_mk (by rw [hy18,hc18];exact Nat.sub_le_sub_right hroom18 _) hr18);have HC141:=qK (show y137.length≤c18 from by rw [hy18,hc18];exact Nat.sub_le_sub_right hroom18 _);clear hr18 hC18 hroom18 hi018 hsz18 hc18;have KY18:=qK hy18;have KA18:=qK hA18;clear hy18 hA18;replace q18:=eq_true q18)|((with_reducible refine gate_builtin (b:=.append) (xs:=#[.tmp 34,.tmp 37]) rfl ?_);at_builtin;refine Kd.R_append_rows (Kd.int .i64) (w0:=w) w.heap.size rfl (.tmp 34) (.tmp 37) 22 3 (.int .i64 0) 8 rfl Try.underlying22 info3 rfl (by decide) (by omega) v135 y134 y137 _ _ _ (fun k_=>(w.heap.size≤k_)) (fun _=>False) rfl rfl ?aO ?aR (fun _ _ h=>h) (fun _ h=>h.elim) ?aF ?aB ?aS ?aL ?_;(case aR=>repeat (first|exact (Kd.V_reads' HO141.out).2.2|(with_reducible first|refine cL ?_ _|refine cN ?_ _|refine cW ?_)));(case aB=>exact (by repeat (with_reducible first|exact HB.out|apply qA|apply qD|apply qO)));(case aF=>exact (fun k_ hk=>(Nat.le_trans (qZ (by repeat (with_reducible first|exact HB.out|apply qA|apply qD|apply qO))) hk)));(case aO=>exact (by (with_reducible repeat (first|apply rL|apply rN|apply rW));exact HO136.out));(case aS=>exact (qZ (by repeat (with_reducible first|exact HB.out|apply qA|apply qD|apply qO))));(case aL=>have:=LMc14.out;omega);intro v143 w19 ho hb hg hat;rw [← Ny142.out] at ho;have n0_:=qK (Kd.V_afterv (ok:=(fun k_=>(P0_ k_ ∨ w.heap.size≤k_))) (by (with_reducible repeat (first|apply Kd.V_alloc|apply Kd.V_drewN|apply Kd.V_drew));exact HO_0.out) hg hat);have n1_:=qK (Kd.V_afterv (ok:=(fun k_=>(P0_ k_ ∨ w.heap.size≤k_))) (by (with_reducible repeat (first|apply Kd.V_alloc|apply Kd.V_drewN|apply Kd.V_drew));exact HO130.out) hg hat);have n2_:=qK (Kd.V_afterv (ok:=(fun k_=>(P0_ k_ ∨ w.heap.size≤k_))) (by (with_reducible repeat (first|apply Kd.V_alloc|apply Kd.V_drewN|apply Kd.V_drew));exact HO141.out) hg hat);have n3_:=qK (hb);have n4_:=qK (ho);clear HO_0;clear HO130;clear HO141;clear HB;clear HO136;have HO_0:=n0_;have HO130:=n1_;have HO141:=n2_;have HB:=n3_;have HO144:=n4_;clear n0_ n1_ n2_ n3_ n4_;clear ho hb hg hat))
           go_ret
           exact ⟨_,by first|rfl|(simp [errW_none,errW_some] <;> rfl)|(simp [*,errW_none,errW_some] <;> rfl),Kd.V_mono (Kd.R_V (by (with_reducible repeat (first|apply rL|apply rN|apply rW));exact HO144.out)) (fun k_ hk=>by first|exact ⟨(.inr (hk.1)),hk.2⟩|exact (.inr (hk))),by repeat (first|(with_reducible first|exact HB.out|apply qA|apply qD|apply qO)|exact HB.out)⟩
          ·rw [if_neg c14] at H;exact absurd H (by simp)
         ·rw [if_neg c11] at H;exact absurd H (by simp)
        ·rw [if_neg c10] at H;exact absurd H (by simp)
       ·rw [if_neg c9] at H;exact absurd H (by simp)
     ·rw [if_neg c6] at H;exact absurd H (by simp)
    ·rw [if_neg c5] at H;have c5b0:decide (x5_1 < (l0.length:Int))=false:=decide_eq_false c5;clear c5;by_cases c20:0≤x5_1
     ·rw [if_pos c20] at H;have c20b0:=eq_true c20;have c20b1:decide (0≤x5_1)=true:=decide_eq_true c20;clear c20;by_cases c21:x5_1≤(l0.length:Int)
      ·rw [if_pos c21] at H;have c21b0:=eq_true c21;have c21b1:decide (x5_1≤(l0.length:Int))=true:=decide_eq_true c21;clear c21;obtain ⟨y145,hy145⟩:∃ y_:List Int,y_=(l0.take (x5_1:Int).toNat):=⟨_,rfl⟩;replace H:(if ([]:List Int).length + y145.length < 17592186044416 then ((some (([]:List Int) ++ y145:List Int)).bind fun y150=>(if y150.length < 17592186044416 then ((some (y150 ++ [a1]:List Int)).bind fun y153=>((some (l0.drop (x5_1:Int).toNat:List Int)).bind fun y156=>(if y153.length + y156.length < 17592186044416 then (some (y153 ++ y156)) else (none)))) else (none))) else (none))=some r:=by first|(rw [hy145];with_reducible exact H)|(have H2_:=(Option.bind_some _ _).symm.trans H;rw [hy145];with_reducible exact H2_)|(have H2_:=(Option.bind_some _ _).symm.trans H;with_reducible exact H2_)|with_reducible exact H|(rw [hy145];exact H)|exact H
       have Ny145:=qK hy145;clear hy145;by_cases c22:([]:List Int).length + y145.length < 17592186044416
       ·rw [if_pos c22] at H;have LMc22:=qK c22;clear c22;obtain ⟨y150,hy150⟩:∃ y_:List Int,y_=(([]:List Int) ++ y145):=⟨_,rfl⟩;replace H:(if y150.length < 17592186044416 then ((some (y150 ++ [a1]:List Int)).bind fun y153=>((some (l0.drop (x5_1:Int).toNat:List Int)).bind fun y156=>(if y153.length + y156.length < 17592186044416 then (some (y153 ++ y156)) else (none)))) else (none))=some r:=by first|(rw [hy150];with_reducible exact H)|(have H2_:=(Option.bind_some _ _).symm.trans H;rw [hy150];with_reducible exact H2_)|(have H2_:=(Option.bind_some _ _).symm.trans H;with_reducible exact H2_)|with_reducible exact H|(rw [hy150];exact H)|exact H
        have Ny150:=qK hy150;clear hy150;by_cases c23:y150.length < 17592186044416
        ·rw [if_pos c23] at H;have LMc23:=qK c23;clear c23;obtain ⟨y153,hy153⟩:∃ y_:List Int,y_=(y150 ++ [a1]):=⟨_,rfl⟩;replace H:((some (l0.drop (x5_1:Int).toNat:List Int)).bind fun y156=>(if y153.length + y156.length < 17592186044416 then (some (y153 ++ y156)) else (none)))=some r:=by first|(rw [hy153];with_reducible exact H)|(have H2_:=(Option.bind_some _ _).symm.trans H;rw [hy153];with_reducible exact H2_)|(have H2_:=(Option.bind_some _ _).symm.trans H;with_reducible exact H2_)|with_reducible exact H|(rw [hy153];exact H)|exact H
         have Ny153:=qK hy153;clear hy153;have c24b0:=eq_true (of_decide_eq_true (by first|(with_reducible assumption)|assumption):0≤x5_1);have c25b0:=eq_true (of_decide_eq_true (by first|(with_reducible assumption)|assumption):x5_1≤(l0.length:Int));obtain ⟨y156,hy156⟩:∃ y_:List Int,y_=(l0.drop (x5_1:Int).toNat):=⟨_,rfl⟩;replace H:(if y153.length + y156.length < 17592186044416 then (some (y153 ++ y156)) else (none))=some r:=by first|(rw [hy156];with_reducible exact H)|(have H2_:=(Option.bind_some _ _).symm.trans H;rw [hy156];with_reducible exact H2_)|(have H2_:=(Option.bind_some _ _).symm.trans H;with_reducible exact H2_)|with_reducible exact H|(rw [hy156];exact H)|exact H
         have Ny156:=qK hy156;clear hy156;by_cases c26:y153.length + y156.length < 17592186044416
         ·rw [if_pos c26] at H;have LMc26:=qK c26;clear c26;obtain ⟨y161,hy161⟩:∃ y_:List Int,y_=(y153 ++ y156):=⟨_,rfl⟩;replace H:(some y161)=some r:=by first|(rw [hy161];with_reducible exact H)|(have H2_:=(Option.bind_some _ _).symm.trans H;rw [hy161];with_reducible exact H2_)|(have H2_:=(Option.bind_some _ _).symm.trans H;with_reducible exact H2_)|with_reducible exact H|(rw [hy161];exact H)|exact H
          have Ny161:=qK hy161;clear hy161;obtain rfl:=Option.some.inj H;have q27:(x5_1:Int)≤((l0.length:Int):Int):=of_decide_eq_true (by first|(with_reducible assumption)|assumption);obtain ⟨i027,hi027,_,hsz27,_⟩:=info_parts info3;have hroom27:l0.length≤c0:=(Kd.V_reads' HO_0.out).2.1;have hC27:Kd.F (Kd.int .i64) _ _ A0 l0.length l0:=(Kd.V_at (base:=w.heap.size) HO_0.out).2.2;have hcut27:=cut_to (P:=Try.prog) 22 3 .i64 Try.underlying22 hi027 A0 l0.length c0 x5_1 (of_decide_eq_true (by first|(with_reducible assumption)|assumption)) q27 hroom27;have hr27:=Kd.F_take (m:=(x5_1:Int).toNat) hC27 (by omega);have hy27:y145.length=(x5_1:Int).toNat:=(by rw [Ny145.out,lT];omega);rw [← Ny145.out] at hr27;rw [← hy27] at hcut27;have HO149:=qK (show Kd.V (Kd.int .i64) 3 _ w.heap.size _ (.slice A0 y145.length c0) y145 from Kd.V_mk (by omega) hr27);have HC149:=qK (show y145.length≤c0 from by omega);clear hr27 hC27 hroom27 hi027 hsz27;have KY27:=qK hy27;clear hy27;replace q27:=eq_true q27;go_wp2_with (first|((with_reducible refine gate_builtin (b:=.append) (xs:=#[.tmp 25,.tmp 28]) rfl ?_);at_builtin;refine Kd.R_append_rows (Kd.int .i64) (w0:=w) w.heap.size rfl (.tmp 25) (.tmp 28) 22 3 (.int .i64 0) 8 rfl Try.underlying22 info3 rfl (by decide) (by omega) (.slice none 0 0) ([]:List Int) y145 _ _ _ (fun k_=>(w.heap.size≤k_)) (fun _=>False) rfl rfl ?aO ?aR (fun _ _ h=>h) (fun _ h=>h.elim) ?aF ?aB ?aS ?aL ?_;(case aR=>repeat (first|exact (Kd.V_reads' HO149.out).2.2|(with_reducible first|refine cL ?_ _|refine cN ?_ _|refine cW ?_)));(case aB=>exact (by repeat (with_reducible first|exact HB.out|apply qA|apply qD|apply qO)));(case aF=>exact (fun k_ hk=>(Nat.le_trans (qZ (by repeat (with_reducible first|exact HB.out|apply qA|apply qD|apply qO))) hk)));(case aO=>exact ((Kd.R_nil _ _ _ _ (fun k_=>(w.heap.size≤k_)))));(case aS=>exact (qZ (by repeat (with_reducible first|exact HB.out|apply qA|apply qD|apply qO))));(case aL=>have:=LMc22.out;omega);intro v151 w28 ho hb hg hat;rw [← Ny150.out] at ho;have n0_:=qK (Kd.V_afterv (Kd.V_apart_nil (by (with_reducible repeat (first|apply Kd.V_alloc|apply Kd.V_drewN|apply Kd.V_drew));exact HO_0.out)) hg hat);have n1_:=qK (Kd.V_afterv (Kd.V_apart_nil (by (with_reducible repeat (first|apply Kd.V_alloc|apply Kd.V_drewN|apply Kd.V_drew));exact HO149.out)) hg hat);have n2_:=qK (hb);have n3_:=qK (ho);clear HO_0;clear HO149;clear HB;have HO_0:=n0_;have HO149:=n1_;have HB:=n2_;have HO152:=n3_;clear n0_ n1_ n2_ n3_;clear ho hb hg hat)|((with_reducible refine gate_builtin (b:=.append) (xs:=#[.tmp 30,.tmp 32]) rfl ?_);at_builtin;refine Kd.R_append (Kd.int .i64) (w0:=w) w.heap.size rfl (.tmp 30) (.tmp 32) 22 3 (.int .i64 0) 8 rfl Try.underlying22 info3 rfl (by decide) (by omega) v151 y150 a1 [.int .i64 a1] (fun k_=>(w.heap.size≤k_)) (fun _=>False) rfl rfl ?aP (fun _ hk=>hk.elim) ?aF ?aO ?aB ?aS ?aL ?_;(case aP=>exact rfl);(case aB=>exact (by repeat (with_reducible first|exact HB.out|apply qA|apply qD|apply qO)));(case aF=>exact (fun k_ hk=>(Nat.le_trans (qZ (by repeat (with_reducible first|exact HB.out|apply qA|apply qD|apply qO))) hk)));(case aO=>exact (by (with_reducible repeat (first|apply rL|apply rN|apply rW));exact HO152.out));(case aS=>exact (qZ (by repeat (with_reducible first|exact HB.out|apply qA|apply qD|apply qO))));(case aL=>have:=LMc23.out;omega);intro v154 w29 ho hb hg hat;rw [← Ny153.out] at ho;have n0_:=qK (Kd.V_afterv (ok:=(fun k_=>(P0_ k_ ∨ w.heap.size≤k_))) (by (with_reducible repeat (first|apply Kd.V_alloc|apply Kd.V_drewN|apply Kd.V_drew));exact HO_0.out) hg hat);have n1_:=qK (Kd.V_afterv (ok:=(fun k_=>(P0_ k_ ∨ w.heap.size≤k_))) (by (with_reducible repeat (first|apply Kd.V_alloc|apply Kd.V_drewN|apply Kd.V_drew));exact HO149.out) hg hat);have n2_:=qK (hb);have n3_:=qK (ho);clear HO_0;clear HO149;clear HB;clear HO152;have HO_0:=n0_;have HO149:=n1_;have HB:=n2_;have HO155:=n3_;clear n0_ n1_ n2_ n3_;clear ho hb hg hat;have q30:(x5_1:Int)≤((l0.length:Int):Int):=of_decide_eq_true (by first|(with_reducible assumption)|assumption);obtain ⟨i030,hi030,_,hsz30,_⟩:=info_parts info3;have hroom30:l0.length≤c0:=(Kd.V_reads' HO_0.out).2.1;have hC30:Kd.F (Kd.int .i64) _ _ A0 l0.length l0:=(Kd.V_at (base:=w.heap.size) HO_0.out).2.2;have q030:(0:Int)≤(x5_1:Int):=of_decide_eq_true (by first|(with_reducible assumption)|assumption);have hcut30:=cut_from (P:=Try.prog) 22 3 .i64 Try.underlying22 hi030 1 hsz30 A0 l0.length c0 x5_1 q030 q30;have hr30:=Kd.F_cut (m:=(x5_1:Int).toNat) (c:=c0) hC30 (by omega) hroom30;obtain ⟨A30,hA30⟩:∃ A1,A1=(if c0=(x5_1:Int).toNat then A0 else (A0:Option Addr).map (·.add ((x5_1:Int).toNat * 1))):=⟨_,rfl⟩;obtain ⟨c30,hc30⟩:∃ c1,c1=c0 - (x5_1:Int).toNat:=⟨_,rfl⟩;have hy30:y156.length=l0.length - (x5_1:Int).toNat:=(by rw [Ny156.out,lD] <;> omega);rw [show (l0).drop (x5_1:Int).toNat=y156 from Ny156.out.symm] at hr30;replace hr30:Kd.F (Kd.int .i64) _ _ A30 y156.length y156:=(by rw [hA30];exact hr30);rw [← hy30,← hA30,← hc30] at hcut30;have HO160:=qK (show Kd.V (Kd.int .i64) 3 _ w.heap.size _ (.slice A30 y156.length c30) y156 from Kd.V_mk (by rw [hy30,hc30];exact Nat.sub_le_sub_right hroom30 _) hr30);have HC160:=qK (show y156.length≤c30 from by rw [hy30,hc30];exact Nat.sub_le_sub_right hroom30 _);clear hr30 hC30 hroom30 hi030 hsz30 hc30;have KY30:=qK hy30;have KA30:=qK hA30;clear hy30 hA30;replace q30:=eq_true q30)|((with_reducible refine gate_builtin (b:=.append) (xs:=#[.tmp 34,.tmp 37]) rfl ?_);at_builtin;refine Kd.R_append_rows (Kd.int .i64) (w0:=w) w.heap.size rfl (.tmp 34) (.tmp 37) 22 3 (.int .i64 0) 8 rfl Try.underlying22 info3 rfl (by decide) (by omega) v154 y153 y156 _ _ _ (fun k_=>(w.heap.size≤k_)) (fun _=>False) rfl rfl ?aO ?aR (fun _ _ h=>h) (fun _ h=>h.elim) ?aF ?aB ?aS ?aL ?_;(case aR=>repeat (first|exact (Kd.V_reads' HO160.out).2.2|(with_reducible first|refine cL ?_ _|refine cN ?_ _|refine cW ?_)));(case aB=>exact (by repeat (with_reducible first|exact HB.out|apply qA|apply qD|apply qO)));(case aF=>exact (fun k_ hk=>(Nat.le_trans (qZ (by repeat (with_reducible first|exact HB.out|apply qA|apply qD|apply qO))) hk)));(case aO=>exact (by (with_reducible repeat (first|apply rL|apply rN|apply rW));exact HO155.out));(case aS=>exact (qZ (by repeat (with_reducible first|exact HB.out|apply qA|apply qD|apply qO))));(case aL=>have:=LMc26.out;omega);intro v162 w31 ho hb hg hat;rw [← Ny161.out] at ho;have n0_:=qK (Kd.V_afterv (ok:=(fun k_=>(P0_ k_ ∨ w.heap.size≤k_))) (by (with_reducible repeat (first|apply Kd.V_alloc|apply Kd.V_drewN|apply Kd.V_drew));exact HO_0.out) hg hat);have n1_:=qK (Kd.V_afterv (ok:=(fun k_=>(P0_ k_ ∨ w.heap.size≤k_))) (by (with_reducible repeat (first|apply Kd.V_alloc|apply Kd.V_drewN|apply Kd.V_drew));exact HO149.out) hg hat);have n2_:=qK (Kd.V_afterv (ok:=(fun k_=>(P0_ k_ ∨ w.heap.size≤k_))) (by (with_reducible repeat (first|apply Kd.V_alloc|apply Kd.V_drewN|apply Kd.V_drew));exact HO160.out) hg hat);have n3_:=qK (hb);have n4_:=qK (ho);clear HO_0;clear HO149;clear HO160;clear HB;clear HO155;have HO_0:=n0_;have HO149:=n1_;have HO160:=n2_;have HB:=n3_;have HO163:=n4_;clear n0_ n1_ n2_ n3_ n4_;clear ho hb hg hat))
          go_ret
          exact ⟨_,by first|rfl|(simp [errW_none,errW_some] <;> rfl)|(simp [*,errW_none,errW_some] <;> rfl),Kd.V_mono (Kd.R_V (by (with_reducible repeat (first|apply rL|apply rN|apply rW));exact HO163.out)) (fun k_ hk=>by first|exact ⟨(.inr (hk.1)),hk.2⟩|exact (.inr (hk))),by repeat (first|(with_reducible first|exact HB.out|apply qA|apply qD|apply qO)|exact HB.out)⟩
         ·rw [if_neg c26] at H;exact absurd H (by simp)
        ·rw [if_neg c23] at H;exact absurd H (by simp)
       ·rw [if_neg c22] at H;exact absurd H (by simp)
      ·rw [if_neg c21] at H;exact absurd H (by simp)
     ·rw [if_neg c20] at H;exact absurd H (by simp)

end Go.Proofs.Ytecebaeifmddnaa.PFnExactBestOf
