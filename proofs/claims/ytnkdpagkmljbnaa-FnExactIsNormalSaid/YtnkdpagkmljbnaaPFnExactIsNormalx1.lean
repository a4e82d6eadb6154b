/-
  A text of this claim's own, printed by a program of the session (wip/tools/xprint.py): functions of the program as Lean functions, each with what its call comes to.
-/
import Derived.Test.YtnkdpagkmljbnaaPFnExactIsNormalx0
namespace Go.Proofs.Ytnkdpagkmljbnaa.PFnExactIsNormal
open Go.Proofs.YtnkdpagkmljbnaaW.PrintWords renaming pw_below_drewN → qD, blk_cell → qC, below_drew1 → qO, below_alloc → qA, blk_frozen → qF, below_set → qS, blk_drewN → qN, blk_alloc → qL, blk_drew → qW, below_size → qZ, below_step → qT, blk_below → qB, blk_far → qR, blk_put → qP
open Go.Proofs.YtnkdpagkmljbnaaW.PrintWords.Aside0 renaming mk → qK
open Bool renaming true → Y, false → Z
open List renaming setIfInBounds_toArray → sIb, set_cons_zero → sZ, set_cons_succ → sS, map_toArray → mT, map_cons → mC, map_nil → mN, length_drop → lD, length_take → lT
open Go.Proofs.YtnkdpagkmljbnaaW.PrintWords.Kd renaming C_alloc → cL, C_drewN → cN, C_drew → cW, C_below → cB, R_alloc → rL, R_drewN → rN, R_drew → rW, R_below → rB
open Go.RowKit Go.Proofs.YtnkdpagkmljbnaaW.PrintWords Go.Proofs.YtnkdpagkmljbnaaW.PrintLast Go.Proofs.YtnkdpagkmljbnaaW.PrintMore
attribute [local go_sem] max2_int min2_int max_two min_two max_three min_three max_four min_four   -- for this text's walks alone
set_option linter.unusedVariables false
set_option linter.unusedSimpArgs false

/-! ### laws_szIntS: function 38 -/
def laws_szIntS.f (l0:List Int) (a1:Int):Option (Int):=if (wrap64 (a1 - (l0.length:Int))) < 0 then (some (-1)) else (some (wrap64 (a1 - (l0.length:Int))))
set_option maxHeartbeats 8000000 in
set_option maxRecDepth 100000 in
theorem laws_szIntS.calls (A0:Option Addr) (c0:Nat) (l0:List Int) (a1:Int) (r:Int) (w:World) (hr0:Kd.C (Kd.int .i64) w A0 l0.length l0) (hc0:l0.length≤c0) (h:laws_szIntS.f l0 a1=some r) :
  Calls Try.prog 38 #[.slice A0 l0.length c0,.int .i64 a1] w fun e w'=>e=.returned (.int .i64 r)∧Drawn0 w w':=by
 have HR0:=qK hr0;have HC0:=qK hc0;clear hr0 hc0;have H:(if (wrap64 (a1 - (l0.length:Int))) < 0 then (some (-1)) else (some (wrap64 (a1 - (l0.length:Int)))))=some r:=h;clear h;by_cases c3:(wrap64 (a1 - (l0.length:Int))) < 0
 ·rw [if_pos c3] at H;have c3b0:decide ((wrap64 (a1 - (l0.length:Int))) < 0)=true:=decide_eq_true c3;clear c3;obtain rfl:=Option.some.inj H;go_enter Try.func38,Try.ntmps38
  go_wp2
  go_ret
  exact ⟨by first|rfl|(simp;done)|(simp [*];done),by repeat (first|exact Drawn0.refl _|apply Drawn0.step)⟩
 ·rw [if_neg c3] at H;have c3b0:decide ((wrap64 (a1 - (l0.length:Int))) < 0)=false:=decide_eq_false c3;clear c3;obtain rfl:=Option.some.inj H;go_enter Try.func38,Try.ntmps38
  go_wp2
  go_ret
  exact ⟨by first|rfl|(simp;done)|(simp [*];done),by repeat (first|exact Drawn0.refl _|apply Drawn0.step)⟩

/-! ### laws_szDepend: function 18 -/
def laws_szDepend.f (l0_0:List Int) (l0_1:List Int) (a1:Int):Option (Int):=(laws_szIntS.f l0_0 a1).bind fun t102=>(if t102 < 0 then (some (-1)) else ((laws_szIntS.f l0_1 t102).bind fun t103=>(if t103 < 0 then (some (-1)) else (some t103))))
set_option maxHeartbeats 8000000 in
set_option maxRecDepth 100000 in
theorem laws_szDepend.calls (A0_0:Option Addr) (c0_0:Nat) (l0_0:List Int) (A0_1:Option Addr) (c0_1:Nat) (l0_1:List Int) (a1:Int) (r:Int) (w:World) (hr0_0:Kd.C (Kd.int .i64) w A0_0 l0_0.length l0_0) (hc0_0:l0_0.length≤c0_0) (hr0_1:Kd.C (Kd.int .i64) w A0_1 l0_1.length l0_1) (hc0_1:l0_1.length≤c0_1) (h:laws_szDepend.f l0_0 l0_1 a1=some r) :
  Calls Try.prog 18 #[.agg #[.slice A0_0 l0_0.length c0_0,.slice A0_1 l0_1.length c0_1],.int .i64 a1] w fun e w'=>e=.returned (.int .i64 r)∧Below w.heap.size w w':=by
 have hu42:=Try.underlying42;have HR0_0:=qK hr0_0;have HC0_0:=qK hc0_0;clear hr0_0 hc0_0;have HR0_1:=qK hr0_1;have HC0_1:=qK hc0_1;clear hr0_1 hc0_1;have HB:=qK (Below.refl w.heap.size w);have H:((laws_szIntS.f l0_0 a1).bind fun t102=>(if t102 < 0 then (some (-1)) else ((laws_szIntS.f l0_1 t102).bind fun t103=>(if t103 < 0 then (some (-1)) else (some t103)))))=some r:=h;clear h;replace H:=Option.bind_eq_some_iff.mp H;obtain ⟨t102,A30,H⟩:=H;replace H:(if t102 < 0 then (some (-1)) else ((laws_szIntS.f l0_1 t102).bind fun t103=>(if t103 < 0 then (some (-1)) else (some t103))))=some r:=H;have A3:=qK A30;clear A30;by_cases c4:t102 < 0
 ·rw [if_pos c4] at H;have c4b0:decide (t102 < 0)=true:=decide_eq_true c4;clear c4;obtain rfl:=Option.some.inj H;go_enter Try.func18,Try.ntmps18
  go_wp2_with (first|((with_reducible refine gate_dst (N:=2) rfl ?_);refine box_event ?hg (N:=2) ?hd (cs:=#[.slice A0_0 l0_0.length c0_0,.slice A0_1 l0_1.length c0_1]) (t:=42) ?hr ?_;(case hd=>rfl);(case hg=>rfl);(case hr=>(go_simp;try rfl));intro gb101 hg w5 hbox hb;have n0_:=qK (qT (by repeat (with_reducible first|exact HB.out|apply qA|apply qD|apply qO)) hb);have n1_:=qK (hbox);have n2_:=qK ((by rw [hg];exact (qZ (by repeat (with_reducible first|exact HB.out|apply qA|apply qD|apply qO))):w.heap.size≤gb101));have n3_:=qK ((by rw [hg];exact (qZ (by repeat (with_reducible first|exact HB.out|apply qA|apply qD|apply qO))):w.heap.size≤gb101));clear HB;have HB:=n0_;have BK101:=n1_;have GW101:=n2_;have GE101:=n3_;clear n0_ n1_ n2_ n3_;clear hb hbox hg;have hcz6_0:w5.cell? ⟨gb101,0,none⟩=some (.slice A0_0 l0_0.length c0_0):=(qC BK101.out 0).trans rfl;have hcz6_1:w5.cell? ⟨gb101,1,none⟩=some (.slice A0_1 l0_1.length c0_1):=(qC BK101.out 1).trans rfl;have hfz6_0:=qF BK101.out 0;have hfz6_1:=qF BK101.out 1)|((with_reducible refine gate_callee (f:=38) rfl ?_);refine goesL_ (some 8) rfl rfl Try.func38 (by kernel_rfl) rfl #[.slice A0_0 l0_0.length c0_0,.int .i64 a1] rfl (by (try simp only [mT,mC,mN]);first|done|rfl|(simp only [lD,lT];rfl)) ?_;(with_reducible refine (laws_szIntS.calls _ _ l0_0 a1 t102 _ ?side1 ?side2 A3.out).mono ?_);(case side1=>repeat (first|exact (cB HR0_0.out HB.out)|(with_reducible first|refine cL ?_ _|refine cN ?_ _|refine cW ?_)));(case side2=>exact HC0_0.out);rintro e w' ⟨rfl,⟨nd,rfl⟩⟩;refine ⟨_,rfl,?_⟩))
  go_ret
  exact ⟨by first|rfl|(simp [errW_none,errW_some] <;> rfl)|(simp [*,errW_none,errW_some] <;> rfl),by repeat (first|(with_reducible first|exact HB.out|apply qA|apply qD|apply qO|refine qS ?_ GE101.out)|exact HB.out)⟩
 ·rw [if_neg c4] at H;have c4b0:decide (t102 < 0)=false:=decide_eq_false c4;clear c4;replace H:=Option.bind_eq_some_iff.mp H;obtain ⟨t103,A70,H⟩:=H;replace H:(if t103 < 0 then (some (-1)) else (some t103))=some r:=H;have A7:=qK A70;clear A70;by_cases c8:t103 < 0
  ·rw [if_pos c8] at H;have c8b0:decide (t103 < 0)=true:=decide_eq_true c8;clear c8;obtain rfl:=Option.some.inj H;go_enter Try.func18,Try.ntmps18
   go_wp2_with (first|((with_reducible refine gate_dst (N:=2) rfl ?_);refine box_event ?hg (N:=2) ?hd (cs:=#[.slice A0_0 l0_0.length c0_0,.slice A0_1 l0_1.length c0_1]) (t:=42) ?hr ?_;(case hd=>rfl);(case hg=>rfl);(case hr=>(go_simp;try rfl));intro gb101 hg w9 hbox hb;have n0_:=qK (qT (by repeat (with_reducible first|exact HB.out|apply qA|apply qD|apply qO)) hb);have n1_:=qK (hbox);have n2_:=qK ((by rw [hg];exact (qZ (by repeat (with_reducible first|exact HB.out|apply qA|apply qD|apply qO))):w.heap.size≤gb101));have n3_:=qK ((by rw [hg];exact (qZ (by repeat (with_reducible first|exact HB.out|apply qA|apply qD|apply qO))):w.heap.size≤gb101));clear HB;have HB:=n0_;have BK101:=n1_;have GW101:=n2_;have GE101:=n3_;clear n0_ n1_ n2_ n3_;clear hb hbox hg;have hcz10_0:w9.cell? ⟨gb101,0,none⟩=some (.slice A0_0 l0_0.length c0_0):=(qC BK101.out 0).trans rfl;have hcz10_1:w9.cell? ⟨gb101,1,none⟩=some (.slice A0_1 l0_1.length c0_1):=(qC BK101.out 1).trans rfl;have hfz10_0:=qF BK101.out 0;have hfz10_1:=qF BK101.out 1)|((with_reducible refine gate_callee (f:=38) rfl ?_);refine goesL_ (some 8) rfl rfl Try.func38 (by kernel_rfl) rfl #[.slice A0_0 l0_0.length c0_0,.int .i64 a1] rfl (by (try simp only [mT,mC,mN]);first|done|rfl|(simp only [lD,lT];rfl)) ?_;(with_reducible refine (laws_szIntS.calls _ _ l0_0 a1 t102 _ ?side1 ?side2 A3.out).mono ?_);(case side1=>repeat (first|exact (cB HR0_0.out HB.out)|(with_reducible first|refine cL ?_ _|refine cN ?_ _|refine cW ?_)));(case side2=>exact HC0_0.out);rintro e w' ⟨rfl,⟨nd,rfl⟩⟩;refine ⟨_,rfl,?_⟩)|((with_reducible refine gate_callee (f:=38) rfl ?_);refine goesL_ (some 14) rfl rfl Try.func38 (by kernel_rfl) rfl #[.slice A0_1 l0_1.length c0_1,.int .i64 t102] rfl (by (try simp only [mT,mC,mN]);first|done|rfl|(simp only [lD,lT];rfl)) ?_;(with_reducible refine (laws_szIntS.calls _ _ l0_1 t102 t103 _ ?side1 ?side2 A7.out).mono ?_);(case side1=>repeat (first|exact (cB HR0_1.out (by repeat (with_reducible first|exact HB.out|apply qA|apply qD|apply qO|refine qS ?_ GE101.out)))|(with_reducible first|refine cL ?_ _|refine cN ?_ _|refine cW ?_)));(case side2=>exact HC0_1.out);rintro e w' ⟨rfl,⟨nd,rfl⟩⟩;refine ⟨_,rfl,?_⟩))
   go_ret
   exact ⟨by first|rfl|(simp [errW_none,errW_some] <;> rfl)|(simp [*,errW_none,errW_some] <;> rfl),by repeat (first|(with_reducible first|exact HB.out|apply qA|apply qD|apply qO|refine qS ?_ GE101.out)|exact HB.out)⟩
  ·rw [if_neg c8] at H;have c8b0:decide (t103 < 0)=false:=decide_eq_false c8;clear c8;obtain rfl:=Option.some.inj H;go_enter Try.func18,Try.ntmps18
   go_wp2_with (first|((with_reducible refine gate_dst (N:=2) rfl ?_);refine box_event ?hg (N:=2) ?hd (cs:=#[.slice A0_0 l0_0.length c0_0,.slice A0_1 l0_1.length c0_1]) (t:=42) ?hr ?_;(case hd=>rfl);(case hg=>rfl);(case hr=>(go_simp;try rfl));intro gb101 hg w11 hbox hb;have n0_:=qK (qT (by repeat (with_reducible first|exact HB.out|apply qA|apply qD|apply qO)) hb);have n1_:=qK (hbox);have n2_:=qK ((by rw [hg];exact (qZ (by repeat (with_reducible first|exact HB.out|apply qA|apply qD|apply qO))):w.heap.size≤gb101));have n3_:=qK ((by rw [hg];exact (qZ (by repeat (with_reducible first|exact HB.out|apply qA|apply qD|apply qO))):w.heap.size≤gb101));clear HB;have HB:=n0_;have BK101:=n1_;have GW101:=n2_;have GE101:=n3_;clear n0_ n1_ n2_ n3_;clear hb hbox hg;have hcz12_0:w11.cell? ⟨gb101,0,none⟩=some (.slice A0_0 l0_0.length c0_0):=(qC BK101.out 0).trans rfl;have hcz12_1:w11.cell? ⟨gb101,1,none⟩=some (.slice A0_1 l0_1.length c0_1):=(qC BK101.out 1).trans rfl;have hfz12_0:=qF BK101.out 0;have hfz12_1:=qF BK101.out 1)|((with_reducible refine gate_callee (f:=38) rfl ?_);refine goesL_ (some 8) rfl rfl Try.func38 (by kernel_rfl) rfl #[.slice A0_0 l0_0.length c0_0,.int .i64 a1] rfl (by (try simp only [mT,mC,mN]);first|done|rfl|(simp only [lD,lT];rfl)) ?_;(with_reducible refine (laws_szIntS.calls _ _ l0_0 a1 t102 _ ?side1 ?side2 A3.out).mono ?_);(case side1=>repeat (first|exact (cB HR0_0.out HB.out)|(with_reducible first|refine cL ?_ _|refine cN ?_ _|refine cW ?_)));(case side2=>exact HC0_0.out);rintro e w' ⟨rfl,⟨nd,rfl⟩⟩;refine ⟨_,rfl,?_⟩)|((with_reducible refine gate_callee (f:=38) rfl ?_);refine goesL_ (some 14) rfl rfl Try.func38 (by kernel_rfl) rfl #[.slice A0_1 l0_1.length c0_1,.int .i64 t102] rfl (by (try simp only [mT,mC,mN]);first|done|rfl|(simp only [lD,lT];rfl)) ?_;(with_reducible refine (laws_szIntS.calls _ _ l0_1 t102 t103 _ ?side1 ?side2 A7.out).mono ?_);(case side1=>repeat (first|exact (cB HR0_1.out (by repeat (with_reducible first|exact HB.out|apply qA|apply qD|apply qO|refine qS ?_ GE101.out)))|(with_reducible first|refine cL ?_ _|refine cN ?_ _|refine cW ?_)));(case side2=>exact HC0_1.out);rintro e w' ⟨rfl,⟨nd,rfl⟩⟩;refine ⟨_,rfl,?_⟩))
   go_ret
   exact ⟨by first|rfl|(simp [errW_none,errW_some] <;> rfl)|(simp [*,errW_none,errW_some] <;> rfl),by repeat (first|(with_reducible first|exact HB.out|apply qA|apply qD|apply qO|refine qS ?_ GE101.out)|exact HB.out)⟩

/-! ### laws_szDependS: function 5 -/
def laws_szDependS.l0 : Nat→List (S42)→Int→Int→Option (Int)
 | 0,_,_,_=>none
 | k + 1,x0,x1,x5=>if x5 < (x0.length:Int) then (if 0≤x5 then ((laws_szDepend.f ((rd_T42 x0 x5).f0) ((rd_T42 x0 x5).f1) x1).bind fun t105=>(if t105 < 0 then (some (-1)) else (laws_szDependS.l0 k x0 t105 (wrap64 (x5 + 1))))) else (none)) else (some x1)
def laws_szDependS.f (k:Nat) (l0:List (S42)) (a1:Int):Option (Int):=if (wrap64 (a1 - (l0.length:Int))) < 0 then (some (-1)) else (laws_szDependS.l0 k l0 (wrap64 (a1 - (l0.length:Int))) 0)
theorem laws_szDependS.mono_l : ∀ k,(∀ y0 y1 y2,LeO (laws_szDependS.l0 k y0 y1 y2) (laws_szDependS.l0 (k + 1) y0 y1 y2))
 | 0=>fun _ _ _ r h=>by simp [laws_szDependS.l0] at h
 | k + 1=>by
  have ih0:=laws_szDependS.mono_l k
  ·intro y0 y1 y2;unfold laws_szDependS.l0
   repeat' first
   | (with_reducible exact ih0 _ _ _)
   | (with_reducible exact LeO.refl _)
   | (with_reducible exact LeO.none _)
   | (with_reducible refine LeO.ite ?_ ?_)
   | (with_reducible refine LeO.bind ?_ (fun _=>?_))
   | exact ih0 _ _ _
   | exact LeO.none _
   | refine LeO.ite ?_ ?_
   | refine LeO.bind ?_ (fun _=>?_)
theorem laws_szDependS.mono : ∀ a0 a1 k,LeO (laws_szDependS.f k a0 a1) (laws_szDependS.f (k + 1) a0 a1):=by
 intro a0 a1 k;have ih0:=laws_szDependS.mono_l k;unfold laws_szDependS.f
 repeat' first
   | (with_reducible exact ih0 _ _ _)
   | (with_reducible exact LeO.refl _)
   | (with_reducible exact LeO.none _)
   | (with_reducible refine LeO.ite ?_ ?_)
   | (with_reducible refine LeO.bind ?_ (fun _=>?_))
   | exact ih0 _ _ _
   | exact LeO.none _
   | refine LeO.ite ?_ ?_
   | refine LeO.bind ?_ (fun _=>?_)
set_option maxHeartbeats 8000000 in
set_option maxRecDepth 100000 in
theorem laws_szDependS.calls (k:Nat) (A0:Option Addr) (c0:Nat) (l0:List (S42)) (a1:Int) (r:Int) (w:World) (hr0:Kd.C k42 w A0 l0.length l0) (hc0:l0.length≤c0) (h:laws_szDependS.f k l0 a1=some r) :
  Calls Try.prog 5 #[.slice A0 l0.length c0,.int .i64 a1] w fun e w'=>e=.returned (.int .i64 r)∧Below w.heap.size w w':=by
 have hu42:=Try.underlying42;have HR0:=qK hr0;have HC0:=qK hc0;clear hr0 hc0;have HB:=qK (Below.refl w.heap.size w);have H:(if (wrap64 (a1 - (l0.length:Int))) < 0 then (some (-1)) else (laws_szDependS.l0 k l0 (wrap64 (a1 - (l0.length:Int))) 0))=some r:=h;clear h;by_cases c3:(wrap64 (a1 - (l0.length:Int))) < 0
 ·rw [if_pos c3] at H;have c3b0:decide ((wrap64 (a1 - (l0.length:Int))) < 0)=true:=decide_eq_true c3;clear c3;obtain rfl:=Option.some.inj H;go_enter Try.func5,Try.ntmps5
  go_wp2
  go_ret
  exact ⟨by first|rfl|(simp [errW_none,errW_some] <;> rfl)|(simp [*,errW_none,errW_some] <;> rfl),by repeat (first|(with_reducible first|exact HB.out|apply qA|apply qD|apply qO)|exact HB.out)⟩
 ·rw [if_neg c3] at H;have c3b0:decide ((wrap64 (a1 - (l0.length:Int))) < 0)=false:=decide_eq_false c3;clear c3;have H':=qK H;clear H;go_enter Try.func5,Try.ntmps5
  go_wp2
  go_loopg [1,5] k (fun kq v1 v5 w'=>∃ (x1_1:Int) (x5_1:Int),v1=.int .i64 x1_1∧v5=.int .i64 x5_1∧Aside0 (laws_szDependS.l0 kq l0 x1_1 x5_1=some r)∧Aside0 (kq≤k)∧Aside0 (Below w.heap.size w w'))
  case atStart=>exact ⟨(wrap64 (a1 - (l0.length:Int))),(0),(by first|rfl|(simp;done)|(simp [*];done)),(by first|rfl|(simp;done)|(simp [*];done)),H',⟨Nat.le_refl _⟩,⟨by repeat (first|(with_reducible first|exact HB.out|apply qA|apply qD|apply qO)|exact HB.out)⟩⟩
  case round =>
   clear H';try clear p2
   try clear c3
   try clear c3b0
   obtain ⟨x1_1,x5_1,rfl,rfl,HA,HK1,HB⟩:=hrel;cases gk with
   | zero=>exact absurd HA.out (by simp [laws_szDependS.l0])
   | succ k1 =>
    have H:=HA.out;clear HA;simp only [laws_szDependS.l0] at H;by_cases c4:x5_1 < (l0.length:Int)
    ·rw [if_pos c4] at H;have c4b0:decide (x5_1 < (l0.length:Int))=true:=decide_eq_true c4;clear c4;by_cases c5:0≤x5_1
     ·rw [if_pos c5] at H;have c5b0:decide (0≤x5_1)=true:=decide_eq_true c5;clear c5;replace H:=Option.bind_eq_some_iff.mp H;obtain ⟨t105,A60,H⟩:=H;replace H:(if t105 < 0 then (some (-1)) else (laws_szDependS.l0 k1 l0 t105 (wrap64 (x5_1 + 1))))=some r:=H;have A6:=qK A60;clear A60;by_cases c7:t105 < 0
      ·rw [if_pos c7] at H;have c7b0:decide (t105 < 0)=true:=decide_eq_true c7;clear c7;obtain rfl:=Option.some.inj H;have p104:0≤(x5_1:Int):=of_decide_eq_true (by first|(with_reducible assumption)|assumption);have q104:x5_1 < (l0.length:Int):=of_decide_eq_true (by first|(with_reducible assumption)|assumption);obtain ⟨ad104,A104_0,c104_0,A104_1,c104_1,e104,hx104_0,hx104_1,hl104_0,hi104_0,hl104_1,hi104_1⟩:=at_T42 HR0.out x5_1 p104 q104;cases e104
       replace hx104_0:=(HB.out.cell (World.block_lt_of_cell? w _ hx104_0)).trans hx104_0;replace hx104_1:=(HB.out.cell (World.block_lt_of_cell? w _ hx104_1)).trans hx104_1;have HR104_0:=qK hi104_0;have HC104_0:=qK hl104_0;clear hi104_0 hl104_0;have HR104_1:=qK hi104_1;have HC104_1:=qK hl104_1;clear hi104_1 hl104_1;replace p104:=eq_true p104;replace q104:=eq_true q104;go_wp2_with (first|((with_reducible refine gate_callee (f:=18) rfl ?_);refine goesL_ (some 23) rfl rfl Try.func18 (by kernel_rfl) rfl #[.agg #[.slice A104_0 ((rd_T42 l0 x5_1).f0).length c104_0,.slice A104_1 ((rd_T42 l0 x5_1).f1).length c104_1],.int .i64 x1_1] rfl (by (try simp only [mT,mC,mN]);first|done|rfl|(simp only [lD,lT];rfl)) ?_;(with_reducible refine (laws_szDepend.calls _ _ ((rd_T42 l0 x5_1).f0) _ _ ((rd_T42 l0 x5_1).f1) x1_1 t105 _ ?side1 ?side2 ?side3 ?side4 A6.out).mono ?_);(case side1=>repeat (first|exact (cB HR104_0.out HB.out)|(with_reducible first|refine cL ?_ _|refine cN ?_ _|refine cW ?_)));(case side2=>exact HC104_0.out);(case side3=>repeat (first|exact (cB HR104_1.out HB.out)|(with_reducible first|refine cL ?_ _|refine cN ?_ _|refine cW ?_)));(case side4=>exact HC104_1.out);rintro e w8 ⟨rfl,hb⟩;refine ⟨_,rfl,?_⟩;have n0_:=qK (qT (by repeat (with_reducible first|exact HB.out|apply qA|apply qD|apply qO)) hb);clear HB;have HB:=n0_;clear n0_;(try clear hb)))
       go_ret
       exact ⟨by first|rfl|(simp [errW_none,errW_some] <;> rfl)|(simp [*,errW_none,errW_some] <;> rfl),by repeat (first|(with_reducible first|exact HB.out|apply qA|apply qD|apply qO)|exact HB.out)⟩
      ·rw [if_neg c7] at H;have c7b0:decide (t105 < 0)=false:=decide_eq_false c7;clear c7;have H':=qK H;clear H;have p104:0≤(x5_1:Int):=of_decide_eq_true (by first|(with_reducible assumption)|assumption);have q104:x5_1 < (l0.length:Int):=of_decide_eq_true (by first|(with_reducible assumption)|assumption);obtain ⟨ad104,A104_0,c104_0,A104_1,c104_1,e104,hx104_0,hx104_1,hl104_0,hi104_0,hl104_1,hi104_1⟩:=at_T42 HR0.out x5_1 p104 q104;cases e104
       replace hx104_0:=(HB.out.cell (World.block_lt_of_cell? w _ hx104_0)).trans hx104_0;replace hx104_1:=(HB.out.cell (World.block_lt_of_cell? w _ hx104_1)).trans hx104_1;have HR104_0:=qK hi104_0;have HC104_0:=qK hl104_0;clear hi104_0 hl104_0;have HR104_1:=qK hi104_1;have HC104_1:=qK hl104_1;clear hi104_1 hl104_1;replace p104:=eq_true p104;replace q104:=eq_true q104;go_wp2_with (first|((with_reducible refine gate_callee (f:=18) rfl ?_);refine goesL_ (some 23) rfl rfl Try.func18 (by kernel_rfl) rfl #[.agg #[.slice A104_0 ((rd_T42 l0 x5_1).f0).length c104_0,.slice A104_1 ((rd_T42 l0 x5_1).f1).length c104_1],.int .i64 x1_1] rfl (by (try simp only [mT,mC,mN]);first|done|rfl|(simp only [lD,lT];rfl)) ?_;(with_reducible refine (laws_szDepend.calls _ _ ((rd_T42 l0 x5_1).f0) _ _ ((rd_T42 l0 x5_1).f1) x1_1 t105 _ ?side1 ?side2 ?side3 ?side4 A6.out).mono ?_);(case side1=>repeat (first|exact (cB HR104_0.out HB.out)|(with_reducible first|refine cL ?_ _|refine cN ?_ _|refine cW ?_)));(case side2=>exact HC104_0.out);(case side3=>repeat (first|exact (cB HR104_1.out HB.out)|(with_reducible first|refine cL ?_ _|refine cN ?_ _|refine cW ?_)));(case side4=>exact HC104_1.out);rintro e w9 ⟨rfl,hb⟩;refine ⟨_,rfl,?_⟩;have n0_:=qK (qT (by repeat (with_reducible first|exact HB.out|apply qA|apply qD|apply qO)) hb);clear HB;have HB:=n0_;clear n0_;(try clear hb)))
       go_roundg k1
       case measure=>have:=HK1.out;omega
       case rel=>exact ⟨(t105),(wrap64 (x5_1 + 1)),(by first|rfl|(simp;done)|(simp [*];done)),(by first|rfl|(simp;done)|(simp [*];done)),H',⟨by have:=HK1.out;omega⟩,⟨by repeat (first|(with_reducible first|exact HB.out|apply qA|apply qD|apply qO)|exact HB.out)⟩⟩
     ·rw [if_neg c5] at H;exact absurd H (by simp)
    ·rw [if_neg c4] at H;have c4b0:decide (x5_1 < (l0.length:Int))=false:=decide_eq_false c4;clear c4;obtain rfl:=Option.some.inj H;go_wp2
     go_ret
     exact ⟨by first|rfl|(simp [errW_none,errW_some] <;> rfl)|(simp [*,errW_none,errW_some] <;> rfl),by repeat (first|(with_reducible first|exact HB.out|apply qA|apply qD|apply qO)|exact HB.out)⟩

/-! ### spec_l1Some: function 39 -/
def spec_l1Some.l0 : Nat→List Int→Int→List Int→Int→Int→Option (Bool)
 | 0,_,_,_,_,_=>none
 | k + 1,x0,x1,x7,x8,x9=>if x9 < x8 then (if 0≤x9 then (if x9 < (x7.length:Int) then (if (rd x7 x9) < 0 then (some false) else (if (rd x7 x9) ≥ x1 then (some false) else (if x9 > 0 then (if 0≤(wrap64 (x9 - 1)) then (if (wrap64 (x9 - 1)) < (x0.length:Int) then (if (rd x0 (wrap64 (x9 - 1))) ≥ (rd x7 x9) then (some false) else (spec_l1Some.l0 k x0 x1 x7 x8 (wrap64 (x9 + 1)))) else (none)) else (none)) else (spec_l1Some.l0 k x0 x1 x7 x8 (wrap64 (x9 + 1)))))) else (none)) else (none)) else (some true)
def spec_l1Some.f (k:Nat) (l0:List Int) (a1:Int):Option (Bool):=spec_l1Some.l0 k l0 a1 l0 (l0.length:Int) 0
theorem spec_l1Some.mono_l : ∀ k,(∀ y0 y1 y2 y3 y4,LeO (spec_l1Some.l0 k y0 y1 y2 y3 y4) (spec_l1Some.l0 (k + 1) y0 y1 y2 y3 y4))
 | 0=>fun _ _ _ _ _ r h=>by simp [spec_l1Some.l0] at h
 | k + 1=>by
  have ih0:=spec_l1Some.mono_l k
  ·intro y0 y1 y2 y3 y4;unfold spec_l1Some.l0
   repeat' first
   | (with_reducible exact ih0 _ _ _ _ _)
   | (with_reducible exact LeO.refl _)
   | (with_reducible exact LeO.none _)
   | (with_reducible refine LeO.ite ?_ ?_)
   | (with_reducible refine LeO.bind ?_ (fun _=>?_))
   | exact ih0 _ _ _ _ _
   | exact LeO.none _
   | refine LeO.ite ?_ ?_
   | refine LeO.bind ?_ (fun _=>?_)
theorem spec_l1Some.mono : ∀ a0 a1 k,LeO (spec_l1Some.f k a0 a1) (spec_l1Some.f (k + 1) a0 a1):=by
 intro a0 a1 k;have ih0:=spec_l1Some.mono_l k;unfold spec_l1Some.f
 repeat' first
   | (with_reducible exact ih0 _ _ _ _ _)
   | (with_reducible exact LeO.refl _)
   | (with_reducible exact LeO.none _)
   | (with_reducible refine LeO.ite ?_ ?_)
   | (with_reducible refine LeO.bind ?_ (fun _=>?_))
   | exact ih0 _ _ _ _ _
   | exact LeO.none _
   | refine LeO.ite ?_ ?_
   | refine LeO.bind ?_ (fun _=>?_)
set_option maxHeartbeats 8000000 in
set_option maxRecDepth 100000 in
theorem spec_l1Some.calls (k:Nat) (A0:Option Addr) (c0:Nat) (l0:List Int) (a1:Int) (r:Bool) (w:World) (hr0:Kd.C (Kd.int .i64) w A0 l0.length l0) (hc0:l0.length≤c0) (h:spec_l1Some.f k l0 a1=some r) :
  Calls Try.prog 39 #[.slice A0 l0.length c0,.int .i64 a1] w fun e w'=>e=.returned (.bool r)∧Drawn0 w w':=by
 have HR0:=qK hr0;have HC0:=qK hc0;clear hr0 hc0;have H:(spec_l1Some.l0 k l0 a1 l0 (l0.length:Int) 0)=some r:=h;clear h;have H':=qK H;clear H;go_enter Try.func39,Try.ntmps39
 go_wp2
 go_loopg [9] k (fun kq v9 w'=>∃ (x9_1:Int),v9=.int .i64 x9_1∧Aside0 (spec_l1Some.l0 kq l0 a1 l0 (l0.length:Int) x9_1=some r)∧Aside0 (kq≤k)∧Drawn0 w w')
 case atStart=>exact ⟨(0),(by first|rfl|(simp;done)|(simp [*];done)),H',⟨Nat.le_refl _⟩,by repeat (first|exact Drawn0.refl _|apply Drawn0.step)⟩
 case round =>
  clear H';try clear p2
  obtain ⟨x9_1,rfl,HA,HK1,⟨m1,rfl⟩⟩:=hrel;cases gk with
  | zero=>exact absurd HA.out (by simp [spec_l1Some.l0])
  | succ k1 =>
   have H:=HA.out;clear HA;simp only [spec_l1Some.l0] at H;by_cases c3:x9_1 < (l0.length:Int)
   ·rw [if_pos c3] at H;have c3b0:decide (x9_1 < (l0.length:Int))=true:=decide_eq_true c3;clear c3;by_cases c4:0≤x9_1
    ·rw [if_pos c4] at H;have c4b0:decide (0≤x9_1)=true:=decide_eq_true c4;clear c4;by_cases c5:x9_1 < (l0.length:Int)
     ·rw [if_pos c5] at H;have c5b0:decide (x9_1 < (l0.length:Int))=true:=decide_eq_true c5;clear c5;by_cases c6:(rd l0 x9_1) < 0
      ·rw [if_pos c6] at H;have c6b0:decide ((rd l0 x9_1) < 0)=true:=decide_eq_true c6;clear c6;obtain rfl:=Option.some.inj H;have p106:0≤(x9_1:Int):=of_decide_eq_true (by first|(with_reducible assumption)|assumption);have q106:x9_1 < (l0.length:Int):=of_decide_eq_true (by first|(with_reducible assumption)|assumption);obtain ⟨ad106,e106,hx106_0⟩:=Kd.at_int HR0.out x9_1 p106 q106;cases e106
       replace p106:=eq_true p106;replace q106:=eq_true q106;go_wp2
       go_ret
       exact ⟨by first|rfl|(simp;done)|(simp [*];done),by repeat (first|exact Drawn0.refl _|apply Drawn0.step)⟩
      ·rw [if_neg c6] at H;have c6b0:decide ((rd l0 x9_1) < 0)=false:=decide_eq_false c6;clear c6;by_cases c7:(rd l0 x9_1) ≥ a1
       ·rw [if_pos c7] at H;have c7b0:decide (a1≤(rd l0 x9_1))=true:=decide_eq_true c7;clear c7;obtain rfl:=Option.some.inj H;have p106:0≤(x9_1:Int):=of_decide_eq_true (by first|(with_reducible assumption)|assumption);have q106:x9_1 < (l0.length:Int):=of_decide_eq_true (by first|(with_reducible assumption)|assumption);obtain ⟨ad106,e106,hx106_0⟩:=Kd.at_int HR0.out x9_1 p106 q106;cases e106
        replace p106:=eq_true p106;replace q106:=eq_true q106;go_wp2
        go_ret
        exact ⟨by first|rfl|(simp;done)|(simp [*];done),by repeat (first|exact Drawn0.refl _|apply Drawn0.step)⟩
       ·rw [if_neg c7] at H;have c7b0:decide (a1≤(rd l0 x9_1))=false:=decide_eq_false c7;clear c7;by_cases c8:x9_1 > 0
        ·rw [if_pos c8] at H;have c8b0:decide (0 < x9_1)=true:=decide_eq_true c8;clear c8;obtain ⟨ji9,hji9⟩:∃ j_:Int,(wrap64 (x9_1 - 1))=j_:=⟨_,rfl⟩;replace H:(if 0≤(ji9) then (if (ji9) < (l0.length:Int) then (if (rd l0 (ji9)) ≥ (rd l0 x9_1) then (some false) else (spec_l1Some.l0 k1 l0 a1 l0 (l0.length:Int) (wrap64 (x9_1 + 1)))) else (none)) else (none))=some r:=by first|(rw [hji9] at H;exact H)|(simp only [hji9] at H ⊢;exact H)
         have hji9w:(IntKind.i64.wrap (x9_1 - 1))=ji9:=(i64_w _).trans hji9;by_cases c10:0≤(ji9)
         ·rw [if_pos c10] at H;have c10b0:decide (0≤(ji9))=true:=decide_eq_true c10;clear c10;by_cases c11:(ji9) < (l0.length:Int)
          ·rw [if_pos c11] at H;have c11b0:decide ((ji9) < (l0.length:Int))=true:=decide_eq_true c11;clear c11;by_cases c12:(rd l0 (ji9)) ≥ (rd l0 x9_1)
           ·rw [if_pos c12] at H;have c12b0:decide ((rd l0 x9_1)≤(rd l0 (ji9)))=true:=decide_eq_true c12;clear c12;obtain rfl:=Option.some.inj H;have p106:0≤(x9_1:Int):=of_decide_eq_true (by first|(with_reducible assumption)|assumption);have q106:x9_1 < (l0.length:Int):=of_decide_eq_true (by first|(with_reducible assumption)|assumption);obtain ⟨ad106,e106,hx106_0⟩:=Kd.at_int HR0.out x9_1 p106 q106;cases e106
            replace p106:=eq_true p106;replace q106:=eq_true q106;have p107:0≤((ji9):Int):=of_decide_eq_true (by first|(with_reducible assumption)|assumption);have q107:(ji9) < (l0.length:Int):=of_decide_eq_true (by first|(with_reducible assumption)|assumption);obtain ⟨ad107,e107,hx107_0⟩:=Kd.at_int HR0.out (ji9) p107 q107;obtain rfl:ad106=ad107:=(by injection e107);replace p107:=eq_true p107;replace q107:=eq_true q107;go_wp2
            go_ret
            exact ⟨by first|rfl|(simp;done)|(simp only [← hji9] <;> (first|rfl|simp))|(simp [*];done),by repeat (first|exact Drawn0.refl _|apply Drawn0.step)⟩
           ·rw [if_neg c12] at H;have c12b0:decide ((rd l0 x9_1)≤(rd l0 (ji9)))=false:=decide_eq_false c12;clear c12;have H':=qK H;clear H;have p106:0≤(x9_1:Int):=of_decide_eq_true (by first|(with_reducible assumption)|assumption);have q106:x9_1 < (l0.length:Int):=of_decide_eq_true (by first|(with_reducible assumption)|assumption);obtain ⟨ad106,e106,hx106_0⟩:=Kd.at_int HR0.out x9_1 p106 q106;cases e106
            replace p106:=eq_true p106;replace q106:=eq_true q106;have p107:0≤((ji9):Int):=of_decide_eq_true (by first|(with_reducible assumption)|assumption);have q107:(ji9) < (l0.length:Int):=of_decide_eq_true (by first|(with_reducible assumption)|assumption);obtain ⟨ad107,e107,hx107_0⟩:=Kd.at_int HR0.out (ji9) p107 q107;obtain rfl:ad106=ad107:=(by injection e107);replace p107:=eq_true p107;replace q107:=eq_true q107;go_wp2
            go_roundg k1
            case measure=>have:=HK1.out;omega
            case rel=>exact ⟨(wrap64 (x9_1 + 1)),(by first|rfl|(simp;done)|(simp [*];done)),H',⟨by have:=HK1.out;omega⟩,by repeat (first|exact Drawn0.refl _|apply Drawn0.step)⟩
          ·rw [if_neg c11] at H;exact absurd H (by simp)
         ·rw [if_neg c10] at H;exact absurd H (by simp)
        ·rw [if_neg c8] at H;have c8b0:decide (0 < x9_1)=false:=decide_eq_false c8;clear c8;have H':=qK H;clear H;have p106:0≤(x9_1:Int):=of_decide_eq_true (by first|(with_reducible assumption)|assumption);have q106:x9_1 < (l0.length:Int):=of_decide_eq_true (by first|(with_reducible assumption)|assumption);obtain ⟨ad106,e106,hx106_0⟩:=Kd.at_int HR0.out x9_1 p106 q106;cases e106
         replace p106:=eq_true p106;replace q106:=eq_true q106;go_wp2
         go_roundg k1
         case measure=>have:=HK1.out;omega
         case rel=>exact ⟨(wrap64 (x9_1 + 1)),(by first|rfl|(simp;done)|(simp [*];done)),H',⟨by have:=HK1.out;omega⟩,by repeat (first|exact Drawn0.refl _|apply Drawn0.step)⟩
     ·rw [if_neg c5] at H;exact absurd H (by simp)
    ·rw [if_neg c4] at H;exact absurd H (by simp)
   ·rw [if_neg c3] at H;have c3b0:decide (x9_1 < (l0.length:Int))=false:=decide_eq_false c3;clear c3;obtain rfl:=Option.some.inj H;go_wp2
    go_ret
    exact ⟨by first|rfl|(simp;done)|(simp [*];done),by repeat (first|exact Drawn0.refl _|apply Drawn0.step)⟩

/-! ### spec_l7Depend: function 49 -/
def spec_l7Depend.f (k:Nat) (l0_0:List Int) (l0_1:List Int) (a1:Int):Option (Bool):=(spec_l1Some.f k l0_0 a1).bind fun t109=>(if t109=true then ((spec_l1Some.f k l0_1 a1).bind fun t110=>(some t110)) else (some false))
theorem spec_l7Depend.mono : ∀ a0 a1 a2 k,LeO (spec_l7Depend.f k a0 a1 a2) (spec_l7Depend.f (k + 1) a0 a1 a2):=by
 intro a0 a1 a2 k;unfold spec_l7Depend.f
 repeat' first
   | (with_reducible exact spec_l1Some.mono _ _ _)
   | (with_reducible exact LeO.refl _)
   | (with_reducible exact LeO.none _)
   | (with_reducible refine LeO.ite ?_ ?_)
   | (with_reducible refine LeO.bind ?_ (fun _=>?_))
   | exact spec_l1Some.mono _ _ _
   | exact LeO.none _
   | refine LeO.ite ?_ ?_
   | refine LeO.bind ?_ (fun _=>?_)
set_option maxHeartbeats 8000000 in
set_option maxRecDepth 100000 in
theorem spec_l7Depend.calls (k:Nat) (A0_0:Option Addr) (c0_0:Nat) (l0_0:List Int) (A0_1:Option Addr) (c0_1:Nat) (l0_1:List Int) (a1:Int) (r:Bool) (w:World) (hr0_0:Kd.C (Kd.int .i64) w A0_0 l0_0.length l0_0) (hc0_0:l0_0.length≤c0_0) (hr0_1:Kd.C (Kd.int .i64) w A0_1 l0_1.length l0_1) (hc0_1:l0_1.length≤c0_1) (h:spec_l7Depend.f k l0_0 l0_1 a1=some r) :
  Calls Try.prog 49 #[.agg #[.slice A0_0 l0_0.length c0_0,.slice A0_1 l0_1.length c0_1],.int .i64 a1] w fun e w'=>e=.returned (.bool r)∧Below w.heap.size w w':=by
 have hu45:=Try.underlying45;have HR0_0:=qK hr0_0;have HC0_0:=qK hc0_0;clear hr0_0 hc0_0;have HR0_1:=qK hr0_1;have HC0_1:=qK hc0_1;clear hr0_1 hc0_1;have HB:=qK (Below.refl w.heap.size w);have H:((spec_l1Some.f k l0_0 a1).bind fun t109=>(if t109=true then ((spec_l1Some.f k l0_1 a1).bind fun t110=>(some t110)) else (some false)))=some r:=h;clear h;replace H:=Option.bind_eq_some_iff.mp H;obtain ⟨t109,A30,H⟩:=H;replace H:(if t109=true then ((spec_l1Some.f k l0_1 a1).bind fun t110=>(some t110)) else (some false))=some r:=H;have A3:=qK A30;clear A30;by_cases c4:t109=true
 ·subst c4;have H1:((spec_l1Some.f k l0_1 a1).bind fun t110=>(some t110))=some r:=by rw [if_pos rfl] at H;exact H
  clear H;have H:=H1;clear H1;replace H:=Option.bind_eq_some_iff.mp H;obtain ⟨t110,A50,H⟩:=H;replace H:(some t110)=some r:=H;have A5:=qK A50;clear A50;obtain rfl:=Option.some.inj H;go_enter Try.func49,Try.ntmps49
  go_wp2_with (first|((with_reducible refine gate_dst (N:=2) rfl ?_);refine box_event ?hg (N:=2) ?hd (cs:=#[.slice A0_0 l0_0.length c0_0,.slice A0_1 l0_1.length c0_1]) (t:=45) ?hr ?_;(case hd=>rfl);(case hg=>rfl);(case hr=>(go_simp;try rfl));intro gb108 hg w6 hbox hb;have n0_:=qK (qT (by repeat (with_reducible first|exact HB.out|apply qA|apply qD|apply qO)) hb);have n1_:=qK (hbox);have n2_:=qK ((by rw [hg];exact (qZ (by repeat (with_reducible first|exact HB.out|apply qA|apply qD|apply qO))):w.heap.size≤gb108));have n3_:=qK ((by rw [hg];exact (qZ (by repeat (with_reducible first|exact HB.out|apply qA|apply qD|apply qO))):w.heap.size≤gb108));clear HB;have HB:=n0_;have BK108:=n1_;have GW108:=n2_;have GE108:=n3_;clear n0_ n1_ n2_ n3_;clear hb hbox hg;have hcz7_0:w6.cell? ⟨gb108,0,none⟩=some (.slice A0_0 l0_0.length c0_0):=(qC BK108.out 0).trans rfl;have hcz7_1:w6.cell? ⟨gb108,1,none⟩=some (.slice A0_1 l0_1.length c0_1):=(qC BK108.out 1).trans rfl;have hfz7_0:=qF BK108.out 0;have hfz7_1:=qF BK108.out 1)|((with_reducible refine gate_callee (f:=39) rfl ?_);refine goesL_ (some 8) rfl rfl Try.func39 (by kernel_rfl) rfl #[.slice A0_0 l0_0.length c0_0,.int .i64 a1] rfl (by (try simp only [mT,mC,mN]);first|done|rfl|(simp only [lD,lT];rfl)) ?_;(with_reducible refine (spec_l1Some.calls k _ _ l0_0 a1 true _ ?side1 ?side2 A3.out).mono ?_);(case side1=>repeat (first|exact (cB HR0_0.out HB.out)|(with_reducible first|refine cL ?_ _|refine cN ?_ _|refine cW ?_)));(case side2=>exact HC0_0.out);rintro e w' ⟨rfl,⟨nd,rfl⟩⟩;refine ⟨_,rfl,?_⟩)|(go_at_call 39;(with_reducible refine (spec_l1Some.calls k _ _ l0_1 a1 t110 _ ?side1 ?side2 A5.out).mono ?_);(case side1=>repeat (first|exact (cB HR0_1.out (by repeat (with_reducible first|exact HB.out|apply qA|apply qD|apply qO|refine qS ?_ GE108.out)))|(with_reducible first|refine cL ?_ _|refine cN ?_ _|refine cW ?_)));(case side2=>exact HC0_1.out);rintro e w' ⟨rfl,⟨nd,rfl⟩⟩))
  go_ret
  exact ⟨by first|rfl|(simp [errW_none,errW_some] <;> rfl)|(simp [*,errW_none,errW_some] <;> rfl),by repeat (first|(with_reducible first|exact HB.out|apply qA|apply qD|apply qO|refine qS ?_ GE108.out)|exact HB.out)⟩
 ·replace c4:=Bool.eq_false_iff.mpr c4;subst c4;have H1:(some false)=some r:=by rw [if_neg (show ¬ (false=true) by decide)] at H;exact H
  clear H;have H:=H1;clear H1;obtain rfl:=Option.some.inj H;go_enter Try.func49,Try.ntmps49
  go_wp2_with (first|((with_reducible refine gate_dst (N:=2) rfl ?_);refine box_event ?hg (N:=2) ?hd (cs:=#[.slice A0_0 l0_0.length c0_0,.slice A0_1 l0_1.length c0_1]) (t:=45) ?hr ?_;(case hd=>rfl);(case hg=>rfl);(case hr=>(go_simp;try rfl));intro gb108 hg w8 hbox hb;have n0_:=qK (qT (by repeat (with_reducible first|exact HB.out|apply qA|apply qD|apply qO)) hb);have n1_:=qK (hbox);have n2_:=qK ((by rw [hg];exact (qZ (by repeat (with_reducible first|exact HB.out|apply qA|apply qD|apply qO))):w.heap.size≤gb108));have n3_:=qK ((by rw [hg];exact (qZ (by repeat (with_reducible first|exact HB.out|apply qA|apply qD|apply qO))):w.heap.size≤gb108));clear HB;have HB:=n0_;have BK108:=n1_;have GW108:=n2_;have GE108:=n3_;clear n0_ n1_ n2_ n3_;clear hb hbox hg;have hcz9_0:w8.cell? ⟨gb108,0,none⟩=some (.slice A0_0 l0_0.length c0_0):=(qC BK108.out 0).trans rfl;have hcz9_1:w8.cell? ⟨gb108,1,none⟩=some (.slice A0_1 l0_1.length c0_1):=(qC BK108.out 1).trans rfl;have hfz9_0:=qF BK108.out 0;have hfz9_1:=qF BK108.out 1)|((with_reducible refine gate_callee (f:=39) rfl ?_);refine goesL_ (some 8) rfl rfl Try.func39 (by kernel_rfl) rfl #[.slice A0_0 l0_0.length c0_0,.int .i64 a1] rfl (by (try simp only [mT,mC,mN]);first|done|rfl|(simp only [lD,lT];rfl)) ?_;(with_reducible refine (spec_l1Some.calls k _ _ l0_0 a1 false _ ?side1 ?side2 A3.out).mono ?_);(case side1=>repeat (first|exact (cB HR0_0.out HB.out)|(with_reducible first|refine cL ?_ _|refine cN ?_ _|refine cW ?_)));(case side2=>exact HC0_0.out);rintro e w' ⟨rfl,⟨nd,rfl⟩⟩;refine ⟨_,rfl,?_⟩))
  go_ret
  exact ⟨by first|rfl|(simp [errW_none,errW_some] <;> rfl)|(simp [*,errW_none,errW_some] <;> rfl),by repeat (first|(with_reducible first|exact HB.out|apply qA|apply qD|apply qO|refine qS ?_ GE108.out)|exact HB.out)⟩

/-! ### spec_l1In: function 50 -/
def spec_l1In.f (a0:Int) (a1:Int) (a2:Int):Option (Bool):=if a0 ≥ a1 then (some (decide (a0≤a2))) else (some false)
set_option maxHeartbeats 8000000 in
set_option maxRecDepth 100000 in
theorem spec_l1In.calls (a0:Int) (a1:Int) (a2:Int) (r:Bool) (w:World) (h:spec_l1In.f a0 a1 a2=some r) :
  Calls Try.prog 50 #[.int .i64 a0,.int .i64 a1,.int .i64 a2] w fun e w'=>e=.returned (.bool r)∧Drawn0 w w':=by
 have H:(if a0 ≥ a1 then (some (decide (a0≤a2))) else (some false))=some r:=h;clear h;by_cases c4:a0 ≥ a1
 ·rw [if_pos c4] at H;have c4b0:decide (a1≤a0)=true:=decide_eq_true c4;clear c4;obtain rfl:=Option.some.inj H;go_enter Try.func50,Try.ntmps50
  go_wp2
  go_ret
  exact ⟨by first|rfl|(simp;done)|(simp [*];done),by repeat (first|exact Drawn0.refl _|apply Drawn0.step)⟩
 ·rw [if_neg c4] at H;have c4b0:decide (a1≤a0)=false:=decide_eq_false c4;clear c4;obtain rfl:=Option.some.inj H;go_enter Try.func50,Try.ntmps50
  go_wp2
  go_ret
  exact ⟨by first|rfl|(simp;done)|(simp [*];done),by repeat (first|exact Drawn0.refl _|apply Drawn0.step)⟩

/-! ### spec_GoodDepends: function 28 -/
def spec_GoodDepends.l0 : Nat→List (S45)→Int→List (S45)→Int→Int→Option (Bool)
 | 0,_,_,_,_,_=>none
 | k + 1,x0,x1,x7,x8,x9=>if x9 < x8 then (if 0≤x9 then (if x9 < (x7.length:Int) then ((spec_l7Depend.f k ((rd_T45 x7 x9).f0) ((rd_T45 x7 x9).f1) x1).bind fun t113=>(if t113=true then (spec_GoodDepends.l0 k x0 x1 x7 x8 (wrap64 (x9 + 1))) else (some false))) else (none)) else (none)) else ((spec_l1In.f x1 1 6).bind fun t114=>(if t114=true then (some (decide ((x0.length:Int)≤10))) else (some false)))
def spec_GoodDepends.f (k:Nat) (l0:List (S45)) (a1:Int):Option (Bool):=spec_GoodDepends.l0 k l0 a1 l0 (l0.length:Int) 0
theorem spec_GoodDepends.mono_l : ∀ k,(∀ y0 y1 y2 y3 y4,LeO (spec_GoodDepends.l0 k y0 y1 y2 y3 y4) (spec_GoodDepends.l0 (k + 1) y0 y1 y2 y3 y4))
 | 0=>fun _ _ _ _ _ r h=>by simp [spec_GoodDepends.l0] at h
 | k + 1=>by
  have ih0:=spec_GoodDepends.mono_l k
  ·intro y0 y1 y2 y3 y4;unfold spec_GoodDepends.l0
   repeat' first
   | (with_reducible exact ih0 _ _ _ _ _)
   | (with_reducible exact spec_l7Depend.mono _ _ _ _)
   | (with_reducible exact LeO.refl _)
   | (with_reducible exact LeO.none _)
   | (with_reducible refine LeO.ite ?_ ?_)
   | (with_reducible refine LeO.bind ?_ (fun _=>?_))
   | exact ih0 _ _ _ _ _
   | exact spec_l7Depend.mono _ _ _ _
   | exact LeO.none _
   | refine LeO.ite ?_ ?_
   | refine LeO.bind ?_ (fun _=>?_)
theorem spec_GoodDepends.mono : ∀ a0 a1 k,LeO (spec_GoodDepends.f k a0 a1) (spec_GoodDepends.f (k + 1) a0 a1):=by
 intro a0 a1 k;have ih0:=spec_GoodDepends.mono_l k;unfold spec_GoodDepends.f
 repeat' first
   | (with_reducible exact ih0 _ _ _ _ _)
   | (with_reducible exact spec_l7Depend.mono _ _ _ _)
   | (with_reducible exact LeO.refl _)
   | (with_reducible exact LeO.none _)
   | (with_reducible refine LeO.ite ?_ ?_)
   | (with_reducible refine LeO.bind ?_ (fun _=>?_))
   | exact ih0 _ _ _ _ _
   | exact spec_l7Depend.mono _ _ _ _
   | exact LeO.none _
   | refine LeO.ite ?_ ?_
   | refine LeO.bind ?_ (fun _=>?_)
set_option maxHeartbeats 8000000 in
set_option maxRecDepth 100000 in
theorem spec_GoodDepends.calls (k:Nat) (A0:Option Addr) (c0:Nat) (l0:List (S45)) (a1:Int) (r:Bool) (w:World) (hr0:Kd.C k45 w A0 l0.length l0) (hc0:l0.length≤c0) (h:spec_GoodDepends.f k l0 a1=some r) :
  Calls Try.prog 28 #[.slice A0 l0.length c0,.int .i64 a1] w fun e w'=>e=.returned (.bool r)∧Below w.heap.size w w':=by
 have hu45:=Try.underlying45;have HR0:=qK hr0;have HC0:=qK hc0;clear hr0 hc0;have HB:=qK (Below.refl w.heap.size w);have H:(spec_GoodDepends.l0 k l0 a1 l0 (l0.length:Int) 0)=some r:=h;clear h;have H':=qK H;clear H;go_enter Try.func28,Try.ntmps28
 go_wp2
 go_loopg [9] k (fun kq v9 w'=>∃ (x9_1:Int),v9=.int .i64 x9_1∧Aside0 (spec_GoodDepends.l0 kq l0 a1 l0 (l0.length:Int) x9_1=some r)∧Aside0 (kq≤k)∧Aside0 (Below w.heap.size w w'))
 case atStart=>exact ⟨(0),(by first|rfl|(simp;done)|(simp [*];done)),H',⟨Nat.le_refl _⟩,⟨by repeat (first|(with_reducible first|exact HB.out|apply qA|apply qD|apply qO)|exact HB.out)⟩⟩
 case round =>
  clear H';try clear c2
  try clear p2
  obtain ⟨x9_1,rfl,HA,HK1,HB⟩:=hrel;cases gk with
  | zero=>exact absurd HA.out (by simp [spec_GoodDepends.l0])
  | succ k1 =>
   have H:=HA.out;clear HA;simp only [spec_GoodDepends.l0] at H;by_cases c3:x9_1 < (l0.length:Int)
   ·rw [if_pos c3] at H;have c3b0:decide (x9_1 < (l0.length:Int))=true:=decide_eq_true c3;clear c3;by_cases c4:0≤x9_1
    ·rw [if_pos c4] at H;have c4b0:decide (0≤x9_1)=true:=decide_eq_true c4;clear c4;by_cases c5:x9_1 < (l0.length:Int)
     ·rw [if_pos c5] at H;have c5b0:decide (x9_1 < (l0.length:Int))=true:=decide_eq_true c5;clear c5;replace H:=Option.bind_eq_some_iff.mp H;obtain ⟨t113,A60,H⟩:=H;replace H:(if t113=true then (spec_GoodDepends.l0 k1 l0 a1 l0 (l0.length:Int) (wrap64 (x9_1 + 1))) else (some false))=some r:=H;have A6:=qK A60;clear A60;by_cases c7:t113=true
      ·subst c7;have H1:(spec_GoodDepends.l0 k1 l0 a1 l0 (l0.length:Int) (wrap64 (x9_1 + 1)))=some r:=by rw [if_pos rfl] at H;exact H
       clear H;have H:=H1;clear H1;have H':=qK H;clear H;have p111:0≤(x9_1:Int):=of_decide_eq_true (by first|(with_reducible assumption)|assumption);have q111:x9_1 < (l0.length:Int):=of_decide_eq_true (by first|(with_reducible assumption)|assumption);obtain ⟨ad111,A111_0,c111_0,A111_1,c111_1,e111,hx111_0,hx111_1,hl111_0,hi111_0,hl111_1,hi111_1⟩:=at_T45 HR0.out x9_1 p111 q111;cases e111
       replace hx111_0:=(HB.out.cell (World.block_lt_of_cell? w _ hx111_0)).trans hx111_0;replace hx111_1:=(HB.out.cell (World.block_lt_of_cell? w _ hx111_1)).trans hx111_1;have HR111_0:=qK hi111_0;have HC111_0:=qK hl111_0;clear hi111_0 hl111_0;have HR111_1:=qK hi111_1;have HC111_1:=qK hl111_1;clear hi111_1 hl111_1;replace p111:=eq_true p111;replace q111:=eq_true q111;go_wp2_with (first|((with_reducible refine gate_dst (N:=6) rfl ?_);(try (refine gate_guard (by rfl) ?_;dsimp only));refine box_event ?hg (N:=6) ?hd (cs:=#[.slice none 0 0,.slice none 0 0]) (t:=45) ?hr ?_;(case hd=>rfl);(case hg=>rfl);(case hr=>(go_simp;try rfl));intro gb112 hg w8 hbox hb;have n0_:=qK (qT (by repeat (with_reducible first|exact HB.out|apply qA|apply qD|apply qO)) hb);have n1_:=qK (hbox);have n2_:=qK ((by rw [hg];exact (qZ (by repeat (with_reducible first|exact HB.out|apply qA|apply qD|apply qO))):w.heap.size≤gb112));have n3_:=qK ((by rw [hg];exact (qZ (by repeat (with_reducible first|exact HB.out|apply qA|apply qD|apply qO))):w.heap.size≤gb112));clear HB;have HB:=n0_;have BK112:=n1_;have GW112:=n2_;have GE112:=n3_;clear n0_ n1_ n2_ n3_;clear hb hbox hg;have hcz9_0:w8.cell? ⟨gb112,0,none⟩=some (.slice none 0 0):=(qC BK112.out 0).trans rfl;have hcz9_1:w8.cell? ⟨gb112,1,none⟩=some (.slice none 0 0):=(qC BK112.out 1).trans rfl;have hfz9_0:=qF BK112.out 0;have hfz9_1:=qF BK112.out 1)|((with_reducible refine gate_callee (f:=49) rfl ?_);refine goesL_ (some 15) rfl rfl Try.func49 (by kernel_rfl) rfl #[.agg #[.slice A111_0 ((rd_T45 l0 x9_1).f0).length c111_0,.slice A111_1 ((rd_T45 l0 x9_1).f1).length c111_1],.int .i64 a1] rfl (by (try simp only [mT,mC,mN]);first|done|rfl|(simp only [lD,lT];rfl)) ?_;(with_reducible refine (spec_l7Depend.calls k1 _ _ ((rd_T45 l0 x9_1).f0) _ _ ((rd_T45 l0 x9_1).f1) a1 true _ ?side1 ?side2 ?side3 ?side4 A6.out).mono ?_);(case side1=>exact cB HR111_0.out (by repeat (with_reducible first|exact HB.out|apply qA|apply qD|apply qO|refine qS ?_ GE112.out)));(case side2=>exact HC111_0.out);(case side3=>exact cB HR111_1.out (by repeat (with_reducible first|exact HB.out|apply qA|apply qD|apply qO|refine qS ?_ GE112.out)));(case side4=>exact HC111_1.out);rintro e w10 ⟨rfl,hb⟩;refine ⟨_,rfl,?_⟩;have n0_:=qK (qB (g:=gb112) (o:=.cells #[.slice A111_0 ((rd_T45 l0 x9_1).f0).length c111_0,.slice A111_1 ((rd_T45 l0 x9_1).f1).length c111_1] 45 (0,0)) (by (with_reducible repeat (first|refine qN ?_ _|refine qW ?_|refine qL ?_ _));refine qP (cs:=#[.slice A111_0 ((rd_T45 l0 x9_1).f0).length c111_0,.slice none 0 0]) ?_ 1 _ rfl;(with_reducible repeat (first|refine qN ?_ _|refine qW ?_|refine qL ?_ _));refine qP (cs:=#[.slice none 0 0,.slice none 0 0]) ?_ 0 _ rfl;(with_reducible repeat (first|refine qN ?_ _|refine qW ?_|refine qL ?_ _));exact BK112.out) hb);have n1_:=qK (qT (by repeat (with_reducible first|exact HB.out|apply qA|apply qD|apply qO|refine qS ?_ GE112.out)) hb);clear BK112;clear HB;have BK112:=n0_;have HB:=n1_;clear n0_ n1_;(try clear hb)))
       go_roundg k1
       case measure=>have:=HK1.out;omega
       case rel=>exact ⟨(wrap64 (x9_1 + 1)),(by first|rfl|(simp;done)|(simp [*];done)),H',⟨by have:=HK1.out;omega⟩,⟨by repeat (first|(with_reducible first|exact HB.out|apply qA|apply qD|apply qO|refine qS ?_ GE112.out)|exact HB.out)⟩⟩
      ·replace c7:=Bool.eq_false_iff.mpr c7;subst c7;have H1:(some false)=some r:=by rw [if_neg (show ¬ (false=true) by decide)] at H;exact H
       clear H;have H:=H1;clear H1;obtain rfl:=Option.some.inj H;have p111:0≤(x9_1:Int):=of_decide_eq_true (by first|(with_reducible assumption)|assumption);have q111:x9_1 < (l0.length:Int):=of_decide_eq_true (by first|(with_reducible assumption)|assumption);obtain ⟨ad111,A111_0,c111_0,A111_1,c111_1,e111,hx111_0,hx111_1,hl111_0,hi111_0,hl111_1,hi111_1⟩:=at_T45 HR0.out x9_1 p111 q111;cases e111
       replace hx111_0:=(HB.out.cell (World.block_lt_of_cell? w _ hx111_0)).trans hx111_0;replace hx111_1:=(HB.out.cell (World.block_lt_of_cell? w _ hx111_1)).trans hx111_1;have HR111_0:=qK hi111_0;have HC111_0:=qK hl111_0;clear hi111_0 hl111_0;have HR111_1:=qK hi111_1;have HC111_1:=qK hl111_1;clear hi111_1 hl111_1;replace p111:=eq_true p111;replace q111:=eq_true q111;go_wp2_with (first|((with_reducible refine gate_dst (N:=6) rfl ?_);(try (refine gate_guard (by rfl) ?_;dsimp only));refine box_event ?hg (N:=6) ?hd (cs:=#[.slice none 0 0,.slice none 0 0]) (t:=45) ?hr ?_;(case hd=>rfl);(case hg=>rfl);(case hr=>(go_simp;try rfl));intro gb112 hg w11 hbox hb;have n0_:=qK (qT (by repeat (with_reducible first|exact HB.out|apply qA|apply qD|apply qO)) hb);have n1_:=qK (hbox);have n2_:=qK ((by rw [hg];exact (qZ (by repeat (with_reducible first|exact HB.out|apply qA|apply qD|apply qO))):w.heap.size≤gb112));have n3_:=qK ((by rw [hg];exact (qZ (by repeat (with_reducible first|exact HB.out|apply qA|apply qD|apply qO))):w.heap.size≤gb112));clear HB;have HB:=n0_;have BK112:=n1_;have GW112:=n2_;have GE112:=n3_;clear n0_ n1_ n2_ n3_;clear hb hbox hg;have hcz12_0:w11.cell? ⟨gb112,0,none⟩=some (.slice none 0 0):=(qC BK112.out 0).trans rfl;have hcz12_1:w11.cell? ⟨gb112,1,none⟩=some (.slice none 0 0):=(qC BK112.out 1).trans rfl;have hfz12_0:=qF BK112.out 0;have hfz12_1:=qF BK112.out 1)|((with_reducible refine gate_callee (f:=49) rfl ?_);refine goesL_ (some 15) rfl rfl Try.func49 (by kernel_rfl) rfl #[.agg #[.slice A111_0 ((rd_T45 l0 x9_1).f0).length c111_0,.slice A111_1 ((rd_T45 l0 x9_1).f1).length c111_1],.int .i64 a1] rfl (by (try simp only [mT,mC,mN]);first|done|rfl|(simp only [lD,lT];rfl)) ?_;(with_reducible refine (spec_l7Depend.calls k1 _ _ ((rd_T45 l0 x9_1).f0) _ _ ((rd_T45 l0 x9_1).f1) a1 false _ ?side1 ?side2 ?side3 ?side4 A6.out).mono ?_);(case side1=>exact cB HR111_0.out (by repeat (with_reducible first|exact HB.out|apply qA|apply qD|apply qO|refine qS ?_ GE112.out)));(case side2=>exact HC111_0.out);(case side3=>exact cB HR111_1.out (by repeat (with_reducible first|exact HB.out|apply qA|apply qD|apply qO|refine qS ?_ GE112.out)));(case side4=>exact HC111_1.out);rintro e w13 ⟨rfl,hb⟩;refine ⟨_,rfl,?_⟩;have n0_:=qK (qB (g:=gb112) (o:=.cells #[.slice A111_0 ((rd_T45 l0 x9_1).f0).length c111_0,.slice A111_1 ((rd_T45 l0 x9_1).f1).length c111_1] 45 (0,0)) (by (with_reducible repeat (first|refine qN ?_ _|refine qW ?_|refine qL ?_ _));refine qP (cs:=#[.slice A111_0 ((rd_T45 l0 x9_1).f0).length c111_0,.slice none 0 0]) ?_ 1 _ rfl;(with_reducible repeat (first|refine qN ?_ _|refine qW ?_|refine qL ?_ _));refine qP (cs:=#[.slice none 0 0,.slice none 0 0]) ?_ 0 _ rfl;(with_reducible repeat (first|refine qN ?_ _|refine qW ?_|refine qL ?_ _));exact BK112.out) hb);have n1_:=qK (qT (by repeat (with_reducible first|exact HB.out|apply qA|apply qD|apply qO|refine qS ?_ GE112.out)) hb);clear BK112;clear HB;have BK112:=n0_;have HB:=n1_;clear n0_ n1_;(try clear hb)))
       go_ret
       exact ⟨by first|rfl|(simp [errW_none,errW_some] <;> rfl)|(simp [*,errW_none,errW_some] <;> rfl),by repeat (first|(with_reducible first|exact HB.out|apply qA|apply qD|apply qO|refine qS ?_ GE112.out)|exact HB.out)⟩
     ·rw [if_neg c5] at H;exact absurd H (by simp)
    ·rw [if_neg c4] at H;exact absurd H (by simp)
   ·rw [if_neg c3] at H;have c3b0:decide (x9_1 < (l0.length:Int))=false:=decide_eq_false c3;clear c3;replace H:=Option.bind_eq_some_iff.mp H;obtain ⟨t114,A140,H⟩:=H;replace H:(if t114=true then (some (decide ((l0.length:Int)≤10))) else (some false))=some r:=H;have A14:=qK A140;clear A140;by_cases c15:t114=true
    ·subst c15;have H1:(some (decide ((l0.length:Int)≤10)))=some r:=by rw [if_pos rfl] at H;exact H
     clear H;have H:=H1;clear H1;obtain rfl:=Option.some.inj H;go_wp2_with (first|((with_reducible refine gate_callee (f:=50) rfl ?_);refine goesL_ (some 19) rfl rfl Try.func50 (by kernel_rfl) rfl #[.int .i64 a1,.int .i64 1,.int .i64 6] rfl (by (try simp only [mT,mC,mN]);first|done|rfl|(simp only [lD,lT];rfl)) ?_;(with_reducible refine (spec_l1In.calls a1 1 6 true _ A14.out).mono ?_);rintro e w' ⟨rfl,⟨nd,rfl⟩⟩;refine ⟨_,rfl,?_⟩))
     go_ret
     exact ⟨by first|rfl|(simp [errW_none,errW_some] <;> rfl)|(simp [*,errW_none,errW_some] <;> rfl),by repeat (first|(with_reducible first|exact HB.out|apply qA|apply qD|apply qO)|exact HB.out)⟩
    ·replace c15:=Bool.eq_false_iff.mpr c15;subst c15;have H1:(some false)=some r:=by rw [if_neg (show ¬ (false=true) by decide)] at H;exact H
     clear H;have H:=H1;clear H1;obtain rfl:=Option.some.inj H;go_wp2_with (first|((with_reducible refine gate_callee (f:=50) rfl ?_);refine goesL_ (some 19) rfl rfl Try.func50 (by kernel_rfl) rfl #[.int .i64 a1,.int .i64 1,.int .i64 6] rfl (by (try simp only [mT,mC,mN]);first|done|rfl|(simp only [lD,lT];rfl)) ?_;(with_reducible refine (spec_l1In.calls a1 1 6 false _ A14.out).mono ?_);rintro e w' ⟨rfl,⟨nd,rfl⟩⟩;refine ⟨_,rfl,?_⟩))
     go_ret
     exact ⟨by first|rfl|(simp [errW_none,errW_some] <;> rfl)|(simp [*,errW_none,errW_some] <;> rfl),by repeat (first|(with_reducible first|exact HB.out|apply qA|apply qD|apply qO)|exact HB.out)⟩

/-! ### spec_l8Part: function 19 -/
def spec_l8Part.f (k:Nat) (l0:List (S45)) (a1:Int) (l2:List Int):Option (Bool):=(spec_GoodDepends.f k l0 a1).bind fun t115=>(if t115=true then ((spec_l1Some.f k l2 a1).bind fun t116=>(some t116)) else (some false))
theorem spec_l8Part.mono : ∀ a0 a1 a2 k,LeO (spec_l8Part.f k a0 a1 a2) (spec_l8Part.f (k + 1) a0 a1 a2):=by
 intro a0 a1 a2 k;unfold spec_l8Part.f
 repeat' first
   | (with_reducible exact spec_GoodDepends.mono _ _ _)
   | (with_reducible exact spec_l1Some.mono _ _ _)
   | (with_reducible exact LeO.refl _)
   | (with_reducible exact LeO.none _)
   | (with_reducible refine LeO.ite ?_ ?_)
   | (with_reducible refine LeO.bind ?_ (fun _=>?_))
   | exact spec_GoodDepends.mono _ _ _
   | exact spec_l1Some.mono _ _ _
   | exact LeO.none _
   | refine LeO.ite ?_ ?_
   | refine LeO.bind ?_ (fun _=>?_)
set_option maxHeartbeats 8000000 in
set_option maxRecDepth 100000 in
theorem spec_l8Part.calls (k:Nat) (A0:Option Addr) (c0:Nat) (l0:List (S45)) (a1:Int) (A2:Option Addr) (c2:Nat) (l2:List Int) (r:Bool) (w:World) (hr0:Kd.C k45 w A0 l0.length l0) (hc0:l0.length≤c0) (hr2:Kd.C (Kd.int .i64) w A2 l2.length l2) (hc2:l2.length≤c2) (h:spec_l8Part.f k l0 a1 l2=some r) :
  Calls Try.prog 19 #[.slice A0 l0.length c0,.int .i64 a1,.slice A2 l2.length c2] w fun e w'=>e=.returned (.bool r)∧Below w.heap.size w w':=by
 have HR0:=qK hr0;have HC0:=qK hc0;clear hr0 hc0;have HR2:=qK hr2;have HC2:=qK hc2;clear hr2 hc2;have HB:=qK (Below.refl w.heap.size w);have H:((spec_GoodDepends.f k l0 a1).bind fun t115=>(if t115=true then ((spec_l1Some.f k l2 a1).bind fun t116=>(some t116)) else (some false)))=some r:=h;clear h;replace H:=Option.bind_eq_some_iff.mp H;obtain ⟨t115,A40,H⟩:=H;replace H:(if t115=true then ((spec_l1Some.f k l2 a1).bind fun t116=>(some t116)) else (some false))=some r:=H;have A4:=qK A40;clear A40;by_cases c5:t115=true
 ·subst c5;have H1:((spec_l1Some.f k l2 a1).bind fun t116=>(some t116))=some r:=by rw [if_pos rfl] at H;exact H
  clear H;have H:=H1;clear H1;replace H:=Option.bind_eq_some_iff.mp H;obtain ⟨t116,A60,H⟩:=H;replace H:(some t116)=some r:=H;have A6:=qK A60;clear A60;obtain rfl:=Option.some.inj H;go_enter Try.func19,Try.ntmps19
  go_wp2_with (first|((with_reducible refine gate_callee (f:=28) rfl ?_);refine goesL_ (some 9) rfl rfl Try.func28 (by kernel_rfl) rfl #[.slice A0 l0.length c0,.int .i64 a1] rfl (by (try simp only [mT,mC,mN]);first|done|rfl|(simp only [lD,lT];rfl)) ?_;(with_reducible refine (spec_GoodDepends.calls k _ _ l0 a1 true _ ?side1 ?side2 A4.out).mono ?_);(case side1=>repeat (first|exact HR0.out|(with_reducible first|refine cL ?_ _|refine cN ?_ _|refine cW ?_)));(case side2=>exact HC0.out);rintro e w7 ⟨rfl,hb⟩;refine ⟨_,rfl,?_⟩;have n0_:=qK (qT (by repeat (with_reducible first|exact HB.out|apply qA|apply qD|apply qO)) hb);clear HB;have HB:=n0_;clear n0_;(try clear hb))|(go_at_call 39;(with_reducible refine (spec_l1Some.calls k _ _ l2 a1 t116 _ ?side1 ?side2 A6.out).mono ?_);(case side1=>repeat (first|exact (cB HR2.out HB.out)|(with_reducible first|refine cL ?_ _|refine cN ?_ _|refine cW ?_)));(case side2=>exact HC2.out);rintro e w' ⟨rfl,⟨nd,rfl⟩⟩))
  go_ret
  exact ⟨by first|rfl|(simp [errW_none,errW_some] <;> rfl)|(simp [*,errW_none,errW_some] <;> rfl),by repeat (first|(with_reducible first|exact HB.out|apply qA|apply qD|apply qO)|exact HB.out)⟩
 ·replace c5:=Bool.eq_false_iff.mpr c5;subst c5;have H1:(some false)=some r:=by rw [if_neg (show ¬ (false=true) by decide)] at H;exact H
  clear H;have H:=H1;clear H1;obtain rfl:=Option.some.inj H;go_enter Try.func19,Try.ntmps19
  go_wp2_with (first|((with_reducible refine gate_callee (f:=28) rfl ?_);refine goesL_ (some 9) rfl rfl Try.func28 (by kernel_rfl) rfl #[.slice A0 l0.length c0,.int .i64 a1] rfl (by (try simp only [mT,mC,mN]);first|done|rfl|(simp only [lD,lT];rfl)) ?_;(with_reducible refine (spec_GoodDepends.calls k _ _ l0 a1 false _ ?side1 ?side2 A4.out).mono ?_);(case side1=>repeat (first|exact HR0.out|(with_reducible first|refine cL ?_ _|refine cN ?_ _|refine cW ?_)));(case side2=>exact HC0.out);rintro e w8 ⟨rfl,hb⟩;refine ⟨_,rfl,?_⟩;have n0_:=qK (qT (by repeat (with_reducible first|exact HB.out|apply qA|apply qD|apply qO)) hb);clear HB;have HB:=n0_;clear n0_;(try clear hb)))
  go_ret
  exact ⟨by first|rfl|(simp [errW_none,errW_some] <;> rfl)|(simp [*,errW_none,errW_some] <;> rfl),by repeat (first|(with_reducible first|exact HB.out|apply qA|apply qD|apply qO)|exact HB.out)⟩

/-! ### spec_l7Subsets: function 51 -/
mutual
def spec_l7Subsets.l0 : Nat→Int→Int→List (List Int)→Int→Option ((List (List Int)))
 | 0,_,_,_,_=>none
 | k + 1,x0,x1,x7,x8=>if x8 < x0 then ((spec_l7Subsets.f k x0 (wrap64 (x1 - 1)) (wrap64 (x8 + 1))).bind fun t120=>(spec_l7Subsets.l1 k x0 x1 x7 x8 t120 (t120.length:Int) 0)) else (some x7)
def spec_l7Subsets.l1 : Nat→Int→Int→List (List Int)→Int→List (List Int)→Int→Int→Option ((List (List Int)))
 | 0,_,_,_,_,_,_,_=>none
 | k + 1,x0,x1,x7,x8,x25,x26,x27=>if x27 < x26 then (if 0≤x27 then (if x27 < (x25.length:Int) then ((some (([x8]:List Int):List Int)).bind fun y124=>(if y124.length + (rd_L1 x25 x27).length < 17592186044416 then (if x7.length < 5864062014805 then (spec_l7Subsets.l1 k x0 x1 (x7 ++ [(y124 ++ (rd_L1 x25 x27))]) x8 x25 x26 (wrap64 (x27 + 1))) else (none)) else (none))) else (none)) else (none)) else (spec_l7Subsets.l0 k x0 x1 x7 (wrap64 (x8 + 1)))
def spec_l7Subsets.f : Nat→Int→Int→Int→Option ((List (List Int)))
 | 0,_,_,_=>none
 | k + 1,a0,a1,a2=>if a1=0 then (some (([[]]:List (List Int)))) else (spec_l7Subsets.l0 k a0 a1 ([]:List (List Int)) a2)
end
theorem spec_l7Subsets.mono_l : ∀ k,(∀ y0 y1 y2,LeO (spec_l7Subsets.f k y0 y1 y2) (spec_l7Subsets.f (k + 1) y0 y1 y2))∧(∀ y0 y1 y2 y3,LeO (spec_l7Subsets.l0 k y0 y1 y2 y3) (spec_l7Subsets.l0 (k + 1) y0 y1 y2 y3))∧(∀ y0 y1 y2 y3 y4 y5 y6,LeO (spec_l7Subsets.l1 k y0 y1 y2 y3 y4 y5 y6) (spec_l7Subsets.l1 (k + 1) y0 y1 y2 y3 y4 y5 y6))
 | 0=>⟨fun _ _ _ r h=>by simp [spec_l7Subsets.f] at h,fun _ _ _ _ r h=>by simp [spec_l7Subsets.l0] at h,fun _ _ _ _ _ _ _ r h=>by simp [spec_l7Subsets.l1] at h⟩
 | k + 1=>by
  obtain ⟨ih0,ih1,ih2⟩:=spec_l7Subsets.mono_l k;refine ⟨?_,?_,?_⟩
  ·intro y0 y1 y2;unfold spec_l7Subsets.f
   repeat' first
   | (with_reducible exact ih0 _ _ _)
   | (with_reducible exact ih1 _ _ _ _)
   | (with_reducible exact ih2 _ _ _ _ _ _ _)
   | (with_reducible exact LeO.refl _)
   | (with_reducible exact LeO.none _)
   | (with_reducible refine LeO.ite ?_ ?_)
   | (with_reducible refine LeO.bind ?_ (fun _=>?_))
   | exact ih0 _ _ _
   | exact ih1 _ _ _ _
   | exact ih2 _ _ _ _ _ _ _
   | exact LeO.none _
   | refine LeO.ite ?_ ?_
   | refine LeO.bind ?_ (fun _=>?_)
  ·intro y0 y1 y2 y3;unfold spec_l7Subsets.l0
   repeat' first
   | (with_reducible exact ih0 _ _ _)
   | (with_reducible exact ih1 _ _ _ _)
   | (with_reducible exact ih2 _ _ _ _ _ _ _)
   | (with_reducible exact LeO.refl _)
   | (with_reducible exact LeO.none _)
   | (with_reducible refine LeO.ite ?_ ?_)
   | (with_reducible refine LeO.bind ?_ (fun _=>?_))
   | exact ih0 _ _ _
   | exact ih1 _ _ _ _
   | exact ih2 _ _ _ _ _ _ _
   | exact LeO.none _
   | refine LeO.ite ?_ ?_
   | refine LeO.bind ?_ (fun _=>?_)
  ·intro y0 y1 y2 y3 y4 y5 y6;unfold spec_l7Subsets.l1
   repeat' first
   | (with_reducible exact ih0 _ _ _)
   | (with_reducible exact ih1 _ _ _ _)
   | (with_reducible exact ih2 _ _ _ _ _ _ _)
   | (with_reducible exact LeO.refl _)
   | (with_reducible exact LeO.none _)
   | (with_reducible refine LeO.ite ?_ ?_)
   | (with_reducible refine LeO.bind ?_ (fun _=>?_))
   | exact ih0 _ _ _
   | exact ih1 _ _ _ _
   | exact ih2 _ _ _ _ _ _ _
   | exact LeO.none _
   | refine LeO.ite ?_ ?_
   | refine LeO.bind ?_ (fun _=>?_)
theorem spec_l7Subsets.mono : ∀ a0 a1 a2 k,LeO (spec_l7Subsets.f k a0 a1 a2) (spec_l7Subsets.f (k + 1) a0 a1 a2):=by
 intro a0 a1 a2 k;obtain ⟨ih0,ih1,ih2⟩:=spec_l7Subsets.mono_l k;exact ih0 a0 a1 a2
set_option maxHeartbeats 8000000 in
set_option maxRecDepth 100000 in
theorem spec_l7Subsets.calls (k:Nat):∀ (a0:Int) (a1:Int) (a2:Int) (r:List (List Int)) (w:World) (h:spec_l7Subsets.f k a0 a1 a2=some r),
  Calls Try.prog 51 #[.int .i64 a0,.int .i64 a1,.int .i64 a2] w fun e w'=>∃ v0_:Value,e=.returned (v0_)∧Kd.S (Kd.slice 3 (Kd.int .i64)) 23 w' w.heap.size (fun _=>True) v0_ r∧Below w.heap.size w w':=by
 induction k using Nat.strongRecOn with
 | _ k ih =>
 intro a0 a1 a2 r w h;cases k with
 | zero=>exact absurd h (by simp [spec_l7Subsets.f])
 | succ k =>
 simp only [spec_l7Subsets.f] at h;have HB:=qK (Below.refl w.heap.size w);have H:(if a1=0 then (some (([[]]:List (List Int)))) else (spec_l7Subsets.l0 k a0 a1 ([]:List (List Int)) a2))=some r:=h;clear h;by_cases c4:a1=0
 ·rw [if_pos c4] at H;have c4b0:(a1 == 0)=true:=beq_iff_eq.mpr c4;have c4b1:(a1 != 0)=false:=bne_eq_false_iff_eq.mpr c4;clear c4;obtain ⟨y117,hy117⟩:∃ y_:List (List Int),y_=(([[]]:List (List Int))):=⟨_,rfl⟩;replace H:(some y117)=some r:=by first|(rw [hy117];with_reducible exact H)|(have H2_:=(Option.bind_some _ _).symm.trans H;rw [hy117];with_reducible exact H2_)|(have H2_:=(Option.bind_some _ _).symm.trans H;with_reducible exact H2_)|with_reducible exact H|(rw [hy117];exact H)|exact H
  have Ny117:=qK hy117;clear hy117;obtain rfl:=Option.some.inj H;go_enter Try.func51,Try.ntmps51
  go_wp2_with (first|((with_reducible refine gate_dst (N:=13) rfl ?_);refine Kd.S_lit (Kd.slice 3 (Kd.int .i64)) _ 23 ?hg (N:=13) ?hd (xs:=([[]]:List (List Int))) (inner:=[.slice none 0 0]) (ok:=fun _=>True) (okp:=fun _=>True) ?hr ?hp (fun _ hk=>hk) trivial (Below.refl _ _) (Nat.le_refl _) (by simp) ?_;(case hd=>rfl);(case hg=>rfl);(case hr=>(go_simp;try rfl));(case hp=>exact (Reps.one (show Kd.M (Kd.slice 3 (Kd.int .i64)) _ _ _ [] [.slice none 0 0] from ⟨_,rfl,Kd.R_nil _ _ _ _ _⟩) (Reps.none _ _)));intro v118 w5 ho6 hb hg_ hnew_;clear hg_ hnew_;(first|rw [← Ny117.out] at ho6|(simp only [Int.reduceToNat] at ho6;rw [← Ny117.out] at ho6));have n0_:=qK (Kd.S_lower ho6 (qZ (by repeat (with_reducible first|exact HB.out|apply qA|apply qD|apply qO))));have n1_:=qK (qT (by repeat (with_reducible first|exact HB.out|apply qA|apply qD|apply qO)) hb);clear HB;have HO119:=n0_;have HB:=n1_;clear n0_ n1_;clear hb ho6))
  go_ret
  exact ⟨_,by first|rfl|(simp [errW_none,errW_some] <;> rfl)|(simp [*,errW_none,errW_some] <;> rfl),by (with_reducible repeat (first|apply Kd.S_alloc|apply Kd.S_drewN|apply Kd.S_drew));exact HO119.out,by repeat (first|(with_reducible first|exact HB.out|apply qA|apply qD|apply qO)|exact HB.out)⟩
 ·rw [if_neg c4] at H;have c4b0:(a1 == 0)=false:=beq_eq_false_iff_ne.mpr c4;have c4b1:(a1 != 0)=true:=bne_iff_ne.mpr c4;have H':=qK H;clear H;go_enter Try.func51,Try.ntmps51
  go_wp2
  go_loopg [7,8] k (fun kq v7 v8 w'=>∃ (x7_1:List (List Int)) (x8_1:Int),v8=.int .i64 x8_1∧Aside0 (spec_l7Subsets.l0 kq a0 a1 x7_1 x8_1=some r)∧Aside0 (kq≤k)∧Aside0 (Kd.S (Kd.slice 3 (Kd.int .i64)) 23 w' w.heap.size (fun _=>True) v7 x7_1)∧Aside0 (Below w.heap.size w w'))
  case atStart=>exact ⟨(([]:List (List Int))),(a2),(by first|rfl|(simp;done)|(simp [*];done)),H',⟨Nat.le_refl _⟩,⟨by first|exact Kd.S_nil _ _ _ _ _|exact Kd.N_nil _ _ _ _ _|exact Kd.V_nil _ _ _ _ _|exact Kd.Q_nil _ _ _ _ _|exact Kd.R_nil _ _ _ _ _⟩,⟨by repeat (first|(with_reducible first|exact HB.out|apply qA|apply qD|apply qO)|exact HB.out)⟩⟩
  case round =>
   clear H';try clear p2
   try clear c4
   try clear c4b0
   try clear c4b1
   try clear c5
   obtain ⟨x7_1,x8_1,rfl,HA,HK1,HO_7,HB⟩:=hrel;cases gk with
   | zero=>exact absurd HA.out (by simp [spec_l7Subsets.l0])
   | succ k1 =>
    have H:=HA.out;clear HA;simp only [spec_l7Subsets.l0] at H;by_cases c7:x8_1 < a0
    ·rw [if_pos c7] at H;have c7b0:decide (x8_1 < a0)=true:=decide_eq_true c7;clear c7;replace H:=Option.bind_eq_some_iff.mp H;obtain ⟨t120,A80,H⟩:=H;replace H:(spec_l7Subsets.l1 k1 a0 a1 x7_1 x8_1 t120 (t120.length:Int) 0)=some r:=H;have A8:=qK A80;clear A80;have H':=qK H;clear H;go_wp2_with (first|((with_reducible refine gate_callee (f:=51) rfl ?_);refine goesL_ (some 25) rfl rfl Try.func51 (by kernel_rfl) rfl #[.int .i64 a0,.int .i64 (wrap64 (a1 - 1)),.int .i64 (wrap64 (x8_1 + 1))] rfl (by (try simp only [mT,mC,mN]);first|done|rfl|(simp only [lD,lT];rfl)) ?_;(with_reducible refine (ih k1 (by have:=HK1.out;omega) a0 (wrap64 (a1 - 1)) (wrap64 (x8_1 + 1)) t120 _ A8.out).mono ?_);rintro e w9 ⟨v121,rfl,ho0,hb⟩;refine ⟨_,rfl,?_⟩;have n0_:=qK (Kd.S_elder' (by (with_reducible repeat (first|apply Kd.S_alloc|apply Kd.S_drewN|apply Kd.S_drew));exact HO_7.out) (Kd.S_base ho0) hb);have n1_:=qK (Kd.S_lower (Kd.S_new' ho0 (Kd.S_lt (by (with_reducible repeat (first|apply Kd.S_alloc|apply Kd.S_drewN|apply Kd.S_drew));exact HO_7.out))) (qZ (by repeat (with_reducible first|exact HB.out|apply qA|apply qD|apply qO))));have n2_:=qK (qT (by repeat (with_reducible first|exact HB.out|apply qA|apply qD|apply qO)) hb);clear HO_7;clear HB;have HO_7:=n0_;have HO122:=n1_;have HB:=n2_;clear n0_ n1_ n2_;(try clear hb);(try clear ho0);obtain ⟨Ao10,co10,eo10⟩:=Kd.S_slice HO122.out;subst eo10))
     go_loopg [7,27] k1 (fun kq v7 v27 w'=>∃ (x7_2:List (List Int)) (x27_2:Int),v27=.int .i64 x27_2∧Aside0 (spec_l7Subsets.l1 kq a0 a1 x7_2 x8_1 t120 (t120.length:Int) x27_2=some r)∧Aside0 (kq≤k1)∧Aside0 (Kd.S (Kd.slice 3 (Kd.int .i64)) 23 w' w.heap.size (fun k_=>some k_ ≠ ((.slice Ao10 t120.length co10):Value).ownBlock) v7 x7_2)∧Aside0 (Kd.S (Kd.slice 3 (Kd.int .i64)) 23 w' w.heap.size (fun k_=>some k_ ≠ (v7:Value).ownBlock) (.slice Ao10 t120.length co10) t120)∧Aside0 (Below w.heap.size w w'))
     case atStart=>exact ⟨(x7_1),(0),(by first|rfl|(simp;done)|(simp [*];done)),H',⟨Nat.le_refl _⟩,⟨by (with_reducible repeat (first|apply Kd.S_alloc|apply Kd.S_drewN|apply Kd.S_drew));exact Kd.S_mono HO_7.out (fun _ hk=>hk.2)⟩,⟨by (with_reducible repeat (first|apply Kd.S_alloc|apply Kd.S_drewN|apply Kd.S_drew));exact Kd.S_mono HO122.out (fun _ hk=>hk.2)⟩,⟨by repeat (first|(with_reducible first|exact HB.out|apply qA|apply qD|apply qO)|exact HB.out)⟩⟩
     case round =>
      clear H';try clear p2
      try clear c4
      try clear c4b0
      try clear c4b1
      try clear c5
      try clear p6
      try clear c7
      try clear c7b0
      try clear p2
      obtain ⟨x7_2,x27_2,rfl,HA,HK2,HO_7,HO_25,HB⟩:=hrel;cases gk with
      | zero=>exact absurd HA.out (by simp [spec_l7Subsets.l1])
      | succ k2 =>
       have H:=HA.out;clear HA;simp only [spec_l7Subsets.l1] at H;by_cases c11:x27_2 < (t120.length:Int)
       ·rw [if_pos c11] at H;have c11b0:decide (x27_2 < (t120.length:Int))=true:=decide_eq_true c11;clear c11;by_cases c12:0≤x27_2
        ·rw [if_pos c12] at H;have c12b0:decide (0≤x27_2)=true:=decide_eq_true c12;clear c12;by_cases c13:x27_2 < (t120.length:Int)
         ·rw [if_pos c13] at H;have c13b0:decide (x27_2 < (t120.length:Int))=true:=decide_eq_true c13;clear c13;obtain ⟨y124,hy124⟩:∃ y_:List Int,y_=(([x8_1]:List Int)):=⟨_,rfl⟩;replace H:(if y124.length + (rd_L1 t120 x27_2).length < 17592186044416 then (if x7_2.length < 5864062014805 then (spec_l7Subsets.l1 k2 a0 a1 (x7_2 ++ [(y124 ++ (rd_L1 t120 x27_2))]) x8_1 t120 (t120.length:Int) (wrap64 (x27_2 + 1))) else (none)) else (none))=some r:=by first|(rw [hy124];with_reducible exact H)|(have H2_:=(Option.bind_some _ _).symm.trans H;rw [hy124];with_reducible exact H2_)|(have H2_:=(Option.bind_some _ _).symm.trans H;with_reducible exact H2_)|with_reducible exact H|(rw [hy124];exact H)|exact H
          have Ny124:=qK hy124;clear hy124;by_cases c14:y124.length + (rd_L1 t120 x27_2).length < 17592186044416
          ·rw [if_pos c14] at H;have LMc14:=qK c14;clear c14;obtain ⟨y127,hy127⟩:∃ y_:List Int,y_=(y124 ++ (rd_L1 t120 x27_2)):=⟨_,rfl⟩;replace H:(if x7_2.length < 5864062014805 then (spec_l7Subsets.l1 k2 a0 a1 (x7_2 ++ [y127]) x8_1 t120 (t120.length:Int) (wrap64 (x27_2 + 1))) else (none))=some r:=by first|(rw [hy127];with_reducible exact H)|(have H2_:=(Option.bind_some _ _).symm.trans H;rw [hy127];with_reducible exact H2_)|(have H2_:=(Option.bind_some _ _).symm.trans H;with_reducible exact H2_)|with_reducible exact H|(rw [hy127];exact H)|exact H
           have Ny127:=qK hy127;clear hy127;by_cases c15:x7_2.length < 5864062014805
           ·rw [if_pos c15] at H;have LMc15:=qK c15;clear c15;obtain ⟨y130,hy130⟩:∃ y_:List (List Int),y_=(x7_2 ++ [y127]):=⟨_,rfl⟩;replace H:(spec_l7Subsets.l1 k2 a0 a1 y130 x8_1 t120 (t120.length:Int) (wrap64 (x27_2 + 1)))=some r:=by first|(rw [hy130];with_reducible exact H)|(have H2_:=(Option.bind_some _ _).symm.trans H;rw [hy130];with_reducible exact H2_)|(have H2_:=(Option.bind_some _ _).symm.trans H;with_reducible exact H2_)|with_reducible exact H|(rw [hy130];exact H)|exact H
            have Ny130:=qK hy130;clear hy130;have H':=qK H;clear H;have p123:0≤(x27_2:Int):=of_decide_eq_true (by first|(with_reducible assumption)|assumption);have q123:x27_2 < (t120.length:Int):=of_decide_eq_true (by first|(with_reducible assumption)|assumption);obtain ⟨ad123,A123_0,c123_0,e123,hx123_0,hl123_0,hi123_0⟩:=at_L1 (Kd.S_reads' HO_25.out).2.2 x27_2 p123 q123;cases e123
            obtain ⟨ce123,hce123,hMe123,hcc123⟩:=Kd.S_get HO_25.out [] x27_2 p123 (by first|exact q123|exact of_decide_eq_true (by first|(with_reducible assumption)|assumption)|(have e_:=(Kd.S_reads' HO_25.out).1;omega));obtain ⟨ve123_0,rfl,ge123_0⟩:=hMe123;have hv123_0:=hcc123 0 _ rfl;rw [Nat.add_zero,show ((Kd.slice 3 (Kd.int .i64))).sz=1 from rfl,Nat.mul_one] at hv123_0;replace hv123_0:=Option.some.inj (hv123_0.symm.trans hx123_0);rw [hv123_0] at ge123_0;have HL123_0:=qK (show Kd.R (Kd.int .i64) 3 _ _ _ _ (rd_L1 t120 x27_2) from ge123_0);clear hv123_0 ge123_0;clear hcc123 hce123;have HR123_0:=qK hi123_0;have HC123_0:=qK hl123_0;clear hi123_0 hl123_0;replace p123:=eq_true p123;replace q123:=eq_true q123;go_wp2_with (first|((with_reducible refine gate_dst (N:=33) rfl ?_);refine Kd.R_lit (Kd.int .i64) _ 3 ?hg (N:=33) ?hd (xs:=([x8_1]:List Int)) (inner:=[.int .i64 x8_1]) (ok:=fun _=>True) (okp:=fun _=>True) ?hr ?hp (fun _ hk=>hk) trivial (Below.refl _ _) (Nat.le_refl _) (by simp) ?_;(case hd=>rfl);(case hg=>rfl);(case hr=>(go_simp;try rfl));(case hp=>exact (Reps.one (show Kd.M (Kd.int .i64) _ _ _ x8_1 [.int .i64 x8_1] from rfl) (Reps.none _ _)));intro v125 w16 ho17 hb hg_ hnew_;clear hg_ hnew_;(first|rw [← Ny124.out] at ho17|(simp only [Int.reduceToNat] at ho17;rw [← Ny124.out] at ho17));have n0_:=qK (Kd.S_elder' (by (with_reducible repeat (first|apply Kd.S_alloc|apply Kd.S_drewN|apply Kd.S_drew));exact HO_7.out) (Kd.R_base ho17) hb);have n1_:=qK (Kd.S_elder' (by (with_reducible repeat (first|apply Kd.S_alloc|apply Kd.S_drewN|apply Kd.S_drew));exact HO_25.out) (Kd.R_base ho17) hb);have n2_:=qK (Kd.R_elder' (by (with_reducible repeat (first|apply rL|apply rN|apply rW));exact HL123_0.out) (Kd.R_base ho17) hb);have n3_:=qK (Kd.R_lower (Kd.R_new' ho17 (Kd.R_lt (by (with_reducible repeat (first|apply rL|apply rN|apply rW));exact HL123_0.out))) (qZ (by repeat (with_reducible first|exact HB.out|apply qA|apply qD|apply qO))));have n4_:=qK (cB (by repeat (first|(with_reducible exact HR123_0.out)|(with_reducible first|refine cL ?_ _|refine cN ?_ _|refine cW ?_)|exact HR123_0.out)) hb);have n5_:=qK (qT (by repeat (with_reducible first|exact HB.out|apply qA|apply qD|apply qO)) hb);clear HO_7;clear HO_25;clear HL123_0;clear HR123_0;clear HB;have HO_7:=n0_;have HO_25:=n1_;have HL123_0:=n2_;have HO126:=n3_;have HR123_0:=n4_;have HB:=n5_;clear n0_ n1_ n2_ n3_ n4_ n5_;clear hb ho17)|((with_reducible refine gate_builtin (b:=.append) (xs:=#[.tmp 33,.tmp 34]) rfl ?_);at_builtin;refine Kd.R_append_rows (Kd.int .i64) (w0:=w) w.heap.size rfl (.tmp 33) (.tmp 34) 23 3 (.int .i64 0) 8 rfl Try.underlying23 info3 rfl (by decide) (by omega) v125 y124 (rd_L1 t120 x27_2) _ _ _ (fun k_=>some k_ ≠ (.slice A123_0 (rd_L1 t120 x27_2).length c123_0:Value).ownBlock) (fun _=>False) rfl rfl ?aO ?aR (fun _ _ h=>h) (fun _ h=>h.elim) ?aF ?aB ?aS ?aL ?_;(case aR=>repeat (first|exact (by repeat (first|(with_reducible exact HR123_0.out)|(with_reducible first|refine cL ?_ _|refine cN ?_ _|refine cW ?_)|exact HR123_0.out))|(with_reducible first|refine cL ?_ _|refine cN ?_ _|refine cW ?_)));(case aB=>exact (by repeat (with_reducible first|exact HB.out|apply qA|apply qD|apply qO)));(case aF=>exact (fun k_ hk=>Kd.fresh' (Kd.R_lt (by (with_reducible repeat (first|apply rL|apply rN|apply rW));exact HL123_0.out)) k_ hk));(case aO=>exact (by (with_reducible repeat (first|apply rL|apply rN|apply rW));exact Kd.R_mono HO126.out (fun _ hk=>hk.2)));(case aS=>exact (qZ (by repeat (with_reducible first|exact HB.out|apply qA|apply qD|apply qO))));(case aL=>have:=LMc14.out;omega);intro v128 w18 ho hb hg hat;rw [← Ny127.out] at ho;have n0_:=qK (Kd.S_after (ok:=(fun k_=>some k_ ≠ (.slice (some ad123) t120.length co10:Value).ownBlock)) (by (with_reducible repeat (first|apply Kd.S_alloc|apply Kd.S_drewN|apply Kd.S_drew));exact HO_7.out) hg hat);have n1_:=qK (Kd.S_after (ok:=(fun k_=>some k_ ≠ (u7:Value).ownBlock)) (by (with_reducible repeat (first|apply Kd.S_alloc|apply Kd.S_drewN|apply Kd.S_drew));exact HO_25.out) hg hat);have n2_:=qK (Kd.R_after (ok:=(fun k_=>some k_ ≠ (u7:Value).ownBlock∧some k_ ≠ (.slice (some ad123) t120.length co10:Value).ownBlock)) (by (with_reducible repeat (first|apply rL|apply rN|apply rW));exact HL123_0.out) hg hat);have n3_:=qK (hb);have n4_:=qK (ho);clear HO_7;clear HO_25;clear HL123_0;clear HB;clear HO126;have HO_7:=n0_;have HO_25:=n1_;have HL123_0:=n2_;have HB:=n3_;have HO129:=n4_;clear n0_ n1_ n2_ n3_ n4_;clear ho hb hg hat;obtain ⟨Ao20,co20,eo20⟩:=Kd.R_slice HO129.out;subst eo20)|((with_reducible refine gate_builtin (b:=.append) (xs:=#[.tmp 31,.tmp 36]) rfl ?_);at_builtin;refine Kd.S_append (Kd.slice 3 (Kd.int .i64)) (w0:=w) w.heap.size rfl (.tmp 31) (.tmp 36) 33 23 (.slice none 0 0) 24 rfl Try.underlying33 info23 rfl (by decide) (by omega) u7 x7_2 y127 [.slice Ao20 y127.length co20] (fun k_=>some k_ ≠ (.slice (some ad123) t120.length co10:Value).ownBlock) (fun k_=>some k_=(.slice Ao20 y127.length co20:Value).ownBlock) rfl rfl ?aP (fun k_ hk_=>((Kd.R_mono (ok':=fun k_=>((fun k_=>some k_ ≠ (.slice (some ad123) t120.length co10:Value).ownBlock)) k_∧some k_ ≠ (u7:Value).ownBlock) (Kd.R_apart' (Kd.R_apart' (HO129.out) (Kd.S_typed HO_25.out) (by decide)) (Kd.S_typed HO_7.out) (by decide)) (fun k_ hk=>⟨hk.1.2,hk.2⟩))).1 k_ hk_.symm) ?aF ?aO ?aB ?aS ?aL ?_;(case aP=>exact Kd.M_row (Kd.R_mono (Kd.R_tight rfl (Kd.R_mono (ok':=fun k_=>((fun k_=>some k_ ≠ (.slice (some ad123) t120.length co10:Value).ownBlock)) k_∧some k_ ≠ (u7:Value).ownBlock) (Kd.R_apart' (Kd.R_apart' (HO129.out) (Kd.S_typed HO_25.out) (by decide)) (Kd.S_typed HO_7.out) (by decide)) (fun k_ hk=>⟨hk.1.2,hk.2⟩))) (fun _ h_=>h_)));(case aB=>exact (by repeat (with_reducible first|exact HB.out|apply qA|apply qD|apply qO)));(case aF=>exact (fun k_ hk=>Kd.fresh' (Kd.S_lt (by (with_reducible repeat (first|apply Kd.S_alloc|apply Kd.S_drewN|apply Kd.S_drew));exact HO_25.out)) k_ hk));(case aO=>exact (by (with_reducible repeat (first|apply Kd.S_alloc|apply Kd.S_drewN|apply Kd.S_drew));exact Kd.S_mono HO_7.out (fun k_ hk=>⟨hk.1,fun e_=>hk.2 e_⟩)));(case aS=>exact (qZ (by repeat (with_reducible first|exact HB.out|apply qA|apply qD|apply qO))));(case aL=>have:=LMc15.out;omega);intro v131 w19 ho hb hg hat;rw [← Ny130.out] at ho;have n0_:=qK (Kd.S_after (ok:=(fun k_=>some k_ ≠ (.slice Ao20 y127.length co20:Value).ownBlock)) (by (with_reducible repeat (first|apply Kd.S_alloc|apply Kd.S_drewN|apply Kd.S_drew));exact Kd.S_mono HO_25.out (fun _ hk=>⟨hk.2,hk.1⟩)) hg hat);have n1_:=qK (Kd.R_after (ok:=(fun k_=>some k_ ≠ (.slice (some ad123) t120.length co10:Value).ownBlock∧some k_ ≠ (.slice Ao20 y127.length co20:Value).ownBlock)) (by (with_reducible repeat (first|apply rL|apply rN|apply rW));exact Kd.R_mono HL123_0.out (fun _ hk=>⟨⟨hk.1.2,hk.2⟩,hk.1.1⟩)) hg hat);have n2_:=qK (hb);have n3_:=qK (ho);clear HO_25;clear HL123_0;clear HB;clear HO_7;clear HO129;have HO_25:=n0_;have HL123_0:=n1_;have HB:=n2_;have HO132:=n3_;clear n0_ n1_ n2_ n3_;clear ho hb hg hat))
            go_roundg k2
            case measure=>have:=HK1.out;have:=HK2.out;omega
            case rel=>exact ⟨(y130),(wrap64 (x27_2 + 1)),(by first|rfl|(simp;done)|(simp [*];done)),H',⟨by have:=HK1.out;have:=HK2.out;omega⟩,⟨by (with_reducible repeat (first|apply Kd.S_alloc|apply Kd.S_drewN|apply Kd.S_drew));exact HO132.out⟩,⟨by (with_reducible repeat (first|apply Kd.S_alloc|apply Kd.S_drewN|apply Kd.S_drew));exact Kd.S_mono HO_25.out (fun _ hk=>hk.2)⟩,⟨by repeat (first|(with_reducible first|exact HB.out|apply qA|apply qD|apply qO)|exact HB.out)⟩⟩
           ·rw [if_neg c15] at H;exact absurd H (by simp)
          ·rw [if_neg c14] at H;exact absurd H (by simp)
         ·rw [if_neg c13] at H;exact absurd H (by simp)
        ·rw [if_neg c12] at H;exact absurd H (by simp)
       ·rw [if_neg c11] at H;have c11b0:decide (x27_2 < (t120.length:Int))=false:=decide_eq_false c11;clear c11;have H':=qK H;clear H;go_wp2
        go_roundg k2
        case measure=>have:=HK1.out;have:=HK2.out;omega
        case rel=>exact ⟨(x7_2),(wrap64 (x8_1 + 1)),(by first|rfl|(simp;done)|(simp [*];done)),H',⟨by have:=HK1.out;have:=HK2.out;omega⟩,⟨by (with_reducible repeat (first|apply Kd.S_alloc|apply Kd.S_drewN|apply Kd.S_drew));exact Kd.S_mono HO_7.out (fun _ hk=>trivial)⟩,⟨by repeat (first|(with_reducible first|exact HB.out|apply qA|apply qD|apply qO)|exact HB.out)⟩⟩
    ·rw [if_neg c7] at H;have c7b0:decide (x8_1 < a0)=false:=decide_eq_false c7;clear c7;obtain rfl:=Option.some.inj H;go_wp2
     go_ret
     exact ⟨_,by first|rfl|(simp [errW_none,errW_some] <;> rfl)|(simp [*,errW_none,errW_some] <;> rfl),by (with_reducible repeat (first|apply Kd.S_alloc|apply Kd.S_drewN|apply Kd.S_drew));exact HO_7.out,by repeat (first|(with_reducible first|exact HB.out|apply qA|apply qD|apply qO)|exact HB.out)⟩

/-! ### spec_l8Lists: function 40 -/
mutual
def spec_l8Lists.l0 : Nat → List Int → List (List Int) → Int → Option ((List (List Int)))
  | 0, _, _, _ => none
  | k + 1, x0, x3, x4 => if x4 ≤ (x0.length : Int) then ((spec_l7Subsets.f k (x0.length : Int) x4 0).bind fun t133 => (spec_l8Lists.l1 k x0 x3 x4 t133 (t133.length : Int) 0)) else (some x3)
def spec_l8Lists.l1 : Nat → List Int → List (List Int) → Int → List (List Int) → Int → Int → Option ((List (List Int)))
  | 0, _, _, _, _, _, _ => none
  | k + 1, x0, x3, x4, x19, x20, x21 => if x21 < x20 then (if 0 ≤ x21 then (if x21 < (x19.length : Int) then (spec_l8Lists.l2 k x0 x3 x4 ([] : List Int) x19 x20 x21 (rd_L1 x19 x21) ((rd_L1 x19 x21).length : Int) 0) else (none)) else (none)) else (spec_l8Lists.l0 k x0 x3 (wrap64 (x4 + 1)))
def spec_l8Lists.l2 : Nat → List Int → List (List Int) → Int → List Int → List (List Int) → Int → Int → List Int → Int → Int → Option ((List (List Int)))
  | 0, _, _, _, _, _, _, _, _, _, _ => none
  | k + 1, x0, x3, x4, x7, x19, x20, x21, x25, x26, x27 => if x27 < x26 then (if 0 ≤ x27 then (if x27 < (x25.length : Int) then (if 0 ≤ (rd x25 x27) then (if (rd x25 x27) < (x0.length : Int) then (if x7.length < 17592186044416 then (spec_l8Lists.l2 k x0 x3 x4 (x7 ++ [rd x0 (rd x25 x27)]) x19 x20 x21 x25 x26 (wrap64 (x27 + 1))) else (none)) else (none)) else (none)) else (none)) else (none)) else (if x3.length < 5864062014805 then (spec_l8Lists.l1 k x0 (x3 ++ [x7]) x4 x19 x20 (wrap64 (x21 + 1))) else (none))
end
def spec_l8Lists.f (k : Nat) (l0 : List Int) : Option ((List (List Int))) := spec_l8Lists.l0 k l0 ([] : List (List Int)) 0
theorem spec_l8Lists.mono_l : ∀ k, (∀ y0 y1 y2, LeO (spec_l8Lists.l0 k y0 y1 y2) (spec_l8Lists.l0 (k + 1) y0 y1 y2)) ∧ (∀ y0 y1 y2 y3 y4 y5, LeO (spec_l8Lists.l1 k y0 y1 y2 y3 y4 y5) (spec_l8Lists.l1 (k + 1) y0 y1 y2 y3 y4 y5)) ∧ (∀ y0 y1 y2 y3 y4 y5 y6 y7 y8 y9, LeO (spec_l8Lists.l2 k y0 y1 y2 y3 y4 y5 y6 y7 y8 y9) (spec_l8Lists.l2 (k + 1) y0 y1 y2 y3 y4 y5 y6 y7 y8 y9))
  | 0 => ⟨fun _ _ _ r h => by simp [spec_l8Lists.l0] at h, fun _ _ _ _ _ _ r h => by simp [spec_l8Lists.l1] at h, fun _ _ _ _ _ _ _ _ _ _ r h => by simp [spec_l8Lists.l2] at h⟩
  | k + 1 => by
    obtain ⟨ih0, ih1, ih2⟩ := spec_l8Lists.mono_l k
    refine ⟨?_, ?_, ?_⟩
    · intro y0 y1 y2
      unfold spec_l8Lists.l0
      repeat' first
      | (with_reducible exact ih0 _ _ _)
      | (with_reducible exact ih1 _ _ _ _ _ _)
      | (with_reducible exact ih2 _ _ _ _ _ _ _ _ _ _)
      | (with_reducible exact spec_l7Subsets.mono _ _ _ _)
      | (with_reducible exact LeO.refl _)
      | (with_reducible exact LeO.none _)
      | (with_reducible refine LeO.ite ?_ ?_)
      | (with_reducible refine LeO.bind ?_ (fun _ => ?_))
      | exact ih0 _ _ _
      | exact ih1 _ _ _ _ _ _
      | exact ih2 _ _ _ _ _ _ _ _ _ _
      | exact spec_l7Subsets.mono _ _ _ _
      | exact LeO.none _
      | refine LeO.ite ?_ ?_
      | refine LeO.bind ?_ (fun _ => ?_)
    · intro y0 y1 y2 y3 y4 y5
      unfold spec_l8Lists.l1
      repeat' first
      | (with_reducible exact ih0 _ _ _)
      | (with_reducible exact ih1 _ _ _ _ _ _)
      | (with_reducible exact ih2 _ _ _ _ _ _ _ _ _ _)
      | (with_reducible exact spec_l7Subsets.mono _ _ _ _)
      | (with_reducible exact LeO.refl _)
      | (with_reducible exact LeO.none _)
      | (with_reducible refine LeO.ite ?_ ?_)
      | (with_reducible refine LeO.bind ?_ (fun _ => ?_))
      | exact ih0 _ _ _
      | exact ih1 _ _ _ _ _ _
      | exact ih2 _ _ _ _ _ _ _ _ _ _
      | exact spec_l7Subsets.mono _ _ _ _
      | exact LeO.none _
      | refine LeO.ite ?_ ?_
      | refine LeO.bind ?_ (fun _ => ?_)
    · intro y0 y1 y2 y3 y4 y5 y6 y7 y8 y9
      unfold spec_l8Lists.l2
      repeat' first
      | (with_reducible exact ih0 _ _ _)
      | (with_reducible exact ih1 _ _ _ _ _ _)
      | (with_reducible exact ih2 _ _ _ _ _ _ _ _ _ _)
      | (with_reducible exact spec_l7Subsets.mono _ _ _ _)
      | (with_reducible exact LeO.refl _)
      | (with_reducible exact LeO.none _)
      | (with_reducible refine LeO.ite ?_ ?_)
      | (with_reducible refine LeO.bind ?_ (fun _ => ?_))
      | exact ih0 _ _ _
      | exact ih1 _ _ _ _ _ _
      | exact ih2 _ _ _ _ _ _ _ _ _ _
      | exact spec_l7Subsets.mono _ _ _ _
      | exact LeO.none _
      | refine LeO.ite ?_ ?_
      | refine LeO.bind ?_ (fun _ => ?_)
theorem spec_l8Lists.mono : ∀ a0 k, LeO (spec_l8Lists.f k a0) (spec_l8Lists.f (k + 1) a0) := by
  intro a0 k
  obtain ⟨ih0, ih1, ih2⟩ := spec_l8Lists.mono_l k
  unfold spec_l8Lists.f
  repeat' first
      | (with_reducible exact ih0 _ _ _)
      | (with_reducible exact ih1 _ _ _ _ _ _)
      | (with_reducible exact ih2 _ _ _ _ _ _ _ _ _ _)
      | (with_reducible exact spec_l7Subsets.mono _ _ _ _)
      | (with_reducible exact LeO.refl _)
      | (with_reducible exact LeO.none _)
      | (with_reducible refine LeO.ite ?_ ?_)
      | (with_reducible refine LeO.bind ?_ (fun _ => ?_))
      | exact ih0 _ _ _
      | exact ih1 _ _ _ _ _ _
      | exact ih2 _ _ _ _ _ _ _ _ _ _
      | exact spec_l7Subsets.mono _ _ _ _
      | exact LeO.none _
      | refine LeO.ite ?_ ?_
      | refine LeO.bind ?_ (fun _ => ?_)
set_option maxHeartbeats 8000000 in
set_option maxRecDepth 100000 in
theorem spec_l8Lists.calls (k:Nat) (A0:Option Addr) (c0:Nat) (l0:List Int) (r:List (List Int)) (w:World) (hr0:Kd.C (Kd.int .i64) w A0 l0.length l0) (hc0:l0.length≤c0) (h:spec_l8Lists.f k l0=some r) :
  Calls Try.prog 40 #[.slice A0 l0.length c0] w fun e w'=>∃ v0_:Value,e=.returned (v0_)∧Kd.S (Kd.slice 3 (Kd.int .i64)) 23 w' w.heap.size (fun _=>True) v0_ r∧Below w.heap.size w w':=by
 have HR0:=qK hr0;have HC0:=qK hc0;clear hr0 hc0;have HB:=qK (Below.refl w.heap.size w);have H:(spec_l8Lists.l0 k l0 ([]:List (List Int)) 0)=some r:=h;clear h;have H':=qK H;clear H;go_enter Try.func40,Try.ntmps40
 go_wp2
 go_loopg [3,4] k (fun kq v3 v4 w'=>∃ (x3_1:List (List Int)) (x4_1:Int),v4=.int .i64 x4_1∧Aside0 (spec_l8Lists.l0 kq l0 x3_1 x4_1=some r)∧Aside0 (kq≤k)∧Aside0 (Kd.S (Kd.slice 3 (Kd.int .i64)) 23 w' w.heap.size (fun _=>True) v3 x3_1)∧Aside0 (Below w.heap.size w w'))
 case atStart=>exact ⟨(([]:List (List Int))),(0),(by first|rfl|(simp;done)|(simp [*];done)),H',⟨Nat.le_refl _⟩,⟨by first|exact Kd.S_nil _ _ _ _ _|exact Kd.N_nil _ _ _ _ _|exact Kd.V_nil _ _ _ _ _|exact Kd.Q_nil _ _ _ _ _|exact Kd.R_nil _ _ _ _ _⟩,⟨by repeat (first|(with_reducible first|exact HB.out|apply qA|apply qD|apply qO)|exact HB.out)⟩⟩
 case round =>
  clear H';obtain ⟨x3_1,x4_1,rfl,HA,HK1,HO_3,HB⟩:=hrel;cases gk with
  | zero=>exact absurd HA.out (by simp [spec_l8Lists.l0])
  | succ k1 =>
   have H:=HA.out;clear HA;simp only [spec_l8Lists.l0] at H;by_cases c2:x4_1≤(l0.length:Int)
   ·rw [if_pos c2] at H;have c2b0:decide (x4_1≤(l0.length:Int))=true:=decide_eq_true c2;clear c2;replace H:=Option.bind_eq_some_iff.mp H;obtain ⟨t133,A30,H⟩:=H;replace H:(spec_l8Lists.l1 k1 l0 x3_1 x4_1 t133 (t133.length:Int) 0)=some r:=H;have A3:=qK A30;clear A30;have H':=qK H;clear H;go_wp2_with (first|((with_reducible refine gate_callee (f:=51) rfl ?_);refine goesL_ (some 19) rfl rfl Try.func51 (by kernel_rfl) rfl #[.int .i64 (l0.length:Int),.int .i64 x4_1,.int .i64 0] rfl (by (try simp only [mT,mC,mN]);first|done|rfl|(simp only [lD,lT];rfl)) ?_;(with_reducible refine (spec_l7Subsets.calls k1 (l0.length:Int) x4_1 0 t133 _ A3.out).mono ?_);rintro e w4 ⟨v134,rfl,ho0,hb⟩;refine ⟨_,rfl,?_⟩;have n0_:=qK (Kd.S_elder' (by (with_reducible repeat (first|apply Kd.S_alloc|apply Kd.S_drewN|apply Kd.S_drew));exact HO_3.out) (Kd.S_base ho0) hb);have n1_:=qK (Kd.S_lower (Kd.S_new' ho0 (Kd.S_lt (by (with_reducible repeat (first|apply Kd.S_alloc|apply Kd.S_drewN|apply Kd.S_drew));exact HO_3.out))) (qZ (by repeat (with_reducible first|exact HB.out|apply qA|apply qD|apply qO))));have n2_:=qK (qT (by repeat (with_reducible first|exact HB.out|apply qA|apply qD|apply qO)) hb);clear HO_3;clear HB;have HO_3:=n0_;have HO135:=n1_;have HB:=n2_;clear n0_ n1_ n2_;(try clear hb);(try clear ho0);obtain ⟨Ao5,co5,eo5⟩:=Kd.S_slice HO135.out;subst eo5))
    go_loopg [3,21] k1 (fun kq v3 v21 w'=>∃ (x3_2:List (List Int)) (x21_2:Int),v21=.int .i64 x21_2∧Aside0 (spec_l8Lists.l1 kq l0 x3_2 x4_1 t133 (t133.length:Int) x21_2=some r)∧Aside0 (kq≤k1)∧Aside0 (Kd.S (Kd.slice 3 (Kd.int .i64)) 23 w' w.heap.size (fun k_=>some k_ ≠ ((.slice Ao5 t133.length co5):Value).ownBlock) v3 x3_2)∧Aside0 (Kd.S (Kd.slice 3 (Kd.int .i64)) 23 w' w.heap.size (fun k_=>some k_ ≠ (v3:Value).ownBlock) (.slice Ao5 t133.length co5) t133)∧Aside0 (Below w.heap.size w w'))
    case atStart=>exact ⟨(x3_1),(0),(by first|rfl|(simp;done)|(simp [*];done)),H',⟨Nat.le_refl _⟩,⟨by (with_reducible repeat (first|apply Kd.S_alloc|apply Kd.S_drewN|apply Kd.S_drew));exact Kd.S_mono HO_3.out (fun _ hk=>hk.2)⟩,⟨by (with_reducible repeat (first|apply Kd.S_alloc|apply Kd.S_drewN|apply Kd.S_drew));exact Kd.S_mono HO135.out (fun _ hk=>hk.2)⟩,⟨by repeat (first|(with_reducible first|exact HB.out|apply qA|apply qD|apply qO)|exact HB.out)⟩⟩
    case round =>
     clear H';try clear c2
     try clear c2b0
     try clear p2
     try clear c4
     try clear c5
     obtain ⟨x3_2,x21_2,rfl,HA,HK2,HO_3,HO_19,HB⟩:=hrel;cases gk with
     | zero=>exact absurd HA.out (by simp [spec_l8Lists.l1])
     | succ k2 =>
      have H:=HA.out;clear HA;simp only [spec_l8Lists.l1] at H;by_cases c6:x21_2 < (t133.length:Int)
      ·rw [if_pos c6] at H;have c6b0:decide (x21_2 < (t133.length:Int))=true:=decide_eq_true c6;clear c6;by_cases c7:0≤x21_2
       ·rw [if_pos c7] at H;have c7b0:decide (0≤x21_2)=true:=decide_eq_true c7;clear c7;by_cases c8:x21_2 < (t133.length:Int)
        ·rw [if_pos c8] at H;have c8b0:decide (x21_2 < (t133.length:Int))=true:=decide_eq_true c8;clear c8;have H':=qK H;clear H;have p136:0≤(x21_2:Int):=of_decide_eq_true (by first|(with_reducible assumption)|assumption);have q136:x21_2 < (t133.length:Int):=of_decide_eq_true (by first|(with_reducible assumption)|assumption);obtain ⟨ad136,A136_0,c136_0,e136,hx136_0,hl136_0,hi136_0⟩:=at_L1 (Kd.S_reads' HO_19.out).2.2 x21_2 p136 q136;cases e136
         obtain ⟨ce136,hce136,hMe136,hcc136⟩:=Kd.S_get HO_19.out [] x21_2 p136 (by first|exact q136|exact of_decide_eq_true (by first|(with_reducible assumption)|assumption)|(have e_:=(Kd.S_reads' HO_19.out).1;omega));obtain ⟨ve136_0,rfl,ge136_0⟩:=hMe136;have hv136_0:=hcc136 0 _ rfl;rw [Nat.add_zero,show ((Kd.slice 3 (Kd.int .i64))).sz=1 from rfl,Nat.mul_one] at hv136_0;replace hv136_0:=Option.some.inj (hv136_0.symm.trans hx136_0);rw [hv136_0] at ge136_0;have HL136_0:=qK (show Kd.R (Kd.int .i64) 3 _ _ _ _ (rd_L1 t133 x21_2) from ge136_0);clear hv136_0 ge136_0;clear hcc136 hce136;have HR136_0:=qK hi136_0;have HC136_0:=qK hl136_0;clear hi136_0 hl136_0;replace p136:=eq_true p136;replace q136:=eq_true q136;go_wp2
         go_loopg [7,27] k2 (fun kq v7 v27 w'=>∃ (x7_3:List Int) (x27_3:Int),v27=.int .i64 x27_3∧Aside0 (spec_l8Lists.l2 kq l0 x3_2 x4_1 x7_3 t133 (t133.length:Int) x21_2 (rd_L1 t133 x21_2) ((rd_L1 t133 x21_2).length:Int) x27_3=some r)∧Aside0 (kq≤k2)∧Aside0 (Kd.S (Kd.slice 3 (Kd.int .i64)) 23 w' w.heap.size (fun k_=>some k_ ≠ (v7:Value).ownBlock∧some k_ ≠ ((.slice (some ad136) t133.length co5):Value).ownBlock) u3 x3_2)∧Aside0 (Kd.R (Kd.int .i64) 3 w' w.heap.size (fun _=>True) v7 x7_3)∧Aside0 (Kd.S (Kd.slice 3 (Kd.int .i64)) 23 w' w.heap.size (fun k_=>some k_ ≠ (u3:Value).ownBlock∧some k_ ≠ (v7:Value).ownBlock) (.slice (some ad136) t133.length co5) t133)∧Aside0 (Kd.R (Kd.int .i64) 3 w' w.heap.size (fun k_=>some k_ ≠ (v7:Value).ownBlock) (.slice A136_0 (rd_L1 t133 x21_2).length c136_0) (rd_L1 t133 x21_2))∧Aside0 (Below w.heap.size w w'))
         case atStart=>exact ⟨(([]:List Int)),(0),(by first|rfl|(simp;done)|(simp [*];done)),H',⟨Nat.le_refl _⟩,⟨by (with_reducible repeat (first|apply Kd.S_alloc|apply Kd.S_drewN|apply Kd.S_drew));exact Kd.S_mono HO_3.out (fun _ hk=>⟨(by simp [Value.ownBlock]),hk⟩)⟩,⟨by first|exact Kd.R_nil _ _ _ _ _|exact Kd.N_nil _ _ _ _ _|exact Kd.V_nil _ _ _ _ _|exact Kd.Q_nil _ _ _ _ _|exact Kd.S_nil _ _ _ _ _⟩,⟨by (with_reducible repeat (first|apply Kd.S_alloc|apply Kd.S_drewN|apply Kd.S_drew));exact Kd.S_mono HO_19.out (fun _ hk=>⟨hk,(by simp [Value.ownBlock])⟩)⟩,⟨by (with_reducible repeat (first|apply rL|apply rN|apply rW));exact Kd.R_mono HL136_0.out (fun _ _=>(by simp [Value.ownBlock]))⟩,⟨by repeat (first|(with_reducible first|exact HB.out|apply qA|apply qD|apply qO)|exact HB.out)⟩⟩
         case round =>
          clear H';try clear c1
          try clear p1
          try clear q1
          try clear hx1
          try clear c2
          try clear c2b0
          try clear p2
          try clear c4
          try clear c5
          try clear c6
          try clear c6b0
          try clear c7
          try clear c7b0
          try clear c8
          try clear c8b0
          try clear hx136_0
          try clear p136
          try clear p2
          try clear q136
          obtain ⟨x7_3,x27_3,rfl,HA,HK3,HO_3,HO_7,HO_19,HE_,HB⟩:=hrel;cases gk with
          | zero=>exact absurd HA.out (by simp [spec_l8Lists.l2])
          | succ k3 =>
           have H:=HA.out;clear HA;simp only [spec_l8Lists.l2] at H;by_cases c9:x27_3 < ((rd_L1 t133 x21_2).length:Int)
           ·rw [if_pos c9] at H;have c9b0:decide (x27_3 < ((rd_L1 t133 x21_2).length:Int))=true:=decide_eq_true c9;clear c9;by_cases c10:0≤x27_3
            ·rw [if_pos c10] at H;have c10b0:decide (0≤x27_3)=true:=decide_eq_true c10;clear c10;by_cases c11:x27_3 < ((rd_L1 t133 x21_2).length:Int)
             ·rw [if_pos c11] at H;have c11b0:decide (x27_3 < ((rd_L1 t133 x21_2).length:Int))=true:=decide_eq_true c11;clear c11;by_cases c12:0≤(rd (rd_L1 t133 x21_2) x27_3)
              ·rw [if_pos c12] at H;have c12b0:decide (0≤(rd (rd_L1 t133 x21_2) x27_3))=true:=decide_eq_true c12;clear c12;by_cases c13:(rd (rd_L1 t133 x21_2) x27_3) < (l0.length:Int)
               ·rw [if_pos c13] at H;have c13b0:decide ((rd (rd_L1 t133 x21_2) x27_3) < (l0.length:Int))=true:=decide_eq_true c13;clear c13;by_cases c14:x7_3.length < 17592186044416
                ·rw [if_pos c14] at H;have LMc14:=qK c14;clear c14;obtain ⟨y139,hy139⟩:∃ y_:List Int,y_=(x7_3 ++ [rd l0 (rd (rd_L1 t133 x21_2) x27_3)]):=⟨_,rfl⟩;replace H:(spec_l8Lists.l2 k3 l0 x3_2 x4_1 y139 t133 (t133.length:Int) x21_2 (rd_L1 t133 x21_2) ((rd_L1 t133 x21_2).length:Int) (wrap64 (x27_3 + 1)))=some r:=by first|(rw [hy139];with_reducible exact H)|(have H2_:=(Option.bind_some _ _).symm.trans H;rw [hy139];with_reducible exact H2_)|(have H2_:=(Option.bind_some _ _).symm.trans H;with_reducible exact H2_)|with_reducible exact H|(rw [hy139];exact H)|exact H
                 have Ny139:=qK hy139;clear hy139;have H':=qK H;clear H;have p137:0≤(x27_3:Int):=of_decide_eq_true (by first|(with_reducible assumption)|assumption);have q137:x27_3 < ((rd_L1 t133 x21_2).length:Int):=of_decide_eq_true (by first|(with_reducible assumption)|assumption);obtain ⟨ad137,e137,hx137_0⟩:=Kd.at_int (Kd.R_reads' HE_.out).2.2 x27_3 p137 q137;cases e137
                 replace p137:=eq_true p137;replace q137:=eq_true q137;have p138:0≤((rd (rd_L1 t133 x21_2) x27_3):Int):=of_decide_eq_true (by first|(with_reducible assumption)|assumption);have q138:(rd (rd_L1 t133 x21_2) x27_3) < (l0.length:Int):=of_decide_eq_true (by first|(with_reducible assumption)|assumption);obtain ⟨ad138,e138,hx138_0⟩:=Kd.at_int HR0.out (rd (rd_L1 t133 x21_2) x27_3) p138 q138;cases e138
                 replace hx138_0:=(HB.out.cell (World.block_lt_of_cell? w _ hx138_0)).trans hx138_0;replace p138:=eq_true p138;replace q138:=eq_true q138;go_wp2_with (first|((with_reducible refine gate_builtin (b:=.append) (xs:=#[.tmp 31,.tmp 36]) rfl ?_);at_builtin;refine Kd.R_append (Kd.int .i64) (w0:=w) w.heap.size rfl (.tmp 31) (.tmp 36) 23 3 (.int .i64 0) 8 rfl Try.underlying23 info3 rfl (by decide) (by omega) u7 x7_3 (rd l0 (rd (rd_L1 t133 x21_2) x27_3)) [.int .i64 (rd l0 (rd (rd_L1 t133 x21_2) x27_3))] (fun _=>True) (fun _=>False) rfl rfl ?aP (fun _ hk=>hk.elim) ?aF ?aO ?aB ?aS ?aL ?_;(case aP=>exact rfl);(case aB=>exact (by repeat (with_reducible first|exact HB.out|apply qA|apply qD|apply qO)));(case aF=>exact (fun _ _=>trivial));(case aO=>exact (by (with_reducible repeat (first|apply rL|apply rN|apply rW));exact HO_7.out));(case aS=>exact (qZ (by repeat (with_reducible first|exact HB.out|apply qA|apply qD|apply qO))));(case aL=>have:=LMc14.out;omega);intro v140 w15 ho hb hg hat;rw [← Ny139.out] at ho;have n0_:=qK (Kd.S_after (ok:=(fun k_=>some k_ ≠ (.slice (some ad136) t133.length co5:Value).ownBlock)) (by (with_reducible repeat (first|apply Kd.S_alloc|apply Kd.S_drewN|apply Kd.S_drew));exact Kd.S_mono HO_3.out (fun _ hk=>⟨hk.2,hk.1⟩)) hg hat);have n1_:=qK (Kd.S_after (ok:=(fun k_=>some k_ ≠ (u3:Value).ownBlock)) (by (with_reducible repeat (first|apply Kd.S_alloc|apply Kd.S_drewN|apply Kd.S_drew));exact HO_19.out) hg hat);have n2_:=qK (hb);have n3_:=qK (ho);have n4_:=qK (Kd.R_after (ok:=(fun _=>True)) (by (with_reducible repeat (first|apply rL|apply rN|apply rW));exact Kd.R_mono HE_.out (fun _ hk=>⟨trivial,hk⟩)) hg hat);clear HE_;have HE_:=n4_;clear n4_;clear HO_3;clear HO_19;clear HB;clear HO_7;have HO_3:=n0_;have HO_19:=n1_;have HB:=n2_;have HO141:=n3_;clear n0_ n1_ n2_ n3_;clear ho hb hg hat))
                 go_roundg k3
                 case measure=>have:=HK1.out;have:=HK2.out;have:=HK3.out;omega
                 case rel=>exact ⟨(y139),(wrap64 (x27_3 + 1)),(by first|rfl|(simp;done)|(simp [*];done)),H',⟨by have:=HK1.out;have:=HK2.out;have:=HK3.out;omega⟩,⟨by (with_reducible repeat (first|apply Kd.S_alloc|apply Kd.S_drewN|apply Kd.S_drew));exact Kd.S_mono HO_3.out (fun _ hk=>⟨hk.2,hk.1⟩)⟩,⟨by (with_reducible repeat (first|apply rL|apply rN|apply rW));exact HO141.out⟩,⟨by (with_reducible repeat (first|apply Kd.S_alloc|apply Kd.S_drewN|apply Kd.S_drew));exact HO_19.out⟩,⟨by (with_reducible repeat (first|apply rL|apply rN|apply rW));exact Kd.R_mono HE_.out (fun _ hk=>hk.2)⟩,⟨by repeat (first|(with_reducible first|exact HB.out|apply qA|apply qD|apply qO)|exact HB.out)⟩⟩
                ·rw [if_neg c14] at H;exact absurd H (by simp)
               ·rw [if_neg c13] at H;exact absurd H (by simp)
              ·rw [if_neg c12] at H;exact absurd H (by simp)
             ·rw [if_neg c11] at H;exact absurd H (by simp)
            ·rw [if_neg c10] at H;exact absurd H (by simp)
           ·rw [if_neg c9] at H;have c9b0:decide (x27_3 < ((rd_L1 t133 x21_2).length:Int))=false:=decide_eq_false c9;clear c9;by_cases c16:x3_2.length < 5864062014805
            ·rw [if_pos c16] at H;have LMc16:=qK c16;clear c16;obtain ⟨y142,hy142⟩:∃ y_:List (List Int),y_=(x3_2 ++ [x7_3]):=⟨_,rfl⟩;replace H:(spec_l8Lists.l1 k3 l0 y142 x4_1 t133 (t133.length:Int) (wrap64 (x21_2 + 1)))=some r:=by first|(rw [hy142];with_reducible exact H)|(have H2_:=(Option.bind_some _ _).symm.trans H;rw [hy142];with_reducible exact H2_)|(have H2_:=(Option.bind_some _ _).symm.trans H;with_reducible exact H2_)|with_reducible exact H|(rw [hy142];exact H)|exact H
             have Ny142:=qK hy142;clear hy142;have H':=qK H;clear H;obtain ⟨Ao18,co18,eo18⟩:=Kd.R_slice HO_7.out;subst eo18;go_wp2_with (first|((with_reducible refine gate_builtin (b:=.append) (xs:=#[.tmp 39,.tmp 41]) rfl ?_);at_builtin;refine Kd.S_append (Kd.slice 3 (Kd.int .i64)) (w0:=w) w.heap.size rfl (.tmp 39) (.tmp 41) 33 23 (.slice none 0 0) 24 rfl Try.underlying33 info23 rfl (by decide) (by omega) u3 x3_2 x7_3 [.slice Ao18 x7_3.length co18] (fun k_=>some k_ ≠ (.slice (some ad136) t133.length co5:Value).ownBlock) (fun k_=>some k_=(.slice Ao18 x7_3.length co18:Value).ownBlock) rfl rfl ?aP (fun k_ hk_=>((Kd.R_mono (ok':=fun k_=>((fun k_=>some k_ ≠ (.slice (some ad136) t133.length co5:Value).ownBlock)) k_∧some k_ ≠ (u3:Value).ownBlock) (Kd.R_apart' (Kd.R_apart' (HO_7.out) (Kd.S_typed HO_19.out) (by decide)) (Kd.S_typed HO_3.out) (by decide)) (fun k_ hk=>⟨hk.1.2,hk.2⟩))).1 k_ hk_.symm) ?aF ?aO ?aB ?aS ?aL ?_;(case aP=>exact Kd.M_row (Kd.R_mono (Kd.R_tight rfl (Kd.R_mono (ok':=fun k_=>((fun k_=>some k_ ≠ (.slice (some ad136) t133.length co5:Value).ownBlock)) k_∧some k_ ≠ (u3:Value).ownBlock) (Kd.R_apart' (Kd.R_apart' (HO_7.out) (Kd.S_typed HO_19.out) (by decide)) (Kd.S_typed HO_3.out) (by decide)) (fun k_ hk=>⟨hk.1.2,hk.2⟩))) (fun _ h_=>h_)));(case aB=>exact (by repeat (with_reducible first|exact HB.out|apply qA|apply qD|apply qO)));(case aF=>exact (fun k_ hk=>Kd.fresh' (Kd.S_lt (by (with_reducible repeat (first|apply Kd.S_alloc|apply Kd.S_drewN|apply Kd.S_drew));exact HO_19.out)) k_ hk));(case aO=>exact (by (with_reducible repeat (first|apply Kd.S_alloc|apply Kd.S_drewN|apply Kd.S_drew));exact Kd.S_mono HO_3.out (fun k_ hk=>⟨hk.2,fun e_=>hk.1 e_⟩)));(case aS=>exact (qZ (by repeat (with_reducible first|exact HB.out|apply qA|apply qD|apply qO))));(case aL=>have:=LMc16.out;omega);intro v143 w17 ho hb hg hat;rw [← Ny142.out] at ho;have n0_:=qK (Kd.S_after (ok:=(fun k_=>some k_ ≠ (.slice Ao18 x7_3.length co18:Value).ownBlock)) (by (with_reducible repeat (first|apply Kd.S_alloc|apply Kd.S_drewN|apply Kd.S_drew));exact Kd.S_mono HO_19.out (fun _ hk=>⟨hk.2,hk.1⟩)) hg hat);have n1_:=qK (hb);have n2_:=qK (ho);clear HO_19;clear HB;clear HO_3;clear HO_7;have HO_19:=n0_;have HB:=n1_;have HO144:=n2_;clear n0_ n1_ n2_;clear ho hb hg hat))
             go_roundg k3
             case measure=>have:=HK1.out;have:=HK2.out;have:=HK3.out;omega
             case rel=>exact ⟨(y142),(wrap64 (x21_2 + 1)),(by first|rfl|(simp;done)|(simp [*];done)),H',⟨by have:=HK1.out;have:=HK2.out;have:=HK3.out;omega⟩,⟨by (with_reducible repeat (first|apply Kd.S_alloc|apply Kd.S_drewN|apply Kd.S_drew));exact HO144.out⟩,⟨by (with_reducible repeat (first|apply Kd.S_alloc|apply Kd.S_drewN|apply Kd.S_drew));exact Kd.S_mono HO_19.out (fun _ hk=>hk.2)⟩,⟨by repeat (first|(with_reducible first|exact HB.out|apply qA|apply qD|apply qO)|exact HB.out)⟩⟩
            ·rw [if_neg c16] at H;exact absurd H (by simp)
        ·rw [if_neg c8] at H;exact absurd H (by simp)
       ·rw [if_neg c7] at H;exact absurd H (by simp)
      ·rw [if_neg c6] at H;have c6b0:decide (x21_2 < (t133.length:Int))=false:=decide_eq_false c6;clear c6;have H':=qK H;clear H;go_wp2
       go_roundg k2
       case measure=>have:=HK1.out;have:=HK2.out;omega
       case rel=>exact ⟨(x3_2),(wrap64 (x4_1 + 1)),(by first|rfl|(simp;done)|(simp [*];done)),H',⟨by have:=HK1.out;have:=HK2.out;omega⟩,⟨by (with_reducible repeat (first|apply Kd.S_alloc|apply Kd.S_drewN|apply Kd.S_drew));exact Kd.S_mono HO_3.out (fun _ hk=>trivial)⟩,⟨by repeat (first|(with_reducible first|exact HB.out|apply qA|apply qD|apply qO)|exact HB.out)⟩⟩
   ·rw [if_neg c2] at H;have c2b0:decide (x4_1≤(l0.length:Int))=false:=decide_eq_false c2;clear c2;obtain rfl:=Option.some.inj H;go_wp2
    go_ret
    exact ⟨_,by first|rfl|(simp [errW_none,errW_some] <;> rfl)|(simp [*,errW_none,errW_some] <;> rfl),by (with_reducible repeat (first|apply Kd.S_alloc|apply Kd.S_drewN|apply Kd.S_drew));exact HO_3.out,by repeat (first|(with_reducible first|exact HB.out|apply qA|apply qD|apply qO)|exact HB.out)⟩

/-! ### spec_l1Has: function 62 -/
def spec_l1Has.l0 : Nat→Int→List Int→Int→Int→Option (Bool)
 | 0,_,_,_,_=>none
 | k + 1,x1,x7,x8,x9=>if x9 < x8 then (if 0≤x9 then (if x9 < (x7.length:Int) then (if (rd x7 x9)=x1 then (some true) else (spec_l1Has.l0 k x1 x7 x8 (wrap64 (x9 + 1)))) else (none)) else (none)) else (some false)
def spec_l1Has.f (k:Nat) (l0:List Int) (a1:Int):Option (Bool):=spec_l1Has.l0 k a1 l0 (l0.length:Int) 0
theorem spec_l1Has.mono_l : ∀ k,(∀ y0 y1 y2 y3,LeO (spec_l1Has.l0 k y0 y1 y2 y3) (spec_l1Has.l0 (k + 1) y0 y1 y2 y3))
 | 0=>fun _ _ _ _ r h=>by simp [spec_l1Has.l0] at h
 | k + 1=>by
  have ih0:=spec_l1Has.mono_l k
  ·intro y0 y1 y2 y3;unfold spec_l1Has.l0
   repeat' first
   | (with_reducible exact ih0 _ _ _ _)
   | (with_reducible exact LeO.refl _)
   | (with_reducible exact LeO.none _)
   | (with_reducible refine LeO.ite ?_ ?_)
   | (with_reducible refine LeO.bind ?_ (fun _=>?_))
   | exact ih0 _ _ _ _
   | exact LeO.none _
   | refine LeO.ite ?_ ?_
   | refine LeO.bind ?_ (fun _=>?_)
theorem spec_l1Has.mono : ∀ a0 a1 k,LeO (spec_l1Has.f k a0 a1) (spec_l1Has.f (k + 1) a0 a1):=by
 intro a0 a1 k;have ih0:=spec_l1Has.mono_l k;unfold spec_l1Has.f
 repeat' first
   | (with_reducible exact ih0 _ _ _ _)
   | (with_reducible exact LeO.refl _)
   | (with_reducible exact LeO.none _)
   | (with_reducible refine LeO.ite ?_ ?_)
   | (with_reducible refine LeO.bind ?_ (fun _=>?_))
   | exact ih0 _ _ _ _
   | exact LeO.none _
   | refine LeO.ite ?_ ?_
   | refine LeO.bind ?_ (fun _=>?_)
set_option maxHeartbeats 8000000 in
set_option maxRecDepth 100000 in
theorem spec_l1Has.calls (k:Nat) (A0:Option Addr) (c0:Nat) (l0:List Int) (a1:Int) (r:Bool) (w:World) (hr0:Kd.C (Kd.int .i64) w A0 l0.length l0) (hc0:l0.length≤c0) (h:spec_l1Has.f k l0 a1=some r) :
  Calls Try.prog 62 #[.slice A0 l0.length c0,.int .i64 a1] w fun e w'=>e=.returned (.bool r)∧Drawn0 w w':=by
 have HR0:=qK hr0;have HC0:=qK hc0;clear hr0 hc0;have H:(spec_l1Has.l0 k a1 l0 (l0.length:Int) 0)=some r:=h;clear h;have H':=qK H;clear H;go_enter Try.func62,Try.ntmps62
 go_wp2
 go_loopg [9] k (fun kq v9 w'=>∃ (x9_1:Int),v9=.int .i64 x9_1∧Aside0 (spec_l1Has.l0 kq a1 l0 (l0.length:Int) x9_1=some r)∧Aside0 (kq≤k)∧Drawn0 w w')
 case atStart=>exact ⟨(0),(by first|rfl|(simp;done)|(simp [*];done)),H',⟨Nat.le_refl _⟩,by repeat (first|exact Drawn0.refl _|apply Drawn0.step)⟩
 case round =>
  clear H';try clear p2
  obtain ⟨x9_1,rfl,HA,HK1,⟨m1,rfl⟩⟩:=hrel;cases gk with
  | zero=>exact absurd HA.out (by simp [spec_l1Has.l0])
  | succ k1 =>
   have H:=HA.out;clear HA;simp only [spec_l1Has.l0] at H;by_cases c3:x9_1 < (l0.length:Int)
   ·rw [if_pos c3] at H;have c3b0:decide (x9_1 < (l0.length:Int))=true:=decide_eq_true c3;clear c3;by_cases c4:0≤x9_1
    ·rw [if_pos c4] at H;have c4b0:decide (0≤x9_1)=true:=decide_eq_true c4;clear c4;by_cases c5:x9_1 < (l0.length:Int)
     ·rw [if_pos c5] at H;have c5b0:decide (x9_1 < (l0.length:Int))=true:=decide_eq_true c5;clear c5;by_cases c6:(rd l0 x9_1)=a1
      ·rw [if_pos c6] at H;have c6b0:((rd l0 x9_1) == a1)=true:=beq_iff_eq.mpr c6;have c6b1:((rd l0 x9_1) != a1)=false:=bne_eq_false_iff_eq.mpr c6;clear c6;obtain rfl:=Option.some.inj H;have p133:0≤(x9_1:Int):=of_decide_eq_true (by first|(with_reducible assumption)|assumption);have q133:x9_1 < (l0.length:Int):=of_decide_eq_true (by first|(with_reducible assumption)|assumption);obtain ⟨ad133,e133,hx133_0⟩:=Kd.at_int HR0.out x9_1 p133 q133;cases e133
       replace p133:=eq_true p133;replace q133:=eq_true q133;go_wp2
       go_ret
       exact ⟨by first|rfl|(simp;done)|(simp [*];done),by repeat (first|exact Drawn0.refl _|apply Drawn0.step)⟩
      ·rw [if_neg c6] at H;have c6b0:((rd l0 x9_1) == a1)=false:=beq_eq_false_iff_ne.mpr c6;have c6b1:((rd l0 x9_1) != a1)=true:=bne_iff_ne.mpr c6;have H':=qK H;clear H;have p133:0≤(x9_1:Int):=of_decide_eq_true (by first|(with_reducible assumption)|assumption);have q133:x9_1 < (l0.length:Int):=of_decide_eq_true (by first|(with_reducible assumption)|assumption);obtain ⟨ad133,e133,hx133_0⟩:=Kd.at_int HR0.out x9_1 p133 q133;cases e133
       replace p133:=eq_true p133;replace q133:=eq_true q133;go_wp2
       go_roundg k1
       case measure=>have:=HK1.out;omega
       case rel=>exact ⟨(wrap64 (x9_1 + 1)),(by first|rfl|(simp;done)|(simp [*];done)),H',⟨by have:=HK1.out;omega⟩,by repeat (first|exact Drawn0.refl _|apply Drawn0.step)⟩
     ·rw [if_neg c5] at H;exact absurd H (by simp)
    ·rw [if_neg c4] at H;exact absurd H (by simp)
   ·rw [if_neg c3] at H;have c3b0:decide (x9_1 < (l0.length:Int))=false:=decide_eq_false c3;clear c3;obtain rfl:=Option.some.inj H;go_wp2
    go_ret
    exact ⟨by first|rfl|(simp;done)|(simp [*];done),by repeat (first|exact Drawn0.refl _|apply Drawn0.step)⟩

/-! ### spec_l7All: function 53 -/
def spec_l7All.l0 : Nat→List Int→List Int→Int→Int→Option (Bool)
 | 0,_,_,_,_=>none
 | k + 1,x0,x7,x8,x9=>if x9 < x8 then (if 0≤x9 then (if x9 < (x7.length:Int) then ((spec_l1Has.f k x0 (rd x7 x9)).bind fun t135=>(if t135=true then (spec_l7All.l0 k x0 x7 x8 (wrap64 (x9 + 1))) else (some false))) else (none)) else (none)) else (some true)
def spec_l7All.f (k:Nat) (l0:List Int) (l1:List Int):Option (Bool):=spec_l7All.l0 k l0 l1 (l1.length:Int) 0
theorem spec_l7All.mono_l : ∀ k,(∀ y0 y1 y2 y3,LeO (spec_l7All.l0 k y0 y1 y2 y3) (spec_l7All.l0 (k + 1) y0 y1 y2 y3))
 | 0=>fun _ _ _ _ r h=>by simp [spec_l7All.l0] at h
 | k + 1=>by
  have ih0:=spec_l7All.mono_l k
  ·intro y0 y1 y2 y3;unfold spec_l7All.l0
   repeat' first
   | (with_reducible exact ih0 _ _ _ _)
   | (with_reducible exact spec_l1Has.mono _ _ _)
   | (with_reducible exact LeO.refl _)
   | (with_reducible exact LeO.none _)
   | (with_reducible refine LeO.ite ?_ ?_)
   | (with_reducible refine LeO.bind ?_ (fun _=>?_))
   | exact ih0 _ _ _ _
   | exact spec_l1Has.mono _ _ _
   | exact LeO.none _
   | refine LeO.ite ?_ ?_
   | refine LeO.bind ?_ (fun _=>?_)
theorem spec_l7All.mono : ∀ a0 a1 k,LeO (spec_l7All.f k a0 a1) (spec_l7All.f (k + 1) a0 a1):=by
 intro a0 a1 k;have ih0:=spec_l7All.mono_l k;unfold spec_l7All.f
 repeat' first
   | (with_reducible exact ih0 _ _ _ _)
   | (with_reducible exact spec_l1Has.mono _ _ _)
   | (with_reducible exact LeO.refl _)
   | (with_reducible exact LeO.none _)
   | (with_reducible refine LeO.ite ?_ ?_)
   | (with_reducible refine LeO.bind ?_ (fun _=>?_))
   | exact ih0 _ _ _ _
   | exact spec_l1Has.mono _ _ _
   | exact LeO.none _
   | refine LeO.ite ?_ ?_
   | refine LeO.bind ?_ (fun _=>?_)
set_option maxHeartbeats 8000000 in
set_option maxRecDepth 100000 in
theorem spec_l7All.calls (k:Nat) (A0:Option Addr) (c0:Nat) (l0:List Int) (A1:Option Addr) (c1:Nat) (l1:List Int) (r:Bool) (w:World) (hr0:Kd.C (Kd.int .i64) w A0 l0.length l0) (hc0:l0.length≤c0) (hr1:Kd.C (Kd.int .i64) w A1 l1.length l1) (hc1:l1.length≤c1) (h:spec_l7All.f k l0 l1=some r) :
  Calls Try.prog 53 #[.slice A0 l0.length c0,.slice A1 l1.length c1] w fun e w'=>e=.returned (.bool r)∧Drawn0 w w':=by
 have HR0:=qK hr0;have HC0:=qK hc0;clear hr0 hc0;have HR1:=qK hr1;have HC1:=qK hc1;clear hr1 hc1;have H:(spec_l7All.l0 k l0 l1 (l1.length:Int) 0)=some r:=h;clear h;have H':=qK H;clear H;go_enter Try.func53,Try.ntmps53
 go_wp2
 go_loopg [9] k (fun kq v9 w'=>∃ (x9_1:Int),v9=.int .i64 x9_1∧Aside0 (spec_l7All.l0 kq l0 l1 (l1.length:Int) x9_1=some r)∧Aside0 (kq≤k)∧Drawn0 w w')
 case atStart=>exact ⟨(0),(by first|rfl|(simp;done)|(simp [*];done)),H',⟨Nat.le_refl _⟩,by repeat (first|exact Drawn0.refl _|apply Drawn0.step)⟩
 case round =>
  clear H';try clear c1
  try clear p2
  obtain ⟨x9_1,rfl,HA,HK1,⟨m1,rfl⟩⟩:=hrel;cases gk with
  | zero=>exact absurd HA.out (by simp [spec_l7All.l0])
  | succ k1 =>
   have H:=HA.out;clear HA;simp only [spec_l7All.l0] at H;by_cases c3:x9_1 < (l1.length:Int)
   ·rw [if_pos c3] at H;have c3b0:decide (x9_1 < (l1.length:Int))=true:=decide_eq_true c3;clear c3;by_cases c4:0≤x9_1
    ·rw [if_pos c4] at H;have c4b0:decide (0≤x9_1)=true:=decide_eq_true c4;clear c4;by_cases c5:x9_1 < (l1.length:Int)
     ·rw [if_pos c5] at H;have c5b0:decide (x9_1 < (l1.length:Int))=true:=decide_eq_true c5;clear c5;replace H:=Option.bind_eq_some_iff.mp H;obtain ⟨t135,A60,H⟩:=H;replace H:(if t135=true then (spec_l7All.l0 k1 l0 l1 (l1.length:Int) (wrap64 (x9_1 + 1))) else (some false))=some r:=H;have A6:=qK A60;clear A60;by_cases c7:t135=true
      ·subst c7;have H1:(spec_l7All.l0 k1 l0 l1 (l1.length:Int) (wrap64 (x9_1 + 1)))=some r:=by rw [if_pos rfl] at H;exact H
       clear H;have H:=H1;clear H1;have H':=qK H;clear H;have p134:0≤(x9_1:Int):=of_decide_eq_true (by first|(with_reducible assumption)|assumption);have q134:x9_1 < (l1.length:Int):=of_decide_eq_true (by first|(with_reducible assumption)|assumption);obtain ⟨ad134,e134,hx134_0⟩:=Kd.at_int HR1.out x9_1 p134 q134;cases e134
       replace p134:=eq_true p134;replace q134:=eq_true q134;go_wp2_with (first|((with_reducible refine gate_callee (f:=62) rfl ?_);refine goesL_ (some 15) rfl rfl Try.func62 (by kernel_rfl) rfl #[.slice A0 l0.length c0,.int .i64 (rd l1 x9_1)] rfl (by (try simp only [mT,mC,mN]);first|done|rfl|(simp only [lD,lT];rfl)) ?_;(with_reducible refine (spec_l1Has.calls k1 _ _ l0 (rd l1 x9_1) true _ ?side1 ?side2 A6.out).mono ?_);(case side1=>repeat (first|exact HR0.out|(with_reducible first|refine cL ?_ _|refine cN ?_ _|refine cW ?_)));(case side2=>exact HC0.out);rintro e w' ⟨rfl,⟨nd,rfl⟩⟩;refine ⟨_,rfl,?_⟩))
       go_roundg k1
       case measure=>have:=HK1.out;omega
       case rel=>exact ⟨(wrap64 (x9_1 + 1)),(by first|rfl|(simp;done)|(simp [*];done)),H',⟨by have:=HK1.out;omega⟩,by repeat (first|exact Drawn0.refl _|apply Drawn0.step)⟩
      ·replace c7:=Bool.eq_false_iff.mpr c7;subst c7;have H1:(some false)=some r:=by rw [if_neg (show ¬ (false=true) by decide)] at H;exact H
       clear H;have H:=H1;clear H1;obtain rfl:=Option.some.inj H;have p134:0≤(x9_1:Int):=of_decide_eq_true (by first|(with_reducible assumption)|assumption);have q134:x9_1 < (l1.length:Int):=of_decide_eq_true (by first|(with_reducible assumption)|assumption);obtain ⟨ad134,e134,hx134_0⟩:=Kd.at_int HR1.out x9_1 p134 q134;cases e134
       replace p134:=eq_true p134;replace q134:=eq_true q134;go_wp2_with (first|((with_reducible refine gate_callee (f:=62) rfl ?_);refine goesL_ (some 15) rfl rfl Try.func62 (by kernel_rfl) rfl #[.slice A0 l0.length c0,.int .i64 (rd l1 x9_1)] rfl (by (try simp only [mT,mC,mN]);first|done|rfl|(simp only [lD,lT];rfl)) ?_;(with_reducible refine (spec_l1Has.calls k1 _ _ l0 (rd l1 x9_1) false _ ?side1 ?side2 A6.out).mono ?_);(case side1=>repeat (first|exact HR0.out|(with_reducible first|refine cL ?_ _|refine cN ?_ _|refine cW ?_)));(case side2=>exact HC0.out);rintro e w' ⟨rfl,⟨nd,rfl⟩⟩;refine ⟨_,rfl,?_⟩))
       go_ret
       exact ⟨by first|rfl|(simp;done)|(simp [*];done),by repeat (first|exact Drawn0.refl _|apply Drawn0.step)⟩
     ·rw [if_neg c5] at H;exact absurd H (by simp)
    ·rw [if_neg c4] at H;exact absurd H (by simp)
   ·rw [if_neg c3] at H;have c3b0:decide (x9_1 < (l1.length:Int))=false:=decide_eq_false c3;clear c3;obtain rfl:=Option.some.inj H;go_wp2
    go_ret
    exact ⟨by first|rfl|(simp;done)|(simp [*];done),by repeat (first|exact Drawn0.refl _|apply Drawn0.step)⟩

/-! ### spec_l7Put: function 61 -/
def spec_l7Put.l0 : Nat→List Int→Int→Int→Option (List Int)
 | 0,_,_,_=>none
 | k + 1,x0,x1,x5=>if x5 < (x0.length:Int) then (if 0≤x5 then (if (rd x0 x5) < x1 then (spec_l7Put.l0 k x0 x1 (wrap64 (x5 + 1))) else (if x5≤(x0.length:Int) then ((some (x0.take (x5:Int).toNat:List Int)).bind fun y138=>(if ([]:List Int).length + y138.length < 17592186044416 then ((some (([]:List Int) ++ y138:List Int)).bind fun y143=>(if y143.length < 17592186044416 then ((some (y143 ++ [x1]:List Int)).bind fun y146=>((some (x0.drop (x5:Int).toNat:List Int)).bind fun y149=>(if y146.length + y149.length < 17592186044416 then (some (y146 ++ y149)) else (none)))) else (none))) else (none))) else (none))) else (none)) else (if 0≤x5 then (if x5≤(x0.length:Int) then ((some (x0.take (x5:Int).toNat:List Int)).bind fun y157=>(if ([]:List Int).length + y157.length < 17592186044416 then ((some (([]:List Int) ++ y157:List Int)).bind fun y162=>(if y162.length < 17592186044416 then ((some (y162 ++ [x1]:List Int)).bind fun y165=>((some (x0.drop (x5:Int).toNat:List Int)).bind fun y168=>(if y165.length + y168.length < 17592186044416 then (some (y165 ++ y168)) else (none)))) else (none))) else (none))) else (none)) else (none))
def spec_l7Put.f (k:Nat) (l0:List Int) (a1:Int):Option (List Int):=(spec_l1Has.f k l0 a1).bind fun t136=>(if t136=true then (some l0) else (spec_l7Put.l0 k l0 a1 0))
theorem spec_l7Put.mono_l : ∀ k,(∀ y0 y1 y2,LeO (spec_l7Put.l0 k y0 y1 y2) (spec_l7Put.l0 (k + 1) y0 y1 y2))
 | 0=>fun _ _ _ r h=>by simp [spec_l7Put.l0] at h
 | k + 1=>by
  have ih0:=spec_l7Put.mono_l k
  ·intro y0 y1 y2;unfold spec_l7Put.l0
   repeat' first
   | (with_reducible exact ih0 _ _ _)
   | (with_reducible exact spec_l1Has.mono _ _ _)
   | (with_reducible exact LeO.refl _)
   | (with_reducible exact LeO.none _)
   | (with_reducible refine LeO.ite ?_ ?_)
   | (with_reducible refine LeO.bind ?_ (fun _=>?_))
   | exact ih0 _ _ _
   | exact spec_l1Has.mono _ _ _
   | exact LeO.none _
   | refine LeO.ite ?_ ?_
   | refine LeO.bind ?_ (fun _=>?_)
theorem spec_l7Put.mono : ∀ a0 a1 k,LeO (spec_l7Put.f k a0 a1) (spec_l7Put.f (k + 1) a0 a1):=by
 intro a0 a1 k;have ih0:=spec_l7Put.mono_l k;unfold spec_l7Put.f
 repeat' first
   | (with_reducible exact ih0 _ _ _)
   | (with_reducible exact spec_l1Has.mono _ _ _)
   | (with_reducible exact LeO.refl _)
   | (with_reducible exact LeO.none _)
   | (with_reducible refine LeO.ite ?_ ?_)
   | (with_reducible refine LeO.bind ?_ (fun _=>?_))
   | exact ih0 _ _ _
   | exact spec_l1Has.mono _ _ _
   | exact LeO.none _
   | refine LeO.ite ?_ ?_
   | refine LeO.bind ?_ (fun _=>?_)
set_option maxHeartbeats 8000000 in
set_option maxRecDepth 100000 in
theorem spec_l7Put.calls (k:Nat) (P0_:Nat→Prop) (A0:Option Addr) (c0:Nat) (l0:List Int) (a1:Int) (r:List Int) (w:World) (hs0:Kd.V (Kd.int .i64) 3 w w.heap.size (fun k_=>P0_ k_) (.slice A0 l0.length c0) l0) (h:spec_l7Put.f k l0 a1=some r) :
  Calls Try.prog 61 #[.slice A0 l0.length c0,.int .i64 a1] w fun e w'=>∃ v0_:Value,e=.returned (v0_)∧Kd.V (Kd.int .i64) 3 w' w.heap.size (fun k_=>(P0_ k_ ∨ w.heap.size≤k_)) v0_ r∧Below w.heap.size w w':=by
 have HO0:=qK (show Kd.V (Kd.int .i64) 3 w w.heap.size (fun k_=>(P0_ k_ ∨ w.heap.size≤k_)) (.slice A0 l0.length c0) l0 from Kd.V_mono hs0 (fun k_ hk=>.inl hk));have HB:=qK (Below.refl w.heap.size w);have H:((spec_l1Has.f k l0 a1).bind fun t136=>(if t136=true then (some l0) else (spec_l7Put.l0 k l0 a1 0)))=some r:=h;clear h;replace H:=Option.bind_eq_some_iff.mp H;obtain ⟨t136,A30,H⟩:=H;replace H:(if t136=true then (some l0) else (spec_l7Put.l0 k l0 a1 0))=some r:=H;have A3:=qK A30;clear A30;by_cases c4:t136=true
 ·subst c4;have H1:(some l0)=some r:=by rw [if_pos rfl] at H;exact H
  clear H;have H:=H1;clear H1;obtain rfl:=Option.some.inj H;go_enter Try.func61,Try.ntmps61
  go_wp2_with (first|((with_reducible refine gate_callee (f:=62) rfl ?_);refine goesL_ (some 9) rfl rfl Try.func62 (by kernel_rfl) rfl #[.slice A0 l0.length c0,.int .i64 a1] rfl (by (try simp only [mT,mC,mN]);first|done|rfl|(simp only [lD,lT];rfl)) ?_;(with_reducible refine (spec_l1Has.calls k _ _ l0 a1 true _ ?side1 ?side2 A3.out).mono ?_);(case side1=>repeat (first|exact (Kd.V_reads' HO0.out).2.2|(with_reducible first|refine cL ?_ _|refine cN ?_ _|refine cW ?_)));(case side2=>exact (Kd.V_reads' HO0.out).2.1);rintro e w' ⟨rfl,⟨nd,rfl⟩⟩;refine ⟨_,rfl,?_⟩))
  go_ret
  exact ⟨_,by first|rfl|(simp [errW_none,errW_some] <;> rfl)|(simp [*,errW_none,errW_some] <;> rfl),by (with_reducible repeat (first|apply Kd.V_alloc|apply Kd.V_drewN|apply Kd.V_drew));exact HO0.out,by repeat (first|(with_reducible first|exact HB.out|apply qA|apply qD|apply qO)|exact HB.out)⟩
 ·replace c4:=Bool.eq_false_iff.mpr c4;subst c4;have H1:(spec_l7Put.l0 k l0 a1 0)=some r:=by rw [if_neg (show ¬ (false=true) by decide)] at H;exact H
  clear H;have H:=H1;clear H1;have H':=qK H;clear H;go_enter Try.func61,Try.ntmps61
  go_wp2_with (first|((with_reducible refine gate_callee (f:=62) rfl ?_);refine goesL_ (some 9) rfl rfl Try.func62 (by kernel_rfl) rfl #[.slice A0 l0.length c0,.int .i64 a1] rfl (by (try simp only [mT,mC,mN]);first|done|rfl|(simp only [lD,lT];rfl)) ?_;(with_reducible refine (spec_l1Has.calls k _ _ l0 a1 false _ ?side1 ?side2 A3.out).mono ?_);(case side1=>repeat (first|exact (Kd.V_reads' HO0.out).2.2|(with_reducible first|refine cL ?_ _|refine cN ?_ _|refine cW ?_)));(case side2=>exact (Kd.V_reads' HO0.out).2.1);rintro e w' ⟨rfl,⟨nd,rfl⟩⟩;refine ⟨_,rfl,?_⟩))
  go_loopg [5] k (fun kq v5 w'=>∃ (x5_1:Int),v5=.int .i64 x5_1∧Aside0 (spec_l7Put.l0 kq l0 a1 x5_1=some r)∧Aside0 (kq≤k)∧Aside0 (Kd.V (Kd.int .i64) 3 w' w.heap.size (fun k_=>(P0_ k_ ∨ w.heap.size≤k_)) (.slice A0 l0.length c0) l0)∧Aside0 (Below w.heap.size w w'))
  case atStart=>exact ⟨(0),(by first|rfl|(simp;done)|(simp [*];done)),H',⟨Nat.le_refl _⟩,⟨by (with_reducible repeat (first|apply Kd.V_alloc|apply Kd.V_drewN|apply Kd.V_drew));exact HO0.out⟩,⟨by repeat (first|(with_reducible first|exact HB.out|apply qA|apply qD|apply qO)|exact HB.out)⟩⟩
  case round =>
   clear H';try clear p2
   try clear c4
   obtain ⟨x5_1,rfl,HA,HK1,HO_0,HB⟩:=hrel;cases gk with
   | zero=>exact absurd HA.out (by simp [spec_l7Put.l0])
   | succ k1 =>
    have H:=HA.out;clear HA;simp only [spec_l7Put.l0] at H;by_cases c5:x5_1 < (l0.length:Int)
    ·rw [if_pos c5] at H;have c5b0:decide (x5_1 < (l0.length:Int))=true:=decide_eq_true c5;clear c5;by_cases c6:0≤x5_1
     ·rw [if_pos c6] at H;have c6b0:decide (0≤x5_1)=true:=decide_eq_true c6;clear c6;by_cases c7:(rd l0 x5_1) < a1
      ·rw [if_pos c7] at H;have c7b0:decide ((rd l0 x5_1) < a1)=true:=decide_eq_true c7;clear c7;have H':=qK H;clear H;have p137:0≤(x5_1:Int):=of_decide_eq_true (by first|(with_reducible assumption)|assumption);have q137:x5_1 < (l0.length:Int):=of_decide_eq_true (by first|(with_reducible assumption)|assumption);obtain ⟨ad137,e137,hx137_0⟩:=Kd.at_int (Kd.V_reads' HO_0.out).2.2 x5_1 p137 q137;cases e137
       replace p137:=eq_true p137;replace q137:=eq_true q137;go_wp2
       go_roundg k1
       case measure=>have:=HK1.out;omega
       case rel=>exact ⟨(wrap64 (x5_1 + 1)),(by first|rfl|(simp;done)|(simp [*];done)),H',⟨by have:=HK1.out;omega⟩,⟨by (with_reducible repeat (first|apply Kd.V_alloc|apply Kd.V_drewN|apply Kd.V_drew));exact HO_0.out⟩,⟨by repeat (first|(with_reducible first|exact HB.out|apply qA|apply qD|apply qO)|exact HB.out)⟩⟩
      ·rw [if_neg c7] at H;have c7b0:decide ((rd l0 x5_1) < a1)=false:=decide_eq_false c7;clear c7;have c8b0:=eq_true (of_decide_eq_true (by first|(with_reducible assumption)|assumption):0≤x5_1);by_cases c9:x5_1≤(l0.length:Int)
       ·rw [if_pos c9] at H;have c9b0:=eq_true c9;have c9b1:decide (x5_1≤(l0.length:Int))=true:=decide_eq_true c9;clear c9;obtain ⟨y138,hy138⟩:∃ y_:List Int,y_=(l0.take (x5_1:Int).toNat):=⟨_,rfl⟩;replace H:(if ([]:List Int).length + y138.length < 17592186044416 then ((some (([]:List Int) ++ y138:List Int)).bind fun y143=>(if y143.length < 17592186044416 then ((some (y143 ++ [a1]:List Int)).bind fun y146=>((some (l0.drop (x5_1:Int).toNat:List Int)).bind fun y149=>(if y146.length + y149.length < 17592186044416 then (some (y146 ++ y149)) else (none)))) else (none))) else (none))=some r:=by first|(rw [hy138];with_reducible exact H)|(have H2_:=(Option.bind_some _ _).symm.trans H;rw [hy138];with_reducible exact H2_)|(have H2_:=(Option.bind_some _ _).symm.trans H;with_reducible exact H2_)|with_reducible exact H|(rw [hy138];exact H)|exact H
        have Ny138:=qK hy138;clear hy138;by_cases c10:([]:List Int).length + y138.length < 17592186044416
        ·rw [if_pos c10] at H;have LMc10:=qK c10;clear c10;obtain ⟨y143,hy143⟩:∃ y_:List Int,y_=(([]:List Int) ++ y138):=⟨_,rfl⟩;replace H:(if y143.length < 17592186044416 then ((some (y143 ++ [a1]:List Int)).bind fun y146=>((some (l0.drop (x5_1:Int).toNat:List Int)).bind fun y149=>(if y146.length + y149.length < 17592186044416 then (some (y146 ++ y149)) else (none)))) else (none))=some r:=by first|(rw [hy143];with_reducible exact H)|(have H2_:=(Option.bind_some _ _).symm.trans H;rw [hy143];with_reducible exact H2_)|(have H2_:=(Option.bind_some _ _).symm.trans H;with_reducible exact H2_)|with_reducible exact H|(rw [hy143];exact H)|exact H
         have Ny143:=qK hy143;clear hy143;by_cases c11:y143.length < 17592186044416
         ·rw [if_pos c11] at H;have LMc11:=qK c11;clear c11;obtain ⟨y146,hy146⟩:∃ y_:List Int,y_=(y143 ++ [a1]):=⟨_,rfl⟩;replace H:((some (l0.drop (x5_1:Int).toNat:List Int)).bind fun y149=>(if y146.length + y149.length < 17592186044416 then (some (y146 ++ y149)) else (none)))=some r:=by first|(rw [hy146];with_reducible exact H)|(have H2_:=(Option.bind_some _ _).symm.trans H;rw [hy146];with_reducible exact H2_)|(have H2_:=(Option.bind_some _ _).symm.trans H;with_reducible exact H2_)|with_reducible exact H|(rw [hy146];exact H)|exact H
          have Ny146:=qK hy146;clear hy146;have c12b0:=eq_true (of_decide_eq_true (by first|(with_reducible assumption)|assumption):0≤x5_1);have c13b0:=eq_true (of_decide_eq_true (by first|(with_reducible assumption)|assumption):x5_1≤(l0.length:Int));obtain ⟨y149,hy149⟩:∃ y_:List Int,y_=(l0.drop (x5_1:Int).toNat):=⟨_,rfl⟩;replace H:(if y146.length + y149.length < 17592186044416 then (some (y146 ++ y149)) else (none))=some r:=by first|(rw [hy149];with_reducible exact H)|(have H2_:=(Option.bind_some _ _).symm.trans H;rw [hy149];with_reducible exact H2_)|(have H2_:=(Option.bind_some _ _).symm.trans H;with_reducible exact H2_)|with_reducible exact H|(rw [hy149];exact H)|exact H
          have Ny149:=qK hy149;clear hy149;by_cases c14:y146.length + y149.length < 17592186044416
          ·rw [if_pos c14] at H;have LMc14:=qK c14;clear c14;obtain ⟨y154,hy154⟩:∃ y_:List Int,y_=(y146 ++ y149):=⟨_,rfl⟩;replace H:(some y154)=some r:=by first|(rw [hy154];with_reducible exact H)|(have H2_:=(Option.bind_some _ _).symm.trans H;rw [hy154];with_reducible exact H2_)|(have H2_:=(Option.bind_some _ _).symm.trans H;with_reducible exact H2_)|with_reducible exact H|(rw [hy154];exact H)|exact H
           have Ny154:=qK hy154;clear hy154;obtain rfl:=Option.some.inj H;have p137:0≤(x5_1:Int):=of_decide_eq_true (by first|(with_reducible assumption)|assumption);have q137:x5_1 < (l0.length:Int):=of_decide_eq_true (by first|(with_reducible assumption)|assumption);obtain ⟨ad137,e137,hx137_0⟩:=Kd.at_int (Kd.V_reads' HO_0.out).2.2 x5_1 p137 q137;cases e137
           replace p137:=eq_true p137;replace q137:=eq_true q137;have q15:(x5_1:Int)≤((l0.length:Int):Int):=of_decide_eq_true (by first|(with_reducible assumption)|assumption);obtain ⟨i015,hi015,_,hsz15,_⟩:=info_parts info3;have hroom15:l0.length≤c0:=(Kd.V_reads' HO_0.out).2.1;have hC15:Kd.F (Kd.int .i64) _ _ (some ad137) l0.length l0:=(Kd.V_at (base:=w.heap.size) HO_0.out).2.2;have hcut15:=cut_to (P:=Try.prog) 23 3 .i64 Try.underlying23 hi015 (some ad137) l0.length c0 x5_1 (of_decide_eq_true (by first|(with_reducible assumption)|assumption)) q15 hroom15;have hr15:=Kd.F_take (m:=(x5_1:Int).toNat) hC15 (by omega);have hy15:y138.length=(x5_1:Int).toNat:=(by rw [Ny138.out,lT];omega);rw [← Ny138.out] at hr15;rw [← hy15] at hcut15;have HO142:=qK (show Kd.V (Kd.int .i64) 3 _ w.heap.size _ (.slice (some ad137) y138.length c0) y138 from Kd.V_mk (by omega) hr15);have HC142:=qK (show y138.length≤c0 from by omega);clear hr15 hC15 hroom15 hi015 hsz15;have KY15:=qK hy15;clear hy15;replace q15:=eq_true q15;go_wp2_with (first|((with_reducible refine gate_builtin (b:=.append) (xs:=#[.tmp 25,.tmp 28]) rfl ?_);at_builtin;refine Kd.R_append_rows (Kd.int .i64) (w0:=w) w.heap.size rfl (.tmp 25) (.tmp 28) 23 3 (.int .i64 0) 8 rfl Try.underlying23 info3 rfl (by decide) (by omega) (.slice none 0 0) ([]:List Int) y138 _ _ _ (fun k_=>(w.heap.size≤k_)) (fun _=>False) rfl rfl ?aO ?aR (fun _ _ h=>h) (fun _ h=>h.elim) ?aF ?aB ?aS ?aL ?_;(case aR=>repeat (first|exact (Kd.V_reads' HO142.out).2.2|(with_reducible first|refine cL ?_ _|refine cN ?_ _|refine cW ?_)));(case aB=>exact (by repeat (with_reducible first|exact HB.out|apply qA|apply qD|apply qO)));(case aF=>exact (fun k_ hk=>(Nat.le_trans (qZ (by repeat (with_reducible first|exact HB.out|apply qA|apply qD|apply qO))) hk)));(case aO=>exact ((Kd.R_nil _ _ _ _ (fun k_=>(w.heap.size≤k_)))));(case aS=>exact (qZ (by repeat (with_reducible first|exact HB.out|apply qA|apply qD|apply qO))));(case aL=>have:=LMc10.out;omega);intro v144 w16 ho hb hg hat;rw [← Ny143.out] at ho;have n0_:=qK (Kd.V_afterv (Kd.V_apart_nil (by (with_reducible repeat (first|apply Kd.V_alloc|apply Kd.V_drewN|apply Kd.V_drew));exact HO_0.out)) hg hat);have n1_:=qK (Kd.V_afterv (Kd.V_apart_nil (by (with_reducible repeat (first|apply Kd.V_alloc|apply Kd.V_drewN|apply Kd.V_drew));exact HO142.out)) hg hat);have n2_:=qK (hb);have n3_:=qK (ho);clear HO_0;clear HO142;clear HB;have HO_0:=n0_;have HO142:=n1_;have HB:=n2_;have HO145:=n3_;clear n0_ n1_ n2_ n3_;clear ho hb hg hat)|((with_reducible refine gate_builtin (b:=.append) (xs:=#[.tmp 30,.tmp 32]) rfl ?_);at_builtin;refine Kd.R_append (Kd.int .i64) (w0:=w) w.heap.size rfl (.tmp 30) (.tmp 32) 23 3 (.int .i64 0) 8 rfl Try.underlying23 info3 rfl (by decide) (by omega) v144 y143 a1 [.int .i64 a1] (fun k_=>(w.heap.size≤k_)) (fun _=>False) rfl rfl ?aP (fun _ hk=>hk.elim) ?aF ?aO ?aB ?aS ?aL ?_;(case aP=>exact rfl);(case aB=>exact (by repeat (with_reducible first|exact HB.out|apply qA|apply qD|apply qO)));(case aF=>exact (fun k_ hk=>(Nat.le_trans (qZ (by repeat (with_reducible first|exact HB.out|apply qA|apply qD|apply qO))) hk)));(case aO=>exact (by (with_reducible repeat (first|apply rL|apply rN|apply rW));exact HO145.out));(case aS=>exact (qZ (by repeat (with_reducible first|exact HB.out|apply qA|apply qD|apply qO))));(case aL=>have:=LMc11.out;omega);intro v147 w17 ho hb hg hat;rw [← Ny146.out] at ho;have n0_:=qK (Kd.V_afterv (ok:=(fun k_=>(P0_ k_ ∨ w.heap.size≤k_))) (by (with_reducible repeat (first|apply Kd.V_alloc|apply Kd.V_drewN|apply Kd.V_drew));exact HO_0.out) hg hat);have n1_:=qK (Kd.V_afterv (ok:=(fun k_=>(P0_ k_ ∨ w.heap.size≤k_))) (by (with_reducible repeat (first|apply Kd.V_alloc|apply Kd.V_drewN|apply Kd.V_drew));exact HO142.out) hg hat);have n2_:=qK (hb);have n3_:=qK (ho);clear HO_0;clear HO142;clear HB;clear HO145;have HO_0:=n0_;have HO142:=n1_;have HB:=n2_;have HO148:=n3_;clear n0_ n1_ n2_ n3_;clear ho hb hg hat;have q18:(x5_1:Int)≤((l0.length:Int):Int):=of_decide_eq_true (by first|(with_reducible assumption)|assumption);obtain ⟨i018,hi018,_,hsz18,_⟩:=info_parts info3;have hroom18:l0.length≤c0:=(Kd.V_reads' HO_0.out).2.1;have hC18:Kd.F (Kd.int .i64) _ _ (some ad137) l0.length l0:=(Kd.V_at (base:=w.heap.size) HO_0.out).2.2;have q018:(0:Int)≤(x5_1:Int):=of_decide_eq_true (by first|(with_reducible assumption)|assumption);have hcut18:=cut_from (P:=Try.prog) 23 3 .i64 Try.underlying23 hi018 1 hsz18 (some ad137) l0.length c0 x5_1 q018 q18;have hr18:=Kd.F_cut (m:=(x5_1:Int).toNat) (c:=c0) hC18 (by omega) hroom18;obtain ⟨A18,hA18⟩:∃ A1,A1=(if c0=(x5_1:Int).toNat then (some ad137) else ((some ad137):Option Addr).map (·.add ((x5_1:Int).toNat * 1))):=⟨_,rfl⟩;obtain ⟨c18,hc18⟩:∃ c1,c1=c0 - (x5_1:Int).toNat:=⟨_,rfl⟩;have hy18:y149.length=l0.length - (x5_1:Int).toNat:=(by rw [Ny149.out,lD] <;> omega);rw [show (l0).drop (x5_1:Int).toNat=y149 from Ny149.out.symm] at hr18;replace hr18:Kd.F (Kd.int .i64) _ _ A18 y149.length y149:=(by rw [hA18];exact hr18);rw [← hy18,← hA18,← hc18] at hcut18;have HO153:=qK (show Kd.V (Kd.int .i64) 3 _ w.heap.size _ (.slice A18 y149.length c18) y149 from Kd.V_mk (by rw [hy18,hc18];exact Nat.sub_le_sub_right hroom18 _) hr18);have HC153:=qK (show y149.length≤c18 from by rw [hy18,hc18];exact Nat.sub_le_sub_right hroom18 _);clear hr18 hC18 hroom18 hi018 hsz18 hc18;have KY18:=qK hy18;have KA18:=qK hA18;clear hy18 hA18;replace q18:=eq_true q18)|((with_reducible refine gate_builtin (b:=.append) (xs:=#[.tmp 34,.tmp 37]) rfl ?_);at_builtin;refine Kd.R_append_rows (Kd.int .i64) (w0:=w) w.heap.size rfl (.tmp 34) (.tmp 37) 23 3 (.int .i64 0) 8 rfl Try.underlying23 info3 rfl (by decide) (by omega) v147 y146 y149 _ _ _ (fun k_=>(w.heap.size≤k_)) (fun _=>False) rfl rfl ?aO ?aR (fun _ _ h=>h) (fun _ h=>h.elim) ?aF ?aB ?aS ?aL ?_;(case aR=>repeat (first|exact (Kd.V_reads' HO153.out).2.2|(with_reducible first|refine cL ?_ _|refine cN ?_ _|refine cW ?_)));(case aB=>exact (by repeat (with_reducible first|exact HB.out|apply qA|apply qD|apply qO)));(case aF=>exact (fun k_ hk=>(Nat.le_trans (qZ (by repeat (with_reducible first|exact HB.out|apply qA|apply qD|apply qO))) hk)));(case aO=>exact (by (with_reducible repeat (first|apply rL|apply rN|apply rW));exact HO148.out));(case aS=>exact (qZ (by repeat (with_reducible first|exact HB.out|apply qA|apply qD|apply qO))));(case aL=>have:=LMc14.out;omega);intro v155 w19 ho hb hg hat;rw [← Ny154.out] at ho;have n0_:=qK (Kd.V_afterv (ok:=(fun k_=>(P0_ k_ ∨ w.heap.size≤k_))) (by (with_reducible repeat (first|apply Kd.V_alloc|apply Kd.V_drewN|apply Kd.V_drew));exact HO_0.out) hg hat);have n1_:=qK (Kd.V_afterv (ok:=(fun k_=>(P0_ k_ ∨ w.heap.size≤k_))) (by (with_reducible repeat (first|apply Kd.V_alloc|apply Kd.V_drewN|apply Kd.V_drew));exact HO142.out) hg hat);have n2_:=qK (Kd.V_afterv (ok:=(fun k_=>(P0_ k_ ∨ w.heap.size≤k_))) (by (with_reducible repeat (first|apply Kd.V_alloc|apply Kd.V_drewN|apply Kd.V_drew));exact HO153.out) hg hat);have n3_:=qK (hb);have n4_:=qK (ho);clear HO_0;clear HO142;clear HO153;clear HB;clear HO148;have HO_0:=n0_;have HO142:=n1_;have HO153:=n2_;have HB:=n3_;have HO156:=n4_;clear n0_ n1_ n2_ n3_ n4_;clear ho hb hg hat))
           go_ret
           exact ⟨_,by first|rfl|(simp [errW_none,errW_some] <;> rfl)|(simp [*,errW_none,errW_some] <;> rfl),Kd.V_mono (Kd.R_V (by (with_reducible repeat (first|apply rL|apply rN|apply rW));exact HO156.out)) (fun k_ hk=>by first|exact ⟨(.inr (hk.1)),hk.2⟩|exact (.inr (hk))),by repeat (first|(with_reducible first|exact HB.out|apply qA|apply qD|apply qO)|exact HB.out)⟩
          ·rw [if_neg c14] at H;exact absurd H (by simp)
         ·rw [if_neg c11] at H;exact absurd H (by simp)
        ·rw [if_neg c10] at H;exact absurd H (by simp)
       ·rw [if_neg c9] at H;exact absurd H (by simp)
     ·rw [if_neg c6] at H;exact absurd H (by simp)
    ·rw [if_neg c5] at H;have c5b0:decide (x5_1 < (l0.length:Int))=false:=decide_eq_false c5;clear c5;by_cases c20:0≤x5_1
     ·rw [if_pos c20] at H;have c20b0:=eq_true c20;have c20b1:decide (0≤x5_1)=true:=decide_eq_true c20;clear c20;by_cases c21:x5_1≤(l0.length:Int)
      ·rw [if_pos c21] at H;have c21b0:=eq_true c21;have c21b1:decide (x5_1≤(l0.length:Int))=true:=decide_eq_true c21;clear c21;obtain ⟨y157,hy157⟩:∃ y_:List Int,y_=(l0.take (x5_1:Int).toNat):=⟨_,rfl⟩;replace H:(if ([]:List Int).length + y157.length < 17592186044416 then ((some (([]:List Int) ++ y157:List Int)).bind fun y162=>(if y162.length < 17592186044416 then ((some (y162 ++ [a1]:List Int)).bind fun y165=>((some (l0.drop (x5_1:Int).toNat:List Int)).bind fun y168=>(if y165.length + y168.length < 17592186044416 then (some (y165 ++ y168)) else (none)))) else (none))) else (none))=some r:=by first|(rw [hy157];with_reducible exact H)|(have H2_:=(Option.bind_some _ _).symm.trans H;rw [hy157];with_reducible exact H2_)|(have H2_:=(Option.bind_some _ _).symm.trans H;with_reducible exact H2_)|with_reducible exact H|(rw [hy157];exact H)|exact H
       have Ny157:=qK hy157;clear hy157;by_cases c22:([]:List Int).length + y157.length < 17592186044416
       ·rw [if_pos c22] at H;have LMc22:=qK c22;clear c22;obtain ⟨y162,hy162⟩:∃ y_:List Int,y_=(([]:List Int) ++ y157):=⟨_,rfl⟩;replace H:(if y162.length < 17592186044416 then ((some (y162 ++ [a1]:List Int)).bind fun y165=>((some (l0.drop (x5_1:Int).toNat:List Int)).bind fun y168=>(if y165.length + y168.length < 17592186044416 then (some (y165 ++ y168)) else (none)))) else (none))=some r:=by first|(rw [hy162];with_reducible exact H)|(have H2_:=(Option.bind_some _ _).symm.trans H;rw [hy162];with_reducible exact H2_)|(have H2_:=(Option.bind_some _ _).symm.trans H;with_reducible exact H2_)|with_reducible exact H|(rw [hy162];exact H)|exact H
        have Ny162:=qK hy162;clear hy162;by_cases c23:y162.length < 17592186044416
        ·rw [if_pos c23] at H;have LMc23:=qK c23;clear c23;obtain ⟨y165,hy165⟩:∃ y_:List Int,y_=(y162 ++ [a1]):=⟨_,rfl⟩;replace H:((some (l0.drop (x5_1:Int).toNat:List Int)).bind fun y168=>(if y165.length + y168.length < 17592186044416 then (some (y165 ++ y168)) else (none)))=some r:=by first|(rw [hy165];with_reducible exact H)|(have H2_:=(Option.bind_some _ _).symm.trans H;rw [hy165];with_reducible exact H2_)|(have H2_:=(Option.bind_some _ _).symm.trans H;with_reducible exact H2_)|with_reducible exact H|(rw [hy165];exact H)|exact H
         have Ny165:=qK hy165;clear hy165;have c24b0:=eq_true (of_decide_eq_true (by first|(with_reducible assumption)|assumption):0≤x5_1);have c25b0:=eq_true (of_decide_eq_true (by first|(with_reducible assumption)|assumption):x5_1≤(l0.length:Int));obtain ⟨y168,hy168⟩:∃ y_:List Int,y_=(l0.drop (x5_1:Int).toNat):=⟨_,rfl⟩;replace H:(if y165.length + y168.length < 17592186044416 then (some (y165 ++ y168)) else (none))=some r:=by first|(rw [hy168];with_reducible exact H)|(have H2_:=(Option.bind_some _ _).symm.trans H;rw [hy168];with_reducible exact H2_)|(have H2_:=(Option.bind_some _ _).symm.trans H;with_reducible exact H2_)|with_reducible exact H|(rw [hy168];exact H)|exact H
         have Ny168:=qK hy168;clear hy168;by_cases c26:y165.length + y168.length < 17592186044416
         ·rw [if_pos c26] at H;have LMc26:=qK c26;clear c26;obtain ⟨y173,hy173⟩:∃ y_:List Int,y_=(y165 ++ y168):=⟨_,rfl⟩;replace H:(some y173)=some r:=by first|(rw [hy173];with_reducible exact H)|(have H2_:=(Option.bind_some _ _).symm.trans H;rw [hy173];with_reducible exact H2_)|(have H2_:=(Option.bind_some _ _).symm.trans H;with_reducible exact H2_)|with_reducible exact H|(rw [hy173];exact H)|exact H
          have Ny173:=qK hy173;clear hy173;obtain rfl:=Option.some.inj H;have q27:(x5_1:Int)≤((l0.length:Int):Int):=of_decide_eq_true (by first|(with_reducible assumption)|assumption);obtain ⟨i027,hi027,_,hsz27,_⟩:=info_parts info3;have hroom27:l0.length≤c0:=(Kd.V_reads' HO_0.out).2.1;have hC27:Kd.F (Kd.int .i64) _ _ A0 l0.length l0:=(Kd.V_at (base:=w.heap.size) HO_0.out).2.2;have hcut27:=cut_to (P:=Try.prog) 23 3 .i64 Try.underlying23 hi027 A0 l0.length c0 x5_1 (of_decide_eq_true (by first|(with_reducible assumption)|assumption)) q27 hroom27;have hr27:=Kd.F_take (m:=(x5_1:Int).toNat) hC27 (by omega);have hy27:y157.length=(x5_1:Int).toNat:=(by rw [Ny157.out,lT];omega);rw [← Ny157.out] at hr27;rw [← hy27] at hcut27;have HO161:=qK (show Kd.V (Kd.int .i64) 3 _ w.heap.size _ (.slice A0 y157.length c0) y157 from Kd.V_mk (by omega) hr27);have HC161:=qK (show y157.length≤c0 from by omega);clear hr27 hC27 hroom27 hi027 hsz27;have KY27:=qK hy27;clear hy27;replace q27:=eq_true q27;go_wp2_with (first|((with_reducible refine gate_builtin (b:=.append) (xs:=#[.tmp 25,.tmp 28]) rfl ?_);at_builtin;refine Kd.R_append_rows (Kd.int .i64) (w0:=w) w.heap.size rfl (.tmp 25) (.tmp 28) 23 3 (.int .i64 0) 8 rfl Try.underlying23 info3 rfl (by decide) (by omega) (.slice none 0 0) ([]:List Int) y157 _ _ _ (fun k_=>(w.heap.size≤k_)) (fun _=>False) rfl rfl ?aO ?aR (fun _ _ h=>h) (fun _ h=>h.elim) ?aF ?aB ?aS ?aL ?_;(case aR=>repeat (first|exact (Kd.V_reads' HO161.out).2.2|(with_reducible first|refine cL ?_ _|refine cN ?_ _|refine cW ?_)));(case aB=>exact (by repeat (with_reducible first|exact HB.out|apply qA|apply qD|apply qO)));(case aF=>exact (fun k_ hk=>(Nat.le_trans (qZ (by repeat (with_reducible first|exact HB.out|apply qA|apply qD|apply qO))) hk)));(case aO=>exact ((Kd.R_nil _ _ _ _ (fun k_=>(w.heap.size≤k_)))));(case aS=>exact (qZ (by repeat (with_reducible first|exact HB.out|apply qA|apply qD|apply qO))));(case aL=>have:=LMc22.out;omega);intro v163 w28 ho hb hg hat;rw [← Ny162.out] at ho;have n0_:=qK (Kd.V_afterv (Kd.V_apart_nil (by (with_reducible repeat (first|apply Kd.V_alloc|apply Kd.V_drewN|apply Kd.V_drew));exact HO_0.out)) hg hat);have n1_:=qK (Kd.V_afterv (Kd.V_apart_nil (by (with_reducible repeat (first|apply Kd.V_alloc|apply Kd.V_drewN|apply Kd.V_drew));exact HO161.out)) hg hat);have n2_:=qK (hb);have n3_:=qK (ho);clear HO_0;clear HO161;clear HB;have HO_0:=n0_;have HO161:=n1_;have HB:=n2_;have HO164:=n3_;clear n0_ n1_ n2_ n3_;clear ho hb hg hat)|((with_reducible refine gate_builtin (b:=.append) (xs:=#[.tmp 30,.tmp 32]) rfl ?_);at_builtin;refine Kd.R_append (Kd.int .i64) (w0:=w) w.heap.size rfl (.tmp 30) (.tmp 32) 23 3 (.int .i64 0) 8 rfl Try.underlying23 info3 rfl (by decide) (by omega) v163 y162 a1 [.int .i64 a1] (fun k_=>(w.heap.size≤k_)) (fun _=>False) rfl rfl ?aP (fun _ hk=>hk.elim) ?aF ?aO ?aB ?aS ?aL ?_;(case aP=>exact rfl);(case aB=>exact (by repeat (with_reducible first|exact HB.out|apply qA|apply qD|apply qO)));(case aF=>exact (fun k_ hk=>(Nat.le_trans (qZ (by repeat (with_reducible first|exact HB.out|apply qA|apply qD|apply qO))) hk)));(case aO=>exact (by (with_reducible repeat (first|apply rL|apply rN|apply rW));exact HO164.out));(case aS=>exact (qZ (by repeat (with_reducible first|exact HB.out|apply qA|apply qD|apply qO))));(case aL=>have:=LMc23.out;omega);intro v166 w29 ho hb hg hat;rw [← Ny165.out] at ho;have n0_:=qK (Kd.V_afterv (ok:=(fun k_=>(P0_ k_ ∨ w.heap.size≤k_))) (by (with_reducible repeat (first|apply Kd.V_alloc|apply Kd.V_drewN|apply Kd.V_drew));exact HO_0.out) hg hat);have n1_:=qK (Kd.V_afterv (ok:=(fun k_=>(P0_ k_ ∨ w.heap.size≤k_))) (by (with_reducible repeat (first|apply Kd.V_alloc|apply Kd.V_drewN|apply Kd.V_drew));exact HO161.out) hg hat);have n2_:=qK (hb);have n3_:=qK (ho);clear HO_0;clear HO161;clear HB;clear HO164;have HO_0:=n0_;have HO161:=n1_;have HB:=n2_;have HO167:=n3_;clear n0_ n1_ n2_ n3_;clear ho hb hg hat;have q30:(x5_1:Int)≤((l0.length:Int):Int):=of_decide_eq_true (by first|(with_reducible assumption)|assumption);obtain ⟨i030,hi030,_,hsz30,_⟩:=info_parts info3;have hroom30:l0.length≤c0:=(Kd.V_reads' HO_0.out).2.1;have hC30:Kd.F (Kd.int .i64) _ _ A0 l0.length l0:=(Kd.V_at (base:=w.heap.size) HO_0.out).2.2;have q030:(0:Int)≤(x5_1:Int):=of_decide_eq_true (by first|(with_reducible assumption)|assumption);have hcut30:=cut_from (P:=Try.prog) 23 3 .i64 Try.underlying23 hi030 1 hsz30 A0 l0.length c0 x5_1 q030 q30;have hr30:=Kd.F_cut (m:=(x5_1:Int).toNat) (c:=c0) hC30 (by omega) hroom30;obtain ⟨A30,hA30⟩:∃ A1,A1=(if c0=(x5_1:Int).toNat then A0 else (A0:Option Addr).map (·.add ((x5_1:Int).toNat * 1))):=⟨_,rfl⟩;obtain ⟨c30,hc30⟩:∃ c1,c1=c0 - (x5_1:Int).toNat:=⟨_,rfl⟩;have hy30:y168.length=l0.length - (x5_1:Int).toNat:=(by rw [Ny168.out,lD] <;> omega);rw [show (l0).drop (x5_1:Int).toNat=y168 from Ny168.out.symm] at hr30;replace hr30:Kd.F (Kd.int .i64) _ _ A30 y168.length y168:=(by rw [hA30];exact hr30);rw [← hy30,← hA30,← hc30] at hcut30;have HO172:=qK (show Kd.V (Kd.int .i64) 3 _ w.heap.size _ (.slice A30 y168.length c30) y168 from Kd.V_mk (by rw [hy30,hc30];exact Nat.sub_le_sub_right hroom30 _) hr30);have HC172:=qK (show y168.length≤c30 from by rw [hy30,hc30];exact Nat.sub_le_sub_right hroom30 _);clear hr30 hC30 hroom30 hi030 hsz30 hc30;have KY30:=qK hy30;have KA30:=qK hA30;clear hy30 hA30;replace q30:=eq_true q30)|((with_reducible refine gate_builtin (b:=.append) (xs:=#[.tmp 34,.tmp 37]) rfl ?_);at_builtin;refine Kd.R_append_rows (Kd.int .i64) (w0:=w) w.heap.size rfl (.tmp 34) (.tmp 37) 23 3 (.int .i64 0) 8 rfl Try.underlying23 info3 rfl (by decide) (by omega) v166 y165 y168 _ _ _ (fun k_=>(w.heap.size≤k_)) (fun _=>False) rfl rfl ?aO ?aR (fun _ _ h=>h) (fun _ h=>h.elim) ?aF ?aB ?aS ?aL ?_;(case aR=>repeat (first|exact (Kd.V_reads' HO172.out).2.2|(with_reducible first|refine cL ?_ _|refine cN ?_ _|refine cW ?_)));(case aB=>exact (by repeat (with_reducible first|exact HB.out|apply qA|apply qD|apply qO)));(case aF=>exact (fun k_ hk=>(Nat.le_trans (qZ (by repeat (with_reducible first|exact HB.out|apply qA|apply qD|apply qO))) hk)));(case aO=>exact (by (with_reducible repeat (first|apply rL|apply rN|apply rW));exact HO167.out));(case aS=>exact (qZ (by repeat (with_reducible first|exact HB.out|apply qA|apply qD|apply qO))));(case aL=>have:=LMc26.out;omega);intro v174 w31 ho hb hg hat;rw [← Ny173.out] at ho;have n0_:=qK (Kd.V_afterv (ok:=(fun k_=>(P0_ k_ ∨ w.heap.size≤k_))) (by (with_reducible repeat (first|apply Kd.V_alloc|apply Kd.V_drewN|apply Kd.V_drew));exact HO_0.out) hg hat);have n1_:=qK (Kd.V_afterv (ok:=(fun k_=>(P0_ k_ ∨ w.heap.size≤k_))) (by (with_reducible repeat (first|apply Kd.V_alloc|apply Kd.V_drewN|apply Kd.V_drew));exact HO161.out) hg hat);have n2_:=qK (Kd.V_afterv (ok:=(fun k_=>(P0_ k_ ∨ w.heap.size≤k_))) (by (with_reducible repeat (first|apply Kd.V_alloc|apply Kd.V_drewN|apply Kd.V_drew));exact HO172.out) hg hat);have n3_:=qK (hb);have n4_:=qK (ho);clear HO_0;clear HO161;clear HO172;clear HB;clear HO167;have HO_0:=n0_;have HO161:=n1_;have HO172:=n2_;have HB:=n3_;have HO175:=n4_;clear n0_ n1_ n2_ n3_ n4_;clear ho hb hg hat))
          go_ret
          exact ⟨_,by first|rfl|(simp [errW_none,errW_some] <;> rfl)|(simp [*,errW_none,errW_some] <;> rfl),Kd.V_mono (Kd.R_V (by (with_reducible repeat (first|apply rL|apply rN|apply rW));exact HO175.out)) (fun k_ hk=>by first|exact ⟨(.inr (hk.1)),hk.2⟩|exact (.inr (hk))),by repeat (first|(with_reducible first|exact HB.out|apply qA|apply qD|apply qO)|exact HB.out)⟩
         ·rw [if_neg c26] at H;exact absurd H (by simp)
        ·rw [if_neg c23] at H;exact absurd H (by simp)
       ·rw [if_neg c22] at H;exact absurd H (by simp)
      ·rw [if_neg c21] at H;exact absurd H (by simp)
     ·rw [if_neg c20] at H;exact absurd H (by simp)

end Go.Proofs.Ytnkdpagkmljbnaa.PFnExactIsNormal
