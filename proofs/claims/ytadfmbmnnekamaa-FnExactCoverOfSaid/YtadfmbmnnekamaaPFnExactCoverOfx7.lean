/-
  A text of this claim's own, printed by a program of the session (wip/tools/xprint.py): functions of the program as Lean functions, each with what its call comes to.
-/
import Derived.Test.YtadfmbmnnekamaaPFnExactCoverOfx0
import Derived.Test.YtadfmbmnnekamaaPFnExactCoverOfx2
import Derived.Test.YtadfmbmnnekamaaPFnExactCoverOfx3
import Derived.Test.YtadfmbmnnekamaaPFnExactCoverOfx4
import Derived.Test.YtadfmbmnnekamaaPFnExactCoverOfx6
namespace Go.Proofs.Ytadfmbmnnekamaa.PFnExactCoverOf
open Go.Proofs.YtadfmbmnnekamaaW.PrintWords renaming pw_below_drewN → qD, blk_cell → qC, below_drew1 → qO, below_alloc → qA, blk_frozen → qF, below_set → qS, blk_drewN → qN, blk_alloc → qL, blk_drew → qW, below_size → qZ, below_step → qT, blk_below → qB, blk_far → qR, blk_put → qP
open Go.Proofs.YtadfmbmnnekamaaW.PrintWords.Aside0 renaming mk → qK
open Bool renaming true → Y, false → Z
open List renaming setIfInBounds_toArray → sIb, set_cons_zero → sZ, set_cons_succ → sS, map_toArray → mT, map_cons → mC, map_nil → mN, length_drop → lD, length_take → lT
open Go.Proofs.YtadfmbmnnekamaaW.PrintWords.Kd renaming C_alloc → cL, C_drewN → cN, C_drew → cW, C_below → cB, R_alloc → rL, R_drewN → rN, R_drew → rW, R_below → rB
open Go.RowKit Go.Proofs.YtadfmbmnnekamaaW.PrintWords Go.Proofs.YtadfmbmnnekamaaW.PrintLast Go.Proofs.YtadfmbmnnekamaaW.PrintMore
attribute [local go_sem] max2_int min2_int max_two min_two max_three min_three max_four min_four   -- for this text's walks alone
set_option linter.unusedVariables false
set_option linter.unusedSimpArgs false

/-! ### laws_eqIntS: function 55 -/
def laws_eqIntS.l0 : Nat→List Int→List Int→Int→Option (Bool)
 | 0,_,_,_=>none
 | k + 1,x0,x1,x5=>if x5 < (x0.length:Int) then (if 0≤x5 then (if x5 < (x1.length:Int) then (if (rd x0 x5)=(rd x1 x5) then (laws_eqIntS.l0 k x0 x1 (wrap64 (x5 + 1))) else (none)) else (none)) else (none)) else (some true)
def laws_eqIntS.f (k:Nat) (l0:List Int) (l1:List Int):Option (Bool):=if (l0.length:Int)=(l1.length:Int) then (laws_eqIntS.l0 k l0 l1 0) else (none)
theorem laws_eqIntS.mono_l : ∀ k,(∀ y0 y1 y2,LeO (laws_eqIntS.l0 k y0 y1 y2) (laws_eqIntS.l0 (k + 1) y0 y1 y2))
 | 0=>fun _ _ _ r h=>by simp [laws_eqIntS.l0] at h
 | k + 1=>by
  have ih0:=laws_eqIntS.mono_l k
  ·intro y0 y1 y2;unfold laws_eqIntS.l0
   repeat' first
   | (with_reducible exact ih0 _ _ _)
   | (with_reducible exact LeO.refl _)
   | (with_reducible exact LeO.none _)
   | (with_reducible refine LeO.ite ?_ ?_)
   | (with_reducible refine LeO.bind ?_ (fun _=>?_))
   | exact ih0 _ _ _
   | exact LeO.none _
   | refine LeO.ite ?_ ?_
   | refine LeO.bind ?_ (fun _=>?_)
theorem laws_eqIntS.mono : ∀ a0 a1 k,LeO (laws_eqIntS.f k a0 a1) (laws_eqIntS.f (k + 1) a0 a1):=by
 intro a0 a1 k;have ih0:=laws_eqIntS.mono_l k;unfold laws_eqIntS.f
 repeat' first
   | (with_reducible exact ih0 _ _ _)
   | (with_reducible exact LeO.refl _)
   | (with_reducible exact LeO.none _)
   | (with_reducible refine LeO.ite ?_ ?_)
   | (with_reducible refine LeO.bind ?_ (fun _=>?_))
   | exact ih0 _ _ _
   | exact LeO.none _
   | refine LeO.ite ?_ ?_
   | refine LeO.bind ?_ (fun _=>?_)
set_option maxHeartbeats 8000000 in
set_option maxRecDepth 100000 in
theorem laws_eqIntS.calls (k:Nat) (A0:Option Addr) (c0:Nat) (l0:List Int) (A1:Option Addr) (c1:Nat) (l1:List Int) (r:Bool) (w:World) (hr0:Kd.C (Kd.int .i64) w A0 l0.length l0) (hc0:l0.length≤c0) (hr1:Kd.C (Kd.int .i64) w A1 l1.length l1) (hc1:l1.length≤c1) (h:laws_eqIntS.f k l0 l1=some r) :
  Calls Try.prog 55 #[.slice A0 l0.length c0,.slice A1 l1.length c1] w fun e w'=>e=.returned (.bool r)∧Drawn0 w w':=by
 have HR0:=qK hr0;have HC0:=qK hc0;clear hr0 hc0;have HR1:=qK hr1;have HC1:=qK hc1;clear hr1 hc1;have H:(if (l0.length:Int)=(l1.length:Int) then (laws_eqIntS.l0 k l0 l1 0) else (none))=some r:=h;clear h;by_cases c3:(l0.length:Int)=(l1.length:Int)
 ·rw [if_pos c3] at H;have c3b0:((l0.length:Int) == (l1.length:Int))=true:=beq_iff_eq.mpr c3;have c3b1:((l0.length:Int) != (l1.length:Int))=false:=bne_eq_false_iff_eq.mpr c3;have c3b2:(l0.length == l1.length)=true:=by first|simpa using c3|(simp at c3 ⊢;omega)
  clear c3;have H':=qK H;clear H;go_enter Try.func55,Try.ntmps55
  go_wp2
  repeat (go_quiet (fail);try go_wp2)
  go_loopg [5] k (fun kq v5 w'=>∃ (x5_1:Int),v5=.int .i64 x5_1∧Aside0 (laws_eqIntS.l0 kq l0 l1 x5_1=some r)∧Aside0 (kq≤k)∧Drawn0 w w')
  case atStart=>exact ⟨(0),(by first|rfl|(simp;done)|(simp [*];done)),H',⟨Nat.le_refl _⟩,by repeat (first|exact Drawn0.refl _|apply Drawn0.step)⟩
  case round =>
   clear H';try clear c1
   try clear p2
   try clear c3
   try clear c3b0
   try clear c3b1
   try clear c3b2
   obtain ⟨x5_1,rfl,HA,HK1,⟨m1,rfl⟩⟩:=hrel;cases gk with
   | zero=>exact absurd HA.out (by simp [laws_eqIntS.l0])
   | succ k1 =>
    have H:=HA.out;clear HA;simp only [laws_eqIntS.l0] at H;by_cases c4:x5_1 < (l0.length:Int)
    ·rw [if_pos c4] at H;have c4b0:decide (x5_1 < (l0.length:Int))=true:=decide_eq_true c4;clear c4;by_cases c5:0≤x5_1
     ·rw [if_pos c5] at H;have c5b0:decide (0≤x5_1)=true:=decide_eq_true c5;clear c5;by_cases c6:x5_1 < (l1.length:Int)
      ·rw [if_pos c6] at H;have c6b0:decide (x5_1 < (l1.length:Int))=true:=decide_eq_true c6;clear c6;by_cases c7:(rd l0 x5_1)=(rd l1 x5_1)
       ·rw [if_pos c7] at H;have c7b0:((rd l0 x5_1) == (rd l1 x5_1))=true:=beq_iff_eq.mpr c7;have c7b1:((rd l0 x5_1) != (rd l1 x5_1))=false:=bne_eq_false_iff_eq.mpr c7;clear c7;have H':=qK H;clear H;have p334:0≤(x5_1:Int):=of_decide_eq_true (by first|(with_reducible assumption)|assumption);have q334:x5_1 < (l0.length:Int):=of_decide_eq_true (by first|(with_reducible assumption)|assumption);obtain ⟨ad334,e334,hx334_0⟩:=Kd.at_int HR0.out x5_1 p334 q334;cases e334
        replace p334:=eq_true p334;replace q334:=eq_true q334;have p335:0≤(x5_1:Int):=of_decide_eq_true (by first|(with_reducible assumption)|assumption);have q335:x5_1 < (l1.length:Int):=of_decide_eq_true (by first|(with_reducible assumption)|assumption);obtain ⟨ad335,e335,hx335_0⟩:=Kd.at_int HR1.out x5_1 p335 q335;cases e335
        replace p335:=eq_true p335;replace q335:=eq_true q335;go_wp2
        repeat (go_quiet (fail);try go_wp2)
        go_roundg k1
        case measure=>have:=HK1.out;omega
        case rel=>exact ⟨(wrap64 (x5_1 + 1)),(by first|rfl|(simp;done)|(simp [*];done)),H',⟨by have:=HK1.out;omega⟩,by repeat (first|exact Drawn0.refl _|apply Drawn0.step)⟩
       ·rw [if_neg c7] at H;exact absurd H (by simp)
      ·rw [if_neg c6] at H;exact absurd H (by simp)
     ·rw [if_neg c5] at H;exact absurd H (by simp)
    ·rw [if_neg c4] at H;have c4b0:decide (x5_1 < (l0.length:Int))=false:=decide_eq_false c4;clear c4;obtain rfl:=Option.some.inj H;go_wp2
     repeat (go_quiet (fail);try go_wp2)
     go_ret
     exact ⟨by first|rfl|(simp;done)|(simp [*];done),by repeat (first|exact Drawn0.refl _|apply Drawn0.step)⟩
 ·rw [if_neg c3] at H;exact absurd H (by simp)

/-! ### laws_eqDepend: function 30 -/
def laws_eqDepend.f (k:Nat) (l0_0:List Int) (l0_1:List Int) (l1_0:List Int) (l1_1:List Int):Option (Bool):=(laws_eqIntS.f k l0_0 l1_0).bind fun t338=>(if t338=true then ((laws_eqIntS.f k l0_1 l1_1).bind fun t339=>(if t339=true then (some true) else (none))) else (none))
theorem laws_eqDepend.mono : ∀ a0 a1 a2 a3 k,LeO (laws_eqDepend.f k a0 a1 a2 a3) (laws_eqDepend.f (k + 1) a0 a1 a2 a3):=by
 intro a0 a1 a2 a3 k;unfold laws_eqDepend.f
 repeat' first
   | (with_reducible exact laws_eqIntS.mono _ _ _)
   | (with_reducible exact LeO.refl _)
   | (with_reducible exact LeO.none _)
   | (with_reducible refine LeO.ite ?_ ?_)
   | (with_reducible refine LeO.bind ?_ (fun _=>?_))
   | exact laws_eqIntS.mono _ _ _
   | exact LeO.none _
   | refine LeO.ite ?_ ?_
   | refine LeO.bind ?_ (fun _=>?_)
set_option maxHeartbeats 8000000 in
set_option maxRecDepth 100000 in
theorem laws_eqDepend.calls (k:Nat) (A0_0:Option Addr) (c0_0:Nat) (l0_0:List Int) (A0_1:Option Addr) (c0_1:Nat) (l0_1:List Int) (A1_0:Option Addr) (c1_0:Nat) (l1_0:List Int) (A1_1:Option Addr) (c1_1:Nat) (l1_1:List Int) (r:Bool) (w:World) (hr0_0:Kd.C (Kd.int .i64) w A0_0 l0_0.length l0_0) (hc0_0:l0_0.length≤c0_0) (hr0_1:Kd.C (Kd.int .i64) w A0_1 l0_1.length l0_1) (hc0_1:l0_1.length≤c0_1) (hr1_0:Kd.C (Kd.int .i64) w A1_0 l1_0.length l1_0) (hc1_0:l1_0.length≤c1_0) (hr1_1:Kd.C (Kd.int .i64) w A1_1 l1_1.length l1_1) (hc1_1:l1_1.length≤c1_1) (h:laws_eqDepend.f k l0_0 l0_1 l1_0 l1_1=some r) :
  Calls Try.prog 30 #[.agg #[.slice A0_0 l0_0.length c0_0,.slice A0_1 l0_1.length c0_1],.agg #[.slice A1_0 l1_0.length c1_0,.slice A1_1 l1_1.length c1_1]] w fun e w'=>e=.returned (.bool r)∧Below w.heap.size w w':=by
 have hu37:=Try.underlying37;have HR0_0:=qK hr0_0;have HC0_0:=qK hc0_0;clear hr0_0 hc0_0;have HR0_1:=qK hr0_1;have HC0_1:=qK hc0_1;clear hr0_1 hc0_1;have HR1_0:=qK hr1_0;have HC1_0:=qK hc1_0;clear hr1_0 hc1_0;have HR1_1:=qK hr1_1;have HC1_1:=qK hc1_1;clear hr1_1 hc1_1;have HB:=qK (Below.refl w.heap.size w);have H:((laws_eqIntS.f k l0_0 l1_0).bind fun t338=>(if t338=true then ((laws_eqIntS.f k l0_1 l1_1).bind fun t339=>(if t339=true then (some true) else (none))) else (none)))=some r:=h;clear h;replace H:=Option.bind_eq_some_iff.mp H;obtain ⟨t338,A30,H⟩:=H;replace H:(if t338=true then ((laws_eqIntS.f k l0_1 l1_1).bind fun t339=>(if t339=true then (some true) else (none))) else (none))=some r:=H;have A3:=qK A30;clear A30;by_cases c4:t338=true
 ·subst c4;have H1:((laws_eqIntS.f k l0_1 l1_1).bind fun t339=>(if t339=true then (some true) else (none)))=some r:=by rw [if_pos rfl] at H;exact H
  clear H;have H:=H1;clear H1;replace H:=Option.bind_eq_some_iff.mp H;obtain ⟨t339,A50,H⟩:=H;replace H:(if t339=true then (some true) else (none))=some r:=H;have A5:=qK A50;clear A50;by_cases c6:t339=true
  ·subst c6;have H1:(some true)=some r:=by rw [if_pos rfl] at H;exact H
   clear H;have H:=H1;clear H1;obtain rfl:=Option.some.inj H;go_enter Try.func30,Try.ntmps30
   go_wp2_with (first|((with_reducible refine gate_dst (N:=2) rfl ?_);refine box_event ?hg (N:=2) ?hd (cs:=#[.slice A0_0 l0_0.length c0_0,.slice A0_1 l0_1.length c0_1]) (t:=37) ?hr ?_;(case hd=>rfl);(case hg=>rfl);(case hr=>(go_simp;try rfl));intro gb336 hg w7 hbox hb;have n0_:=qK (qT (by repeat (with_reducible first|exact HB.out|apply qA|apply qD|apply qO)) hb);have n1_:=qK (hbox);have n2_:=qK ((by rw [hg];exact (qZ (by repeat (with_reducible first|exact HB.out|apply qA|apply qD|apply qO))):w.heap.size≤gb336));have n3_:=qK ((by rw [hg];exact (qZ (by repeat (with_reducible first|exact HB.out|apply qA|apply qD|apply qO))):w.heap.size≤gb336));clear HB;have HB:=n0_;have BK336:=n1_;have GW336:=n2_;have GE336:=n3_;clear n0_ n1_ n2_ n3_;clear hb hbox hg)|((with_reducible refine gate_dst (N:=3) rfl ?_);refine box_event ?hg (N:=3) ?hd (cs:=#[.slice A1_0 l1_0.length c1_0,.slice A1_1 l1_1.length c1_1]) (t:=37) ?hr ?_;(case hd=>rfl);(case hg=>rfl);(case hr=>(go_simp;try rfl));intro gb337 hg w8 hbox hb;have n0_:=qK (qB (g:=gb336) (o:=_) (by (with_reducible repeat (first|refine qN ?_ _|refine qW ?_|refine qL ?_ _));exact BK336.out) hb);have n1_:=qK (qT (by repeat (with_reducible first|exact HB.out|apply qA|apply qD|apply qO|refine qS ?_ GE336.out)) hb);have n2_:=qK (hbox);have n3_:=qK ((by rw [hg];exact (qZ (by repeat (with_reducible first|exact HB.out|apply qA|apply qD|apply qO|refine qS ?_ GE336.out))):w.heap.size≤gb337));have n4_:=qK ((by rw [hg];exact (qZ (by repeat (with_reducible first|exact HB.out|apply qA|apply qD|apply qO|refine qS ?_ GE336.out))):w.heap.size≤gb337));have n5_:=qK ((by rw [hg];exact Nat.ne_of_lt (blk_lt (g:=gb336) (o:=_) (by (with_reducible repeat (first|refine qN ?_ _|refine qW ?_|refine qL ?_ _));exact BK336.out)):gb336 ≠ gb337));have n6_:=qK ((by rw [hg];exact Nat.ne_of_gt (blk_lt (g:=gb336) (o:=_) (by (with_reducible repeat (first|refine qN ?_ _|refine qW ?_|refine qL ?_ _));exact BK336.out)):gb337 ≠ gb336));clear BK336;clear HB;have BK336:=n0_;have HB:=n1_;have BK337:=n2_;have GW337:=n3_;have GE337:=n4_;have NB336_337:=n5_;have NB337_336:=n6_;clear n0_ n1_ n2_ n3_ n4_ n5_ n6_;clear hb hbox hg;have hnb9:=NB336_337.out;have hnc9:=NB337_336.out;have hcz10_0:w8.cell? ⟨gb336,0,none⟩=some (.slice A0_0 l0_0.length c0_0):=(qC BK336.out 0).trans rfl;have hcz10_1:w8.cell? ⟨gb336,1,none⟩=some (.slice A0_1 l0_1.length c0_1):=(qC BK336.out 1).trans rfl;have hfz10_0:=qF BK336.out 0;have hfz10_1:=qF BK336.out 1;have hcz11_0:w8.cell? ⟨gb337,0,none⟩=some (.slice A1_0 l1_0.length c1_0):=(qC BK337.out 0).trans rfl;have hcz11_1:w8.cell? ⟨gb337,1,none⟩=some (.slice A1_1 l1_1.length c1_1):=(qC BK337.out 1).trans rfl;have hfz11_0:=qF BK337.out 0;have hfz11_1:=qF BK337.out 1)|((with_reducible refine gate_callee (f:=55) rfl ?_);refine goesL_ (some 9) rfl rfl Try.func55 (by kernel_rfl) rfl #[.slice A0_0 l0_0.length c0_0,.slice A1_0 l1_0.length c1_0] rfl (by (try simp only [mT,mC,mN]);first|done|rfl|(simp only [lD,lT];rfl)) ?_;(with_reducible refine (laws_eqIntS.calls k _ _ l0_0 _ _ l1_0 true _ ?side1 ?side2 ?side3 ?side4 A3.out).mono ?_);(case side1=>repeat (first|exact (cB HR0_0.out HB.out)|(with_reducible first|refine cL ?_ _|refine cN ?_ _|refine cW ?_)));(case side2=>exact HC0_0.out);(case side3=>repeat (first|exact (cB HR1_0.out HB.out)|(with_reducible first|refine cL ?_ _|refine cN ?_ _|refine cW ?_)));(case side4=>exact HC1_0.out);rintro e w' ⟨rfl,⟨nd,rfl⟩⟩;refine ⟨_,rfl,?_⟩)|((with_reducible refine gate_callee (f:=55) rfl ?_);refine goesL_ (some 15) rfl rfl Try.func55 (by kernel_rfl) rfl #[.slice A0_1 l0_1.length c0_1,.slice A1_1 l1_1.length c1_1] rfl (by (try simp only [mT,mC,mN]);first|done|rfl|(simp only [lD,lT];rfl)) ?_;(with_reducible refine (laws_eqIntS.calls k _ _ l0_1 _ _ l1_1 true _ ?side1 ?side2 ?side3 ?side4 A5.out).mono ?_);(case side1=>repeat (first|exact (cB HR0_1.out (by repeat (with_reducible first|exact HB.out|apply qA|apply qD|apply qO|refine qS ?_ GE336.out|refine qS ?_ GE337.out)))|(with_reducible first|refine cL ?_ _|refine cN ?_ _|refine cW ?_)));(case side2=>exact HC0_1.out);(case side3=>repeat (first|exact (cB HR1_1.out (by repeat (with_reducible first|exact HB.out|apply qA|apply qD|apply qO|refine qS ?_ GE336.out|refine qS ?_ GE337.out)))|(with_reducible first|refine cL ?_ _|refine cN ?_ _|refine cW ?_)));(case side4=>exact HC1_1.out);rintro e w' ⟨rfl,⟨nd,rfl⟩⟩;refine ⟨_,rfl,?_⟩))
   go_ret
   exact ⟨by first|rfl|(simp [errW_none,errW_some] <;> rfl)|(simp [*,errW_none,errW_some] <;> rfl),by repeat (first|(with_reducible first|exact HB.out|apply qA|apply qD|apply qO|refine qS ?_ GE336.out|refine qS ?_ GE337.out)|exact HB.out)⟩
  ·replace c6:=Bool.eq_false_iff.mpr c6;subst c6;have H1:(none)=some r:=by rw [if_neg (show ¬ (false=true) by decide)] at H;exact H
   clear H;have H:=H1;clear H1;exact absurd H (by simp)
 ·replace c4:=Bool.eq_false_iff.mpr c4;subst c4;have H1:(none)=some r:=by rw [if_neg (show ¬ (false=true) by decide)] at H;exact H
  clear H;have H:=H1;clear H1;exact absurd H (by simp)

/-! ### laws_eqDependS: function 9 -/
def laws_eqDependS.l0 : Nat→List (S37)→List (S37)→Int→Option (Bool)
 | 0,_,_,_=>none
 | k + 1,x0,x1,x5=>if x5 < (x0.length:Int) then (if 0≤x5 then (if x5 < (x1.length:Int) then ((laws_eqDepend.f k ((rd_T37 x0 x5).f0) ((rd_T37 x0 x5).f1) ((rd_T37 x1 x5).f0) ((rd_T37 x1 x5).f1)).bind fun t342=>(if t342=true then (laws_eqDependS.l0 k x0 x1 (wrap64 (x5 + 1))) else (none))) else (none)) else (none)) else (some true)
def laws_eqDependS.f (k:Nat) (l0:List (S37)) (l1:List (S37)):Option (Bool):=if (l0.length:Int)=(l1.length:Int) then (laws_eqDependS.l0 k l0 l1 0) else (none)
theorem laws_eqDependS.mono_l : ∀ k,(∀ y0 y1 y2,LeO (laws_eqDependS.l0 k y0 y1 y2) (laws_eqDependS.l0 (k + 1) y0 y1 y2))
 | 0=>fun _ _ _ r h=>by simp [laws_eqDependS.l0] at h
 | k + 1=>by
  have ih0:=laws_eqDependS.mono_l k
  ·intro y0 y1 y2;unfold laws_eqDependS.l0
   repeat' first
   | (with_reducible exact ih0 _ _ _)
   | (with_reducible exact laws_eqDepend.mono _ _ _ _ _)
   | (with_reducible exact LeO.refl _)
   | (with_reducible exact LeO.none _)
   | (with_reducible refine LeO.ite ?_ ?_)
   | (with_reducible refine LeO.bind ?_ (fun _=>?_))
   | exact ih0 _ _ _
   | exact laws_eqDepend.mono _ _ _ _ _
   | exact LeO.none _
   | refine LeO.ite ?_ ?_
   | refine LeO.bind ?_ (fun _=>?_)
theorem laws_eqDependS.mono : ∀ a0 a1 k,LeO (laws_eqDependS.f k a0 a1) (laws_eqDependS.f (k + 1) a0 a1):=by
 intro a0 a1 k;have ih0:=laws_eqDependS.mono_l k;unfold laws_eqDependS.f
 repeat' first
   | (with_reducible exact ih0 _ _ _)
   | (with_reducible exact laws_eqDepend.mono _ _ _ _ _)
   | (with_reducible exact LeO.refl _)
   | (with_reducible exact LeO.none _)
   | (with_reducible refine LeO.ite ?_ ?_)
   | (with_reducible refine LeO.bind ?_ (fun _=>?_))
   | exact ih0 _ _ _
   | exact laws_eqDepend.mono _ _ _ _ _
   | exact LeO.none _
   | refine LeO.ite ?_ ?_
   | refine LeO.bind ?_ (fun _=>?_)
def laws_eqDependS.T6 : Bool × List (List Nat × List Nat):=(true,[([],[]),([],[]),([0,1],[0,1]),([2],[2]),([],[]),([],[]),([4,5],[4,5]),([6],[6]),([3,7],[3,7]),([8],[8])])
def laws_eqDependS.B6 : List Nat:=[0,0,3,7,0,0,48,112,255,511]
theorem laws_eqDependS.tab6 : rtab .any (opsOf Try.f9 6)=laws_eqDependS.T6:=by kernel_rfl
theorem laws_eqDependS.bits6 : waitsOk laws_eqDependS.T6.2 laws_eqDependS.B6=true:=by kernel_rfl
set_option maxHeartbeats 8000000 in
set_option maxRecDepth 100000 in
theorem laws_eqDependS.calls (k:Nat) (A0:Option Addr) (c0:Nat) (l0:List (S37)) (A1:Option Addr) (c1:Nat) (l1:List (S37)) (r:Bool) (w:World) (hr0:Kd.C k37 w A0 l0.length l0) (hc0:l0.length≤c0) (hr1:Kd.C k37 w A1 l1.length l1) (hc1:l1.length≤c1) (h:laws_eqDependS.f k l0 l1=some r) :
  Calls Try.prog 9 #[.slice A0 l0.length c0,.slice A1 l1.length c1] w fun e w'=>e=.returned (.bool r)∧Below w.heap.size w w':=by
 have hu37:=Try.underlying37;have HR0:=qK hr0;have HC0:=qK hc0;clear hr0 hc0;have HR1:=qK hr1;have HC1:=qK hc1;clear hr1 hc1;have HB:=qK (Below.refl w.heap.size w);have H:(if (l0.length:Int)=(l1.length:Int) then (laws_eqDependS.l0 k l0 l1 0) else (none))=some r:=h;clear h;by_cases c3:(l0.length:Int)=(l1.length:Int)
 ·rw [if_pos c3] at H;have c3b0:((l0.length:Int) == (l1.length:Int))=true:=beq_iff_eq.mpr c3;have c3b1:((l0.length:Int) != (l1.length:Int))=false:=bne_eq_false_iff_eq.mpr c3;have c3b2:(l0.length == l1.length)=true:=by first|simpa using c3|(simp at c3 ⊢;omega)
  clear c3;have H':=qK H;clear H;go_enter Try.func9,Try.ntmps9
  go_wp2
  go_loopg [5] k (fun kq v5 w'=>∃ (x5_1:Int),v5=.int .i64 x5_1∧Aside0 (laws_eqDependS.l0 kq l0 l1 x5_1=some r)∧Aside0 (kq≤k)∧Aside0 (Below w.heap.size w w'))
  case atStart=>exact ⟨(0),(by first|rfl|(simp;done)|(simp [*];done)),H',⟨Nat.le_refl _⟩,⟨by repeat (first|(with_reducible first|exact HB.out|apply qA|apply qD|apply qO)|exact HB.out)⟩⟩
  case round =>
   clear H';try clear c1
   try clear p2
   try clear c3
   try clear c3b0
   try clear c3b1
   try clear c3b2
   obtain ⟨x5_1,rfl,HA,HK1,HB⟩:=hrel;cases gk with
   | zero=>exact absurd HA.out (by simp [laws_eqDependS.l0])
   | succ k1 =>
    have H:=HA.out;clear HA;simp only [laws_eqDependS.l0] at H;by_cases c4:x5_1 < (l0.length:Int)
    ·rw [if_pos c4] at H;have c4b0:decide (x5_1 < (l0.length:Int))=true:=decide_eq_true c4;clear c4;by_cases c5:0≤x5_1
     ·rw [if_pos c5] at H;have c5b0:decide (0≤x5_1)=true:=decide_eq_true c5;clear c5;by_cases c6:x5_1 < (l1.length:Int)
      ·rw [if_pos c6] at H;have c6b0:decide (x5_1 < (l1.length:Int))=true:=decide_eq_true c6;clear c6;replace H:=Option.bind_eq_some_iff.mp H;obtain ⟨t342,A70,H⟩:=H;replace H:(if t342=true then (laws_eqDependS.l0 k1 l0 l1 (wrap64 (x5_1 + 1))) else (none))=some r:=H;have A7:=qK A70;clear A70;by_cases c8:t342=true
       ·subst c8;have H1:(laws_eqDependS.l0 k1 l0 l1 (wrap64 (x5_1 + 1)))=some r:=by rw [if_pos rfl] at H;exact H
        clear H;have H:=H1;clear H1;have H':=qK H;clear H;try go_wp2
        (try (rw [drewN_self wr];generalize hq_:World.drewN wr _=wr;have n0_:Aside0 (Below w.heap.size w wr):=⟨by rw [← hq_];exact (by repeat (with_reducible first|exact HB.out|apply qA|apply qD|apply qO))⟩;clear HB hq_;have HB:=n0_;clear n0_));have n0_:=qK (qO HB.out);clear HB;have HB:=n0_;clear n0_;have p340:0≤(x5_1:Int):=of_decide_eq_true (by first|(with_reducible assumption)|assumption);have q340:x5_1 < (l0.length:Int):=of_decide_eq_true (by first|(with_reducible assumption)|assumption);obtain ⟨ad340,A340_0,c340_0,A340_1,c340_1,e340,hx340_0,hx340_1,hl340_0,hi340_0,hl340_1,hi340_1⟩:=at_T37 HR0.out x5_1 p340 q340;have hw340_1:=hx340_1;have hw340_0:=hx340_0;cases e340
        replace hx340_0:=(HB.out.cell (World.block_lt_of_cell? w _ hx340_0)).trans hx340_0;replace hx340_1:=(HB.out.cell (World.block_lt_of_cell? w _ hx340_1)).trans hx340_1;have HR340_0:=qK hi340_0;have HC340_0:=qK hl340_0;clear hi340_0 hl340_0;have HR340_1:=qK hi340_1;have HC340_1:=qK hl340_1;clear hi340_1 hl340_1;replace p340:=eq_true p340;replace q340:=eq_true q340;have p341:0≤(x5_1:Int):=of_decide_eq_true (by first|(with_reducible assumption)|assumption);have q341:x5_1 < (l1.length:Int):=of_decide_eq_true (by first|(with_reducible assumption)|assumption);obtain ⟨ad341,A341_0,c341_0,A341_1,c341_1,e341,hx341_0,hx341_1,hl341_0,hi341_0,hl341_1,hi341_1⟩:=at_T37 HR1.out x5_1 p341 q341;have hw341_1:=hx341_1;have hw341_0:=hx341_0;cases e341
        replace hx341_0:=(HB.out.cell (World.block_lt_of_cell? w _ hx341_0)).trans hx341_0;replace hx341_1:=(HB.out.cell (World.block_lt_of_cell? w _ hx341_1)).trans hx341_1;have HR341_0:=qK hi341_0;have HC341_0:=qK hl341_0;clear hi341_0 hl341_0;have HR341_1:=qK hi341_1;have HC341_1:=qK hl341_1;clear hi341_1 hl341_1;replace p341:=eq_true p341;replace q341:=eq_true q341;refine start_ (n:=10) (S:=fun w'=>w'.cell? (ad340.add ((x5_1).toNat * 2))=some (.slice A340_0 ((rd_T37 l0 x5_1).f0).length c340_0)∧w'.cell? ⟨(ad340.add ((x5_1).toNat * 2)).block,(ad340.add ((x5_1).toNat * 2)).off + 1,none⟩=some (.slice A340_1 ((rd_T37 l0 x5_1).f1).length c340_1)∧w'.cell? (ad341.add ((x5_1).toNat * 2))=some (.slice A341_0 ((rd_T37 l1 x5_1).f0).length c341_0)∧w'.cell? ⟨(ad341.add ((x5_1).toNat * 2)).block,(ad341.add ((x5_1).toNat * 2)).off + 1,none⟩=some (.slice A341_1 ((rd_T37 l1 x5_1).f1).length c341_1)) (ds:=[]) #[Z,Z,Z,Z,Z,Z,Z,Z,Z,Z] (by kernel_rfl) rfl rfl ⟨((HB.out.cell (World.block_lt_of_cell? w _ hw340_0)).trans hw340_0),((HB.out.cell (World.block_lt_of_cell? w _ hw340_1)).trans hw340_1),((HB.out.cell (World.block_lt_of_cell? w _ hw341_0)).trans hw341_0),((HB.out.cell (World.block_lt_of_cell? w _ hw341_1)).trans hw341_1)⟩ (fun hHeld=>?_);refine with_tabW laws_eqDependS.tab6 laws_eqDependS.bits6 (fun HT_ HW_=>?_);generalize wr.drew=w9 at HB HR340_0 HR340_1 HR341_0 HR341_1 hx340_0 hx340_1 hx341_0 hx341_1 hHeld ⊢
        refine pure_ (i:=0) (N:=some 17) (v:=?_) (a':=?_) #[Y,Z,Z,Z,Z,Z,Z,Z,Z,Z] rfl rfl (any_of HT_.out (by kernel_rfl)) (fun _ _ _ h=>h) (Or.inl ⟨by rfl,?_⟩) ?_ ?_;rotate_left
        ·intro w';go_simp;with_reducible rfl
        rotate_left
        ·simp only [Act.put,sIb,sZ,sS,i64_w,i32_w];rfl
        refine pure_ (i:=1) (N:=some 18) (v:=?_) (a':=?_) #[Y,Y,Z,Z,Z,Z,Z,Z,Z,Z] rfl rfl (any_of HT_.out (by kernel_rfl)) (fun _ _ _ h=>h) (Or.inl ⟨by rfl,?_⟩) ?_ ?_;rotate_left
        ·intro w';go_simp;with_reducible rfl
        rotate_left
        ·simp only [Act.put,sIb,sZ,sS,i64_w,i32_w];rfl
        refine pure_ (i:=2) (N:=some 19) (v:=?_) (a':=?_) #[Y,Y,Y,Z,Z,Z,Z,Z,Z,Z] rfl rfl (any_of HT_.out (by kernel_rfl)) (fun _ _ _ h=>h) (Or.inl ⟨by rfl,?_⟩) ?_ ?_;rotate_left
        ·intro w';go_simp;with_reducible rfl
        rotate_left
        ·simp only [Act.put,sIb,sZ,sS,i64_w,i32_w];rfl
        refine pure_ (i:=4) (N:=some 21) (v:=?_) (a':=?_) #[Y,Y,Y,Z,Y,Z,Z,Z,Z,Z] rfl rfl (any_of HT_.out (by kernel_rfl)) (fun _ _ _ h=>h) (Or.inl ⟨by rfl,?_⟩) ?_ ?_;rotate_left
        ·intro w';go_simp;with_reducible rfl
        rotate_left
        ·simp only [Act.put,sIb,sZ,sS,i64_w,i32_w];rfl
        refine pure_ (i:=5) (N:=some 22) (v:=?_) (a':=?_) #[Y,Y,Y,Z,Y,Y,Z,Z,Z,Z] rfl rfl (any_of HT_.out (by kernel_rfl)) (fun _ _ _ h=>h) (Or.inl ⟨by rfl,?_⟩) ?_ ?_;rotate_left
        ·intro w';go_simp;with_reducible rfl
        rotate_left
        ·simp only [Act.put,sIb,sZ,sS,i64_w,i32_w];rfl
        refine pure_ (i:=6) (N:=some 23) (v:=?_) (a':=?_) #[Y,Y,Y,Z,Y,Y,Y,Z,Z,Z] rfl rfl (any_of HT_.out (by kernel_rfl)) (fun _ _ _ h=>h) (Or.inl ⟨by rfl,?_⟩) ?_ ?_;rotate_left
        ·intro w';go_simp;with_reducible rfl
        rotate_left
        ·simp only [Act.put,sIb,sZ,sS,i64_w,i32_w];rfl
        refine take_ (i:=3) (N:=some 20) (v:=?_) (a':=?_) #[Y,Y,Y,Y,Y,Y,Y,Z,Z,Z] rfl rfl (take_ofW HT_.out HW_.out (by kernel_rfl)) (fun _ _ _ h=>h) (Or.inl ⟨by rfl,?_⟩) hHeld ?_ ?_;rotate_left
        ·rintro w' ⟨s0,s1,s2,s3⟩;go_simp;with_reducible rfl
        rotate_left
        ·simp only [Act.put,sIb,sZ,sS,i64_w,i32_w];rfl
        refine take_ (i:=7) (N:=some 24) (v:=?_) (a':=?_) #[Y,Y,Y,Y,Y,Y,Y,Y,Z,Z] rfl rfl (take_ofW HT_.out HW_.out (by kernel_rfl)) (fun _ _ _ h=>h) (Or.inl ⟨by rfl,?_⟩) hHeld ?_ ?_;rotate_left
        ·rintro w' ⟨s0,s1,s2,s3⟩;go_simp;with_reducible rfl
        rotate_left
        ·simp only [Act.put,sIb,sZ,sS,i64_w,i32_w];rfl
        refine one_ (i:=8) (N:=some 25) #[Y,Y,Y,Y,Y,Y,Y,Y,Y,Z] rfl rfl (one_of HT_.out (by kernel_rfl)) (by decide) (fun K hK=>?_);refine goes_ Try.func30 (by kernel_rfl) rfl #[.agg #[.slice A340_0 ((rd_T37 l0 x5_1).f0).length c340_0,.slice A340_1 ((rd_T37 l0 x5_1).f1).length c340_1],.agg #[.slice A341_0 ((rd_T37 l1 x5_1).f0).length c341_0,.slice A341_1 ((rd_T37 l1 x5_1).f1).length c341_1]] (by rfl) rfl rfl (by (try simp only [mT,mC,mN]);first|done|rfl|(simp only [lD,lT];rfl)) ?_;with_reducible refine (laws_eqDepend.calls k1 _ _ ((rd_T37 l0 x5_1).f0) _ _ ((rd_T37 l0 x5_1).f1) _ _ ((rd_T37 l1 x5_1).f0) _ _ ((rd_T37 l1 x5_1).f1) true _ ?side1 ?side2 ?side3 ?side4 ?side5 ?side6 ?side7 ?side8 A7.out).mono ?_
        (case side1=>repeat (first|exact (cB HR340_0.out HB.out)|(with_reducible first|refine cL ?_ _|refine cN ?_ _|refine cW ?_)));(case side2=>exact HC340_0.out);(case side3=>repeat (first|exact (cB HR340_1.out HB.out)|(with_reducible first|refine cL ?_ _|refine cN ?_ _|refine cW ?_)));(case side4=>exact HC340_1.out);(case side5=>repeat (first|exact (cB HR341_0.out HB.out)|(with_reducible first|refine cL ?_ _|refine cN ?_ _|refine cW ?_)));(case side6=>exact HC341_0.out);(case side7=>repeat (first|exact (cB HR341_1.out HB.out)|(with_reducible first|refine cL ?_ _|refine cN ?_ _|refine cW ?_)));(case side8=>exact HC341_1.out);rintro e w10 ⟨rfl,hb⟩;refine ⟨_,rfl,?_⟩;have n0_:=qK (qT (by repeat (with_reducible first|exact HB.out|apply qA|apply qD|apply qO)) hb);clear HB;have HB:=n0_;clear n0_;(try clear hb);refine hK.out _ _ ⟨((HB.out.cell (World.block_lt_of_cell? w _ hw340_0)).trans hw340_0),((HB.out.cell (World.block_lt_of_cell? w _ hw340_1)).trans hw340_1),((HB.out.cell (World.block_lt_of_cell? w _ hw341_0)).trans hw341_0),((HB.out.cell (World.block_lt_of_cell? w _ hw341_1)).trans hw341_1)⟩ (fun hHeld=>?_);clear hK K;refine norm_ (a':=?_) ?_ ?_;rotate_left
        ·show Act.put _ (some 25) _=_
         simp only [Act.put,sIb,sZ,sS,i64_w,i32_w];rfl
        refine pure_ (i:=9) (N:=some 26) (v:=?_) (a':=?_) #[Y,Y,Y,Y,Y,Y,Y,Y,Y,Y] rfl rfl (any_of HT_.out (by kernel_rfl)) (fun _ _ _ h=>h) (Or.inl ⟨by rfl,?_⟩) ?_ ?_;rotate_left
        ·intro w';go_simp;with_reducible rfl
        rotate_left
        ·simp only [Act.put,sIb,sZ,sS,i64_w,i32_w];rfl
        refine done_ (done_of HT_.out (by kernel_rfl)) ?_;try go_wp2
        go_roundg k1
        case measure=>have:=HK1.out;omega
        case rel=>exact ⟨(wrap64 (x5_1 + 1)),(by first|rfl|(simp;done)|(simp [*];done)),H',⟨by have:=HK1.out;omega⟩,⟨by repeat (first|(with_reducible first|exact HB.out|apply qA|apply qD|apply qO)|exact HB.out)⟩⟩
       ·replace c8:=Bool.eq_false_iff.mpr c8;subst c8;have H1:(none)=some r:=by rw [if_neg (show ¬ (false=true) by decide)] at H;exact H
        clear H;have H:=H1;clear H1;exact absurd H (by simp)
      ·rw [if_neg c6] at H;exact absurd H (by simp)
     ·rw [if_neg c5] at H;exact absurd H (by simp)
    ·rw [if_neg c4] at H;have c4b0:decide (x5_1 < (l0.length:Int))=false:=decide_eq_false c4;clear c4;obtain rfl:=Option.some.inj H;go_wp2
     go_ret
     exact ⟨by first|rfl|(simp [errW_none,errW_some] <;> rfl)|(simp [*,errW_none,errW_some] <;> rfl),by repeat (first|(with_reducible first|exact HB.out|apply qA|apply qD|apply qO)|exact HB.out)⟩
 ·rw [if_neg c3] at H;exact absurd H (by simp)

/-! ### laws_markIntS: function 31 -/
def laws_markIntS.l0 : Nat→List Int→Int→Int→Option (Int × List Int)
 | 0,_,_,_=>none
 | k + 1,x0,x1,x5=>if x5 < (x0.length:Int) then (if 0≤x5 then (laws_markIntS.l0 k (x0.set (x5:Int).toNat x1) (wrap64 (x1 + 1)) (wrap64 (x5 + 1))) else (none)) else (some (x1,x0))
def laws_markIntS.f (k:Nat) (l0:List Int) (a1:Int):Option (Int × List Int):=laws_markIntS.l0 k l0 a1 0
theorem laws_markIntS.mono_l : ∀ k,(∀ y0 y1 y2,LeO (laws_markIntS.l0 k y0 y1 y2) (laws_markIntS.l0 (k + 1) y0 y1 y2))
 | 0=>fun _ _ _ r h=>by simp [laws_markIntS.l0] at h
 | k + 1=>by
  have ih0:=laws_markIntS.mono_l k
  ·intro y0 y1 y2;unfold laws_markIntS.l0
   repeat' first
   | (with_reducible exact ih0 _ _ _)
   | (with_reducible exact LeO.refl _)
   | (with_reducible exact LeO.none _)
   | (with_reducible refine LeO.ite ?_ ?_)
   | (with_reducible refine LeO.bind ?_ (fun _=>?_))
   | exact ih0 _ _ _
   | exact LeO.none _
   | refine LeO.ite ?_ ?_
   | refine LeO.bind ?_ (fun _=>?_)
theorem laws_markIntS.mono : ∀ a0 a1 k,LeO (laws_markIntS.f k a0 a1) (laws_markIntS.f (k + 1) a0 a1):=by
 intro a0 a1 k;have ih0:=laws_markIntS.mono_l k;unfold laws_markIntS.f
 repeat' first
   | (with_reducible exact ih0 _ _ _)
   | (with_reducible exact LeO.refl _)
   | (with_reducible exact LeO.none _)
   | (with_reducible refine LeO.ite ?_ ?_)
   | (with_reducible refine LeO.bind ?_ (fun _=>?_))
   | exact ih0 _ _ _
   | exact LeO.none _
   | refine LeO.ite ?_ ?_
   | refine LeO.bind ?_ (fun _=>?_)
set_option maxHeartbeats 8000000 in
set_option maxRecDepth 100000 in
theorem laws_markIntS.calls (k:Nat) (P0_:Nat→Prop) (u9000_:Value) (l0:List Int) (a1:Int) (r1:Int) (r2:List Int) (w0 w:World) (hB:Below w0.heap.size w0 w) (ho0:Kd.R (Kd.int .i64) 3 w w0.heap.size P0_ u9000_ l0) (h:laws_markIntS.f k l0 a1=some (r1,r2)) :
  Calls Try.prog 31 #[u9000_,.int .i64 a1] w fun e w'=>e=.returned (.int .i64 r1)∧Kd.R (Kd.int .i64) 3 w' w0.heap.size (fun k_=>(P0_ k_ ∨ w.heap.size≤k_)) u9000_ r2∧Below w0.heap.size w0 w'∧Kept w w' (fun k_=>P0_ k_):=by
 have HO0:=qK (show Kd.R (Kd.int .i64) 3 w w0.heap.size (fun k_=>(P0_ k_ ∨ w.heap.size≤k_)) u9000_ l0 from Kd.R_mono ho0 (fun k_ hk=>(.inl hk)));have HK:=qK (Kept.refl w (fun k_=>P0_ k_));have HW0:=qK hB.size;have HB:=qK hB;clear hB;have H:(laws_markIntS.l0 k l0 a1 0)=some (r1,r2):=h;clear h;have H':=qK H;clear H;go_enter Try.func31,Try.ntmps31
 go_wp2
 go_loopg [1,5] k (fun kq v1 v5 w'=>∃ (x0_1:List Int) (x1_1:Int) (x5_1:Int),v1=.int .i64 x1_1∧v5=.int .i64 x5_1∧Aside0 (laws_markIntS.l0 kq x0_1 x1_1 x5_1=some (r1,r2))∧Aside0 (kq≤k)∧Aside0 (Kd.R (Kd.int .i64) 3 w' w0.heap.size (fun k_=>(P0_ k_ ∨ w.heap.size≤k_)) u9000_ x0_1)∧Aside0 (Kept w w' (fun k_=>P0_ k_))∧Aside0 (Below w0.heap.size w0 w'))
 case atStart=>exact ⟨(l0),(a1),(0),(by first|rfl|(simp;done)|(simp [*];done)),(by first|rfl|(simp;done)|(simp [*];done)),H',⟨Nat.le_refl _⟩,⟨by (with_reducible repeat (first|apply rL|apply rN|apply rW));exact HO0.out⟩,⟨by repeat (first|(with_reducible first|exact HK.out|apply Kept.alloc|apply Kept.drewN|apply Kept.drew)|exact HK.out)⟩,⟨by repeat (first|(with_reducible first|exact HB.out|apply qA|apply qD|apply qO)|exact HB.out)⟩⟩
 case round =>
  clear H';try clear p2
  obtain ⟨x0_1,x1_1,x5_1,rfl,rfl,HA,HK1,HO_0,HK,HB⟩:=hrel;cases gk with
  | zero=>exact absurd HA.out (by simp [laws_markIntS.l0])
  | succ k1 =>
   have H:=HA.out;clear HA;simp only [laws_markIntS.l0] at H;by_cases c3:x5_1 < (x0_1.length:Int)
   ·rw [if_pos c3] at H;have c3b0:decide (x5_1 < (x0_1.length:Int))=true:=decide_eq_true c3;clear c3;by_cases c4:0≤x5_1
    ·rw [if_pos c4] at H;have c4b0:decide (0≤x5_1)=true:=decide_eq_true c4;clear c4;obtain ⟨y343,hy343⟩:∃ y_:List Int,y_=(x0_1.set (x5_1:Int).toNat x1_1):=⟨_,rfl⟩;replace H:(laws_markIntS.l0 k1 y343 (wrap64 (x1_1 + 1)) (wrap64 (x5_1 + 1)))=some (r1,r2):=by first|(rw [hy343];with_reducible exact H)|(have H2_:=(Option.bind_some _ _).symm.trans H;rw [hy343];with_reducible exact H2_)|(have H2_:=(Option.bind_some _ _).symm.trans H;with_reducible exact H2_)|with_reducible exact H|(rw [hy343];exact H)|exact H
     have Ny343:=qK hy343;clear hy343;have H':=qK H;clear H;obtain ⟨Ao6,co6,eo6⟩:=Kd.R_slice HO_0.out;subst eo6;have p5:0≤(x5_1:Int):=of_decide_eq_true (by first|(with_reducible assumption)|assumption);have q5:(x5_1:Int) < ((x0_1.length:Int):Int):=of_decide_eq_true (by first|(with_reducible assumption)|assumption);obtain ⟨go5,co5,eo5,gb5,gl5,cl5,HG5⟩:=Kd.R_form HO_0.out (by omega);(first|cases eo5|(injection eo5 with ea_ en_ ec_;(first|subst ea_|(injection ea_ with ea_;subst ea_));subst ec_;clear en_));have GB5:=qK gb5;have GG5:=qK HG5;clear gb5 gl5 HG5;have HMgo5:=qK (show (P0_ go5 ∨ w.heap.size≤go5) from (HO_0.out.1 _ rfl));obtain ⟨hx5_0,hf5_0⟩:=Kd.R_celln 0 HO_0.out (x5_1:Int) p5 q5;replace p5:=eq_true p5;replace q5:=eq_true q5;have HP7:=Kd.R_putg HO_0.out (x5_1:Int) x1_1;go_wp2_with (first|((with_reducible refine gate_store (t:=3) (p:=15) rfl ?_);refine store_event (t:=3) (p:=15) (v:=?vo_w8) (w1:=(wr.setCell ⟨go5,(x5_1:Int).toNat,none⟩ (.int .i64 x1_1))) ?hg ?ho ?hn ?hr ?_;(case ho=>rfl);(case hg=>rfl);(case hn=>rfl);(case hr=>(go_simp;try rfl));intro w8 hw;have hg:wr.grownBy w8 (some go5):=(by rw [hw];exact HP7.2);have hp_:Kd.R (Kd.int .i64) 3 w8 w0.heap.size (fun k_=>(P0_ k_ ∨ w.heap.size≤k_)) (.slice (some ⟨go5,0,none⟩) x0_1.length co6) y343:=(by rw [hw,Ny343.out];exact HP7.1);clear HP7;have n0_:=qK (hp_);have n1_:=qK ((by rw [hw];exact qS (HB.out) GB5.out:Below w0.heap.size w0 w8));have n2_:=qK (Kept.of_grown (S:=(fun k_=>P0_ k_)) hg (by repeat (first|(with_reducible first|exact HK.out|apply Kept.alloc|apply Kept.drewN|apply Kept.drew)|exact HK.out)) (fun k_ e_=>(HO_0.out.1 k_ e_)));clear HO_0;clear HB;clear HK;have HO_0:=n0_;have HB:=n1_;have HK:=n2_;clear n0_ n1_ n2_;clear hg hw hp_))
     go_roundg k1
     case measure=>have:=HK1.out;omega
     case rel=>exact ⟨(y343),(wrap64 (x1_1 + 1)),(wrap64 (x5_1 + 1)),(by first|rfl|(simp;done)|(simp [*];done)),(by first|rfl|(simp;done)|(simp [*];done)),H',⟨by have:=HK1.out;omega⟩,⟨by (with_reducible repeat (first|apply rL|apply rN|apply rW));exact HO_0.out⟩,⟨by repeat (first|(with_reducible first|exact HK.out|apply Kept.alloc|apply Kept.drewN|apply Kept.drew)|exact HK.out)⟩,⟨by repeat (first|(with_reducible first|exact HB.out|apply qA|apply qD|apply qO)|exact HB.out)⟩⟩
    ·rw [if_neg c4] at H;exact absurd H (by simp)
   ·rw [if_neg c3] at H;have c3b0:decide (x5_1 < (x0_1.length:Int))=false:=decide_eq_false c3;clear c3;simp only [Option.some.injEq,Prod.mk.injEq] at H;obtain ⟨rfl,rfl⟩:=H;obtain ⟨Ao9,co9,eo9⟩:=Kd.R_slice HO_0.out;subst eo9;go_wp2
    go_ret
    exact ⟨by first|rfl|(simp [errW_none,errW_some] <;> rfl)|(simp [*,errW_none,errW_some] <;> rfl),by (with_reducible repeat (first|apply rL|apply rN|apply rW));exact HO_0.out,by repeat (first|(with_reducible first|exact HB.out|apply qA|apply qD|apply qO)|exact HB.out),by repeat (first|(with_reducible first|exact HK.out|apply Kept.alloc|apply Kept.drewN|apply Kept.drew)|exact HK.out)⟩

/-! ### laws_markDependS: function 10 -/
def laws_markDependS.l0 : Nat → List S37 → Int → Int → Option (Int × List S37)
  | 0, _, _, _ => none
  | k + 1, x0, x1, x5 => if x5 < (x0.length : Int) then (if 0 ≤ x5 then ((laws_markIntS.f k (rd_T37 x0 x5).f0 x1).bind fun m0 => ((laws_markIntS.f k (rd_T37 x0 x5).f1 m0.1).bind fun m1 => laws_markDependS.l0 k (x0.set (x5 : Int).toNat ⟨m0.2, m1.2⟩) m1.1 (wrap64 (x5 + 1)))) else none) else some (x1, x0)
def laws_markDependS.f (k : Nat) (l0 : List S37) (a1 : Int) : Option (Int × List S37) := laws_markDependS.l0 k l0 a1 0
theorem laws_markDependS.mono_l : ∀ k y0 y1 y2, LeO (laws_markDependS.l0 k y0 y1 y2) (laws_markDependS.l0 (k + 1) y0 y1 y2)
  | 0 => fun _ _ _ r h => by simp [laws_markDependS.l0] at h
  | k + 1 => by
    intro y0 y1 y2
    unfold laws_markDependS.l0
    exact LeO.ite (LeO.ite (LeO.bind (laws_markIntS.mono _ _ _) fun _ => LeO.bind (laws_markIntS.mono _ _ _) fun _ => laws_markDependS.mono_l k _ _ _) (LeO.none _)) (LeO.refl _)
theorem laws_markDependS.mono : ∀ a0 a1 k, LeO (laws_markDependS.f k a0 a1) (laws_markDependS.f (k + 1) a0 a1) := fun a0 a1 k => laws_markDependS.mono_l k _ _ _
set_option maxHeartbeats 8000000 in
set_option maxRecDepth 100000 in
theorem laws_markDependS.calls (k : Nat) (P0_ : Nat → Prop) (u9000_ : Value) (l0 : List S37) (a1 : Int) (r1 : Int) (r2 : List S37) (w0 w : World) (hB : Below w0.heap.size w0 w) (ho0 : Kd.S k37 37 w w0.heap.size P0_ u9000_ l0) (h : laws_markDependS.f k l0 a1 = some (r1, r2)) :
    Calls Try.prog 10 #[u9000_, .int .i64 a1] w fun e w' => e = .returned (.int .i64 r1) ∧ Kd.S k37 37 w' w0.heap.size P0_ u9000_ r2 ∧ Below w0.heap.size w0 w' ∧ Kept w w' P0_ := by
  have hu := Try.underlying37
  have HO_0 := Aside0.mk ho0
  have HK := Aside0.mk (Kept.refl w P0_)
  have HB := Aside0.mk hB
  clear hB ho0
  have H' := Aside0.mk (show laws_markDependS.l0 k l0 a1 0 = some (r1, r2) from h)
  clear h
  go_enter Try.func10, Try.ntmps10
  go_wp2
  go_loopg [1, 5] k (fun kq v1 v5 w' => ∃ (x0_1 : List S37) (x1_1 : Int) (x5_1 : Int), v1 = .int .i64 x1_1 ∧ v5 = .int .i64 x5_1 ∧ Aside0 (laws_markDependS.l0 kq x0_1 x1_1 x5_1 = some (r1, r2)) ∧ Aside0 (kq ≤ k) ∧ Aside0 (Kd.S k37 37 w' w0.heap.size P0_ u9000_ x0_1) ∧ Aside0 (Kept w w' P0_) ∧ Aside0 (Below w0.heap.size w0 w'))
  case atStart => exact ⟨l0, a1, 0, rfl, rfl, H', ⟨Nat.le_refl _⟩, HO_0, HK, HB⟩
  case round =>
    clear H' HO_0 HK HB
    obtain ⟨x0_1, x1_1, x5_1, rfl, rfl, HA, HK1, HO_0, HK, HB⟩ := hrel
    cases gk with
    | zero => exact absurd HA.out (by simp [laws_markDependS.l0])
    | succ k1 =>
      have H := HA.out
      clear HA
      simp only [laws_markDependS.l0] at H
      by_cases c3 : x5_1 < (x0_1.length : Int)
      · rw [if_pos c3] at H
        have c3b0 : decide (x5_1 < (x0_1.length : Int)) = true := decide_eq_true c3
        by_cases c4 : 0 ≤ x5_1
        · rw [if_pos c4] at H
          have c4b0 : decide (0 ≤ x5_1) = true := decide_eq_true c4
          obtain ⟨⟨m0, y0⟩, A0, H⟩ := Option.bind_eq_some_iff.1 H
          obtain ⟨⟨m1, y1⟩, A1, H⟩ := Option.bind_eq_some_iff.1 H
          have B0 := Aside0.mk A0
          have B1 := Aside0.mk A1
          have H' := Aside0.mk H
          clear H A0 A1
          obtain ⟨Ao6, co6, eo6⟩ := Kd.S_slice HO_0.out
          subst eo6
          have p5 := c4
          have q5 := c3
          clear c3 c4
          obtain ⟨go5, co5, eo5, gb5, gl5, cl5, HG5⟩ := Kd.S_form HO_0.out (by omega)
          (first | cases eo5 | (injection eo5 with ea_ en_ ec_; (first | subst ea_ | (injection ea_ with ea_; subst ea_)); subst ec_; clear en_))
          obtain ⟨oki, cs, hcl, hM, hcc, hfr, hoki, hH⟩ := Kd.S_elem HO_0.out z37 x5_1 p5 q5
          replace hM : k37.M wr w0.heap.size oki (rd_T37 x0_1 x5_1) cs := hM
          obtain ⟨v0, v1, o0, o1, rfl, hs0, hs1, hdis, g0, g1⟩ := k37_openD hM
          have hx5_0 : wr.cell? ⟨go5, x5_1.toNat * 2, none⟩ = some v0 := hcc 0 _ rfl
          have hx5_1' := Aside0.mk (show wr.cell? ⟨go5, x5_1.toNat * 2 + 1, none⟩ = some v1 from hcc 1 _ rfl)
          have HH := Aside0.mk hH
          have HG0 := Aside0.mk g0
          have HG1 := Aside0.mk g1
          have HS0 := Aside0.mk hs0
          have HS1 := Aside0.mk hs1
          have HD := Aside0.mk hdis
          have HI := Aside0.mk hoki
          clear hcl hM hcc hfr hoki hH g0 g1 hs0 hs1 hdis HO_0 gb5 gl5 HG5 cl5
          replace p5 := eq_true p5
          replace q5 := eq_true q5
          obtain ⟨Av0, cv0, ev0⟩ := Kd.R_slice HG0.out
          subst ev0
          obtain ⟨Av1, cv1, ev1⟩ := Kd.R_slice HG1.out
          subst ev1
          go_upto_region 5 with (go_at_call 31; refine (laws_markIntS.calls k1 o0 _ _ x1_1 m0 y0 w0 _ HB.out HG0.out B0.out).mono ?_; rintro e w8 ⟨rfl, hr, hb, hk⟩)
          have HB8 := Aside0.mk hb
          have HR8 := Aside0.mk (R_again rfl HG0.out hr)
          have HG8 := Aside0.mk (Kd.R_kept HG1.out hk (fun k_ h1_ h0_ => HD.out k_ h0_ h1_))
          have HH8 := Aside0.mk (Kd.H_kept HH.out hk (fun k_ _ hn_ h0_ => hn_ (HS0.out k_ h0_)))
          have HK8 := Aside0.mk (HK.out.then_ hk (fun k_ h0_ => .inl (HI.out k_ (HS0.out k_ h0_)).1))
          have hx8_1 := cell_kept hx5_1'.out hk (fun h0_ => (HI.out _ (HS0.out _ h0_)).2 rfl)
          clear hr hb hk hx5_0 hx5_1' HB HK HG0 HG1 HH
          go_upto_region 3 with (go_at_call 31; refine (laws_markIntS.calls k1 o1 _ _ m0 m1 y1 w0 _ HB8.out HG8.out B1.out).mono ?_; rintro e w9 ⟨rfl, hr, hb, hk⟩)
          have HB9 := Aside0.mk hb
          have HR9 := Aside0.mk (R_again rfl HG8.out hr)
          have HG9 := Aside0.mk (Kd.R_kept HR8.out hk (fun k_ h0_ h1_ => HD.out k_ h0_ h1_))
          have HH9 := Kd.H_kept HH8.out hk (fun k_ _ hn_ h0_ => hn_ (HS1.out k_ h0_))
          have HK9 := Aside0.mk (HK8.out.then_ hk (fun k_ h0_ => .inl (HI.out k_ (HS1.out k_ h0_)).1))
          have HO9 := Aside0.mk (Kd.H_back HH9 (k37_mkD w9 _ oki ⟨y0, y1⟩ HS0.out HS1.out HD.out HG9.out HR9.out) (fun _ hk_ => hk_))
          clear hr hb hk hx8_1 HB8 HK8 HG8 HH8 HR8 HR9 HG9 HH9
          go_wp2
          go_roundg k1
          case measure => have := HK1.out; omega
          case rel => exact ⟨_, m1, _, rfl, rfl, H', ⟨by have := HK1.out; omega⟩, HO9, HK9, HB9⟩
        · rw [if_neg c4] at H
          exact absurd H (by simp)
      · rw [if_neg c3] at H
        have c3b0 : decide (x5_1 < (x0_1.length : Int)) = false := decide_eq_false c3
        simp only [Option.some.injEq, Prod.mk.injEq] at H
        obtain ⟨rfl, rfl⟩ := H
        obtain ⟨Ao9, co9, eo9⟩ := Kd.S_slice HO_0.out
        subst eo9
        go_wp2
        go_ret
        exact ⟨rfl, HO_0.out, HB.out, HK.out⟩

/-! ### laws_heldIntS: function 32 -/
def laws_heldIntS.l0 : Nat→List Int→Int→Int→Option (Int)
 | 0,_,_,_=>none
 | k + 1,x0,x1,x5=>if x5 < (x0.length:Int) then (if 0≤x5 then (if (rd x0 x5)=x1 then (laws_heldIntS.l0 k x0 (wrap64 (x1 + 1)) (wrap64 (x5 + 1))) else (none)) else (none)) else (some x1)
def laws_heldIntS.f (k:Nat) (l0:List Int) (a1:Int):Option (Int):=laws_heldIntS.l0 k l0 a1 0
theorem laws_heldIntS.mono_l : ∀ k,(∀ y0 y1 y2,LeO (laws_heldIntS.l0 k y0 y1 y2) (laws_heldIntS.l0 (k + 1) y0 y1 y2))
 | 0=>fun _ _ _ r h=>by simp [laws_heldIntS.l0] at h
 | k + 1=>by
  have ih0:=laws_heldIntS.mono_l k
  ·intro y0 y1 y2;unfold laws_heldIntS.l0
   repeat' first
   | (with_reducible exact ih0 _ _ _)
   | (with_reducible exact LeO.refl _)
   | (with_reducible exact LeO.none _)
   | (with_reducible refine LeO.ite ?_ ?_)
   | (with_reducible refine LeO.bind ?_ (fun _=>?_))
   | exact ih0 _ _ _
   | exact LeO.none _
   | refine LeO.ite ?_ ?_
   | refine LeO.bind ?_ (fun _=>?_)
theorem laws_heldIntS.mono : ∀ a0 a1 k,LeO (laws_heldIntS.f k a0 a1) (laws_heldIntS.f (k + 1) a0 a1):=by
 intro a0 a1 k;have ih0:=laws_heldIntS.mono_l k;unfold laws_heldIntS.f
 repeat' first
   | (with_reducible exact ih0 _ _ _)
   | (with_reducible exact LeO.refl _)
   | (with_reducible exact LeO.none _)
   | (with_reducible refine LeO.ite ?_ ?_)
   | (with_reducible refine LeO.bind ?_ (fun _=>?_))
   | exact ih0 _ _ _
   | exact LeO.none _
   | refine LeO.ite ?_ ?_
   | refine LeO.bind ?_ (fun _=>?_)
set_option maxHeartbeats 8000000 in
set_option maxRecDepth 100000 in
theorem laws_heldIntS.calls (k:Nat) (A0:Option Addr) (c0:Nat) (l0:List Int) (a1:Int) (r:Int) (w:World) (hr0:Kd.C (Kd.int .i64) w A0 l0.length l0) (hc0:l0.length≤c0) (h:laws_heldIntS.f k l0 a1=some r) :
  Calls Try.prog 32 #[.slice A0 l0.length c0,.int .i64 a1] w fun e w'=>e=.returned (.int .i64 r)∧Drawn0 w w':=by
 have HR0:=qK hr0;have HC0:=qK hc0;clear hr0 hc0;have H:(laws_heldIntS.l0 k l0 a1 0)=some r:=h;clear h;have H':=qK H;clear H;go_enter Try.func32,Try.ntmps32
 go_wp2
 go_loopg [1,5] k (fun kq v1 v5 w'=>∃ (x1_1:Int) (x5_1:Int),v1=.int .i64 x1_1∧v5=.int .i64 x5_1∧Aside0 (laws_heldIntS.l0 kq l0 x1_1 x5_1=some r)∧Aside0 (kq≤k)∧Drawn0 w w')
 case atStart=>exact ⟨(a1),(0),(by first|rfl|(simp;done)|(simp [*];done)),(by first|rfl|(simp;done)|(simp [*];done)),H',⟨Nat.le_refl _⟩,by repeat (first|exact Drawn0.refl _|apply Drawn0.step)⟩
 case round =>
  clear H';try clear p2
  obtain ⟨x1_1,x5_1,rfl,rfl,HA,HK1,⟨m1,rfl⟩⟩:=hrel;cases gk with
  | zero=>exact absurd HA.out (by simp [laws_heldIntS.l0])
  | succ k1 =>
   have H:=HA.out;clear HA;simp only [laws_heldIntS.l0] at H;by_cases c3:x5_1 < (l0.length:Int)
   ·rw [if_pos c3] at H;have c3b0:decide (x5_1 < (l0.length:Int))=true:=decide_eq_true c3;clear c3;by_cases c4:0≤x5_1
    ·rw [if_pos c4] at H;have c4b0:decide (0≤x5_1)=true:=decide_eq_true c4;clear c4;by_cases c5:(rd l0 x5_1)=x1_1
     ·rw [if_pos c5] at H;have c5b0:((rd l0 x5_1) == x1_1)=true:=beq_iff_eq.mpr c5;have c5b1:((rd l0 x5_1) != x1_1)=false:=bne_eq_false_iff_eq.mpr c5;clear c5;have H':=qK H;clear H;have p344:0≤(x5_1:Int):=of_decide_eq_true (by first|(with_reducible assumption)|assumption);have q344:x5_1 < (l0.length:Int):=of_decide_eq_true (by first|(with_reducible assumption)|assumption);obtain ⟨ad344,e344,hx344_0⟩:=Kd.at_int HR0.out x5_1 p344 q344;cases e344
      replace p344:=eq_true p344;replace q344:=eq_true q344;go_wp2
      go_roundg k1
      case measure=>have:=HK1.out;omega
      case rel=>exact ⟨(wrap64 (x1_1 + 1)),(wrap64 (x5_1 + 1)),(by first|rfl|(simp;done)|(simp [*];done)),(by first|rfl|(simp;done)|(simp [*];done)),H',⟨by have:=HK1.out;omega⟩,by repeat (first|exact Drawn0.refl _|apply Drawn0.step)⟩
     ·rw [if_neg c5] at H;exact absurd H (by simp)
    ·rw [if_neg c4] at H;exact absurd H (by simp)
   ·rw [if_neg c3] at H;have c3b0:decide (x5_1 < (l0.length:Int))=false:=decide_eq_false c3;clear c3;obtain rfl:=Option.some.inj H;go_wp2
    go_ret
    exact ⟨by first|rfl|(simp;done)|(simp [*];done),by repeat (first|exact Drawn0.refl _|apply Drawn0.step)⟩

/-! ### laws_heldDependS: function 11 -/
def laws_heldDependS.l0 : Nat→List (S37)→Int→Int→Option (Int)
 | 0,_,_,_=>none
 | k + 1,x0,x1,x5=>if x5 < (x0.length:Int) then (if 0≤x5 then ((laws_heldIntS.f k ((rd_T37 x0 x5).f0) x1).bind fun t346=>(if t346 < 0 then (none) else ((laws_heldIntS.f k ((rd_T37 x0 x5).f1) t346).bind fun t348=>(if t348 < 0 then (none) else (laws_heldDependS.l0 k x0 t348 (wrap64 (x5 + 1))))))) else (none)) else (some x1)
def laws_heldDependS.f (k:Nat) (l0:List (S37)) (a1:Int):Option (Int):=laws_heldDependS.l0 k l0 a1 0
theorem laws_heldDependS.mono_l : ∀ k,(∀ y0 y1 y2,LeO (laws_heldDependS.l0 k y0 y1 y2) (laws_heldDependS.l0 (k + 1) y0 y1 y2))
 | 0=>fun _ _ _ r h=>by simp [laws_heldDependS.l0] at h
 | k + 1=>by
  have ih0:=laws_heldDependS.mono_l k
  ·intro y0 y1 y2;unfold laws_heldDependS.l0
   repeat' first
   | (with_reducible exact ih0 _ _ _)
   | (with_reducible exact laws_heldIntS.mono _ _ _)
   | (with_reducible exact LeO.refl _)
   | (with_reducible exact LeO.none _)
   | (with_reducible refine LeO.ite ?_ ?_)
   | (with_reducible refine LeO.bind ?_ (fun _=>?_))
   | exact ih0 _ _ _
   | exact laws_heldIntS.mono _ _ _
   | exact LeO.none _
   | refine LeO.ite ?_ ?_
   | refine LeO.bind ?_ (fun _=>?_)
theorem laws_heldDependS.mono : ∀ a0 a1 k,LeO (laws_heldDependS.f k a0 a1) (laws_heldDependS.f (k + 1) a0 a1):=by
 intro a0 a1 k;have ih0:=laws_heldDependS.mono_l k;unfold laws_heldDependS.f
 repeat' first
   | (with_reducible exact ih0 _ _ _)
   | (with_reducible exact laws_heldIntS.mono _ _ _)
   | (with_reducible exact LeO.refl _)
   | (with_reducible exact LeO.none _)
   | (with_reducible refine LeO.ite ?_ ?_)
   | (with_reducible refine LeO.bind ?_ (fun _=>?_))
   | exact ih0 _ _ _
   | exact laws_heldIntS.mono _ _ _
   | exact LeO.none _
   | refine LeO.ite ?_ ?_
   | refine LeO.bind ?_ (fun _=>?_)
set_option maxHeartbeats 8000000 in
set_option maxRecDepth 100000 in
theorem laws_heldDependS.calls (k:Nat) (A0:Option Addr) (c0:Nat) (l0:List (S37)) (a1:Int) (r:Int) (w:World) (hr0:Kd.C k37 w A0 l0.length l0) (hc0:l0.length≤c0) (h:laws_heldDependS.f k l0 a1=some r) :
  Calls Try.prog 11 #[.slice A0 l0.length c0,.int .i64 a1] w fun e w'=>e=.returned (.int .i64 r)∧Drawn0 w w':=by
 have HR0:=qK hr0;have HC0:=qK hc0;clear hr0 hc0;have H:(laws_heldDependS.l0 k l0 a1 0)=some r:=h;clear h;have H':=qK H;clear H;go_enter Try.func11,Try.ntmps11
 go_wp2
 go_loopg [1,5] k (fun kq v1 v5 w'=>∃ (x1_1:Int) (x5_1:Int),v1=.int .i64 x1_1∧v5=.int .i64 x5_1∧Aside0 (laws_heldDependS.l0 kq l0 x1_1 x5_1=some r)∧Aside0 (kq≤k)∧Drawn0 w w')
 case atStart=>exact ⟨(a1),(0),(by first|rfl|(simp;done)|(simp [*];done)),(by first|rfl|(simp;done)|(simp [*];done)),H',⟨Nat.le_refl _⟩,by repeat (first|exact Drawn0.refl _|apply Drawn0.step)⟩
 case round =>
  clear H';try clear c1
  try clear p2
  obtain ⟨x1_1,x5_1,rfl,rfl,HA,HK1,⟨m1,rfl⟩⟩:=hrel;cases gk with
  | zero=>exact absurd HA.out (by simp [laws_heldDependS.l0])
  | succ k1 =>
   have H:=HA.out;clear HA;simp only [laws_heldDependS.l0] at H;by_cases c3:x5_1 < (l0.length:Int)
   ·rw [if_pos c3] at H;have c3b0:decide (x5_1 < (l0.length:Int))=true:=decide_eq_true c3;clear c3;by_cases c4:0≤x5_1
    ·rw [if_pos c4] at H;have c4b0:decide (0≤x5_1)=true:=decide_eq_true c4;clear c4;replace H:=Option.bind_eq_some_iff.mp H;obtain ⟨t346,A50,H⟩:=H;replace H:(if t346 < 0 then (none) else ((laws_heldIntS.f k1 ((rd_T37 l0 x5_1).f1) t346).bind fun t348=>(if t348 < 0 then (none) else (laws_heldDependS.l0 k1 l0 t348 (wrap64 (x5_1 + 1))))))=some r:=H;have A5:=qK A50;clear A50;by_cases c6:t346 < 0
     ·rw [if_pos c6] at H;exact absurd H (by simp)
     ·rw [if_neg c6] at H;have c6b0:decide (t346 < 0)=false:=decide_eq_false c6;clear c6;replace H:=Option.bind_eq_some_iff.mp H;obtain ⟨t348,A70,H⟩:=H;replace H:(if t348 < 0 then (none) else (laws_heldDependS.l0 k1 l0 t348 (wrap64 (x5_1 + 1))))=some r:=H;have A7:=qK A70;clear A70;by_cases c8:t348 < 0
      ·rw [if_pos c8] at H;exact absurd H (by simp)
      ·rw [if_neg c8] at H;have c8b0:decide (t348 < 0)=false:=decide_eq_false c8;clear c8;have H':=qK H;clear H;have p345:0≤(x5_1:Int):=of_decide_eq_true (by first|(with_reducible assumption)|assumption);have q345:x5_1 < (l0.length:Int):=of_decide_eq_true (by first|(with_reducible assumption)|assumption);obtain ⟨ad345,A345_0,c345_0,A345_1,c345_1,e345,hx345_0,hx345_1,hl345_0,hi345_0,hl345_1,hi345_1⟩:=at_T37 HR0.out x5_1 p345 q345;cases e345
       have HR345_0:=qK hi345_0;have HC345_0:=qK hl345_0;clear hi345_0 hl345_0;have HR345_1:=qK hi345_1;have HC345_1:=qK hl345_1;clear hi345_1 hl345_1;replace p345:=eq_true p345;replace q345:=eq_true q345;go_wp2_with (first|((with_reducible refine gate_callee (f:=32) rfl ?_);refine goesL_ (some 18) rfl rfl Try.func32 (by kernel_rfl) rfl #[.slice A345_0 ((rd_T37 l0 x5_1).f0).length c345_0,.int .i64 x1_1] rfl (by (try simp only [mT,mC,mN]);first|done|rfl|(simp only [lD,lT];rfl)) ?_;(with_reducible refine (laws_heldIntS.calls k1 _ _ ((rd_T37 l0 x5_1).f0) x1_1 t346 _ ?side1 ?side2 A5.out).mono ?_);(case side1=>repeat (first|exact HR345_0.out|(with_reducible first|refine cL ?_ _|refine cN ?_ _|refine cW ?_)));(case side2=>exact HC345_0.out);rintro e w' ⟨rfl,⟨nd,rfl⟩⟩;refine ⟨_,rfl,?_⟩;have p347:0≤(x5_1:Int):=of_decide_eq_true (by first|(with_reducible assumption)|assumption);have q347:x5_1 < (l0.length:Int):=of_decide_eq_true (by first|(with_reducible assumption)|assumption);obtain ⟨ad347,A347_0,c347_0,A347_1,c347_1,e347,hx347_0,hx347_1,hl347_0,hi347_0,hl347_1,hi347_1⟩:=at_T37 HR0.out x5_1 p347 q347;obtain rfl:ad345=ad347:=(by injection e347);have HR347_0:=qK hi347_0;have HC347_0:=qK hl347_0;clear hi347_0 hl347_0;have HR347_1:=qK hi347_1;have HC347_1:=qK hl347_1;clear hi347_1 hl347_1;replace p347:=eq_true p347;replace q347:=eq_true q347;have ea_:=Option.some.inj (hx345_0.symm.trans hx347_0);injection ea_ with ea_ en_ ec_;subst ea_;subst ec_;clear en_;have ea_:=Option.some.inj (hx345_1.symm.trans hx347_1);injection ea_ with ea_ en_ ec_;subst ea_;subst ec_;clear en_)|((with_reducible refine gate_callee (f:=32) rfl ?_);refine goesL_ (some 27) rfl rfl Try.func32 (by kernel_rfl) rfl #[.slice A345_1 ((rd_T37 l0 x5_1).f1).length c345_1,.int .i64 t346] rfl (by (try simp only [mT,mC,mN]);first|done|rfl|(simp only [lD,lT];rfl)) ?_;(with_reducible refine (laws_heldIntS.calls k1 _ _ ((rd_T37 l0 x5_1).f1) t346 t348 _ ?side1 ?side2 A7.out).mono ?_);(case side1=>repeat (first|exact HR347_1.out|(with_reducible first|refine cL ?_ _|refine cN ?_ _|refine cW ?_)));(case side2=>exact HC347_1.out);rintro e w' ⟨rfl,⟨nd,rfl⟩⟩;refine ⟨_,rfl,?_⟩))
       go_roundg k1
       case measure=>have:=HK1.out;omega
       case rel=>exact ⟨(t348),(wrap64 (x5_1 + 1)),(by first|rfl|(simp;done)|(simp [*];done)),(by first|rfl|(simp;done)|(simp [*];done)),H',⟨by have:=HK1.out;omega⟩,by repeat (first|exact Drawn0.refl _|apply Drawn0.step)⟩
    ·rw [if_neg c4] at H;exact absurd H (by simp)
   ·rw [if_neg c3] at H;have c3b0:decide (x5_1 < (l0.length:Int))=false:=decide_eq_false c3;clear c3;obtain rfl:=Option.some.inj H;go_wp2
    go_ret
    exact ⟨by first|rfl|(simp;done)|(simp [*];done),by repeat (first|exact Drawn0.refl _|apply Drawn0.step)⟩

/-! ### laws_FnExactCoverOf: function 3 -/
theorem laws_szIntS_some (l : List Int) (a : Int) (h0 : 0 ≤ a) (h1 : a ≤ 1048576) (hl : l.length ≤ maxLen) : laws_szIntS.f l a = some (if a < (l.length : Int) then -1 else a - (l.length : Int)) := by
  unfold maxLen at hl
  unfold laws_szIntS.f
  rw [wrap_id (by omega) (by omega)]
  by_cases h : a < (l.length : Int)
  · rw [if_pos (by omega), if_pos h]
  · rw [if_neg (by omega), if_neg h]
theorem toIntS_ev (l : List Int) (hl : l.length ≤ 1048576) : Ev (fun k => laws_toIntS.f k l) l := by
  have loop := loop_up (n := l.length) (P := fun i => ∀ x : List Int, x.length = l.length → x.take i = l.take i → Ev (fun k => laws_toIntS.l0 k l x (i : Int)) l) ?_ ?_
  · unfold laws_toIntS.f
    refine Ev.pos (by omega) (Ev.pos (by omega) ?_)
    exact loop 0 (Nat.zero_le _) (List.replicate _ 0) (by simp) (by simp)
  · intro x hx ht
    refine Ev.succ ?_
    simp only [laws_toIntS.l0]
    refine Ev.neg (by omega) (Ev.const ?_)
    rw [List.take_of_length_le (by omega), List.take_of_length_le (by omega)] at ht
    rw [ht]
  · intro i hi ih x hx ht
    refine Ev.succ ?_
    simp only [laws_toIntS.l0]
    refine Ev.pos (by omega) (Ev.pos (by omega) (Ev.pos (by omega) ?_))
    rw [wrap_add (by omega) (by omega), rd_nat hi]
    refine ih _ (by simp [hx]) ?_
    rw [List.take_succ_eq_append_getElem (by simp [hx]; omega), List.take_succ_eq_append_getElem hi]
    simp only [Int.toNat_natCast, List.getElem_set_self]
    rw [List.take_set_of_le (by omega), ht]
theorem laws_toIntS_x (l : List Int) (hl : l.length ≤ 1048576) : ∃ k, laws_toIntS.f k l = some l := (toIntS_ev l hl).rounds
theorem eqIntS_ev (l : List Int) (hl : l.length ≤ 1048576) : Ev (fun k => laws_eqIntS.f k l l) true := by
  have loop := loop_up (n := l.length) (P := fun i => Ev (fun k => laws_eqIntS.l0 k l l (i : Int)) true) ?_ ?_
  · unfold laws_eqIntS.f
    exact Ev.pos rfl (loop 0 (Nat.zero_le _))
  · refine Ev.succ ?_
    simp only [laws_eqIntS.l0]
    exact Ev.neg (by omega) (Ev.const rfl)
  · intro i hi ih
    refine Ev.succ ?_
    simp only [laws_eqIntS.l0]
    refine Ev.pos (by omega) (Ev.pos (by omega) (Ev.pos (by omega) (Ev.pos trivial ?_)))
    rw [wrap_add (by omega) (by omega)]
    exact ih
theorem laws_eqIntS_x (l : List Int) (hl : l.length ≤ 1048576) : ∃ k, laws_eqIntS.f k l l = some true := (eqIntS_ev l hl).rounds
def markedIntS (n : Nat) (a : Int) : List Int := (List.range n).map (fun (j : Nat) => a + (j : Int))
def cntIntS (l : List Int) : Int := (l.length : Int)
theorem markIntS_ev (l : List Int) (a : Int) (hl : l.length ≤ 1048576) (h0 : 0 ≤ a) (h1 : a ≤ 1099511627776) : Ev (fun k => laws_markIntS.f k l a) (a + (l.length : Int), markedIntS l.length a) := by
  unfold markedIntS
  have loop := loop_up (n := l.length) (P := fun i => ∀ x : List Int, x.length = l.length → x.take i = (List.range i).map (fun (j : Nat) => a + (j : Int)) → Ev (fun k => laws_markIntS.l0 k x (a + (i : Int)) (i : Int)) (a + (l.length : Int), (List.range l.length).map (fun (j : Nat) => a + (j : Int)))) ?_ ?_
  · unfold laws_markIntS.f
    have := loop 0 (Nat.zero_le _) l rfl (by simp)
    rwa [show a + ((0 : Nat) : Int) = a by omega] at this
  · intro x hx ht
    refine Ev.succ ?_
    simp only [laws_markIntS.l0]
    refine Ev.neg (by omega) (Ev.const ?_)
    rw [List.take_of_length_le (by omega)] at ht
    rw [ht]
  · intro i hi ih x hx ht
    have h2 : wrap64 ((i : Int) + 1) = ((i + 1 : Nat) : Int) := by unfold wrap64; omega
    have h3 : wrap64 (a + (i : Int) + 1) = a + ((i + 1 : Nat) : Int) := by unfold wrap64; omega
    refine Ev.succ ?_
    simp only [laws_markIntS.l0]
    refine Ev.pos (by omega) (Ev.pos (by omega) ?_)
    rw [h3, h2]
    refine ih _ (by simp [hx]) ?_
    rw [List.take_succ_eq_append_getElem (by simp [hx]; omega), List.range_succ, List.map_append]
    simp only [Int.toNat_natCast, List.getElem_set_self]
    rw [List.take_set_of_le (by omega), ht]
    rfl
theorem laws_markIntS_x (l : List Int) (a : Int) (hl : l.length ≤ 1048576) (h0 : 0 ≤ a) (h1 : a ≤ 1099511627776) : ∃ k, laws_markIntS.f k l a = some (a + cntIntS l, markedIntS l.length a) := (markIntS_ev l a hl h0 h1).rounds
theorem cntIntS_ok (l : List Int) (hl : l.length ≤ 1048576) : 0 ≤ cntIntS l ∧ cntIntS l ≤ 16777216 := by unfold cntIntS; omega
theorem cntIntS_le (l : List Int) (hl : l.length ≤ 1048576) : 0 ≤ cntIntS l ∧ cntIntS l ≤ 16777216 := by unfold cntIntS; omega
theorem heldIntS_ev (n : Nat) (a : Int) (hn : n ≤ 1048576) (h0 : 0 ≤ a) (h1 : a ≤ 1099511627776) : Ev (fun k => laws_heldIntS.f k (markedIntS n a) a) (a + (n : Int)) := by
  unfold markedIntS
  have loop := loop_up (n := n) (P := fun i => Ev (fun k => laws_heldIntS.l0 k ((List.range n).map (fun (j : Nat) => a + (j : Int))) (a + (i : Int)) (i : Int)) (a + (n : Int))) ?_ ?_
  · unfold laws_heldIntS.f
    have := loop 0 (Nat.zero_le _)
    rwa [show a + ((0 : Nat) : Int) = a by omega] at this
  · refine Ev.succ ?_
    simp only [laws_heldIntS.l0]
    exact Ev.neg (by simp) (Ev.const rfl)
  · intro i hi ih
    have h2 : wrap64 ((i : Int) + 1) = ((i + 1 : Nat) : Int) := by unfold wrap64; omega
    have h3 : wrap64 (a + (i : Int) + 1) = a + ((i + 1 : Nat) : Int) := by unfold wrap64; omega
    refine Ev.succ ?_
    simp only [laws_heldIntS.l0]
    refine Ev.pos (by simp; omega) (Ev.pos (by omega) (Ev.pos (by rw [rd_nat (by simpa using hi)]; simp) ?_))
    rw [h3, h2]
    exact ih
theorem laws_heldIntS_x (l : List Int) (a : Int) (hl : l.length ≤ 1048576) (h0 : 0 ≤ a) (h1 : a ≤ 1099511627776) : ∃ k, laws_heldIntS.f k (markedIntS l.length a) a = some (a + cntIntS l) := (heldIntS_ev l.length a hl h0 h1).rounds
def wtD (x : S45) : Nat := x.f0.length + x.f1.length
theorem sum_ge : ∀ {l : List Nat} {x : Nat}, x ∈ l → x ≤ l.sum
  | a :: l, x, h => by
    rw [List.sum_cons]
    rcases List.mem_cons.1 h with rfl | h
    · omega
    · have := sum_ge h; omega
def szOk_laws_szDependS (l : List S45) : Prop := l.length + (l.map wtD).sum ≤ 1048576
theorem laws_szDependS_x (l : List S45) (a : Int) (h0 : 0 ≤ a) (h1 : a ≤ 1048576) (hl : l.length ≤ maxLen ∧ ∀ x, x ∈ l → (x.f0.length ≤ maxLen ∧ ∀ y, y ∈ x.f0 → (Lit.int .i64 y).wf = true) ∧ (x.f1.length ≤ maxLen ∧ ∀ y, y ∈ x.f1 → (Lit.int .i64 y).wf = true)) :
    ∃ s, (∃ k, laws_szDependS.f k l a = some s) ∧ (s < 0 ∨ szOk_laws_szDependS l ∧ 0 ≤ s ∧ s ≤ 1048576) := by
  have hm : l.length ≤ 9223372036854775807 := by have := hl.1; unfold maxLen at this; omega
  have loop := loop_up (n := l.length) (P := fun i => ∀ b : Int, 0 ≤ b → b ≤ 1048576 → ∃ s, Ev (fun k => laws_szDependS.l0 k l b (i : Int)) s ∧ (s < 0 ∨ (((l.drop i).map wtD).sum : Nat) ≤ b ∧ 0 ≤ s ∧ s ≤ b)) ?_ ?_
  · unfold laws_szDependS.f
    rw [wrap_id (by omega) (by omega)]
    by_cases h : a - (l.length : Int) < 0
    · exact ⟨-1, (Ev.pos h (Ev.const rfl)).rounds, .inl (by omega)⟩
    · obtain ⟨s, hs, hq⟩ := loop 0 (Nat.zero_le _) (a - (l.length : Int)) (by omega) (by omega)
      refine ⟨s, (Ev.neg h hs).rounds, ?_⟩
      rcases hq with hq | ⟨q1, q2, q3⟩
      · exact .inl hq
      · refine .inr ⟨?_, q2, by omega⟩
        unfold szOk_laws_szDependS
        simp only [List.drop_zero] at q1
        omega
  · intro b b0 b1
    refine ⟨b, Ev.succ ?_, .inr ⟨by simp; omega, b0, by omega⟩⟩
    simp only [laws_szDependS.l0]
    exact Ev.neg (by omega) (Ev.const rfl)
  · intro i hi ih b b0 b1
    have hx := hl.2 l[i] (List.getElem_mem hi)
    have hr : rd_T45 l (i : Int) = l[i] := by simp [rd_T45, hi]
    have hd : ((l.drop i).map wtD).sum = wtD l[i] + ((l.drop (i + 1)).map wtD).sum := by rw [List.drop_eq_getElem_cons hi, List.map_cons, List.sum_cons]
    have e1 := laws_szIntS_some l[i].f0 b b0 b1 hx.1.1
    by_cases c1 : b < (l[i].f0.length : Int)
    · rw [if_pos c1] at e1
      refine ⟨-1, Ev.succ ?_, .inl (by omega)⟩
      simp only [laws_szDependS.l0]
      rw [hr]
      refine Ev.pos (by omega) (Ev.pos (by omega) (Ev.bind (Ev.const (by unfold laws_szDepend.f; rw [e1]; simp; rfl)) (Ev.pos (by omega) (Ev.const rfl))))
    rw [if_neg c1] at e1
    have e2 := laws_szIntS_some l[i].f1 (b - (l[i].f0.length : Int)) (by omega) (by omega) hx.2.1
    by_cases c2 : b - (l[i].f0.length : Int) < (l[i].f1.length : Int)
    · rw [if_pos c2] at e2
      refine ⟨-1, Ev.succ ?_, .inl (by omega)⟩
      simp only [laws_szDependS.l0]
      rw [hr]
      refine Ev.pos (by omega) (Ev.pos (by omega) (Ev.bind (Ev.const (by unfold laws_szDepend.f; rw [e1]; simp only [Option.bind_some]; rw [if_neg (by omega), e2]; simp; rfl)) (Ev.pos (by omega) (Ev.const rfl))))
    rw [if_neg c2] at e2
    obtain ⟨s, hs, hq⟩ := ih (b - (l[i].f0.length : Int) - (l[i].f1.length : Int)) (by omega) (by omega)
    refine ⟨s, Ev.succ ?_, ?_⟩
    · simp only [laws_szDependS.l0]
      rw [hr, wrap_add (by omega) (by omega)]
      exact Ev.pos (by omega) (Ev.pos (by omega) (Ev.bind (Ev.const (by unfold laws_szDepend.f; rw [e1]; simp only [Option.bind_some]; rw [if_neg (by omega), e2]; simp only [Option.bind_some]; rw [if_neg (by omega)])) (Ev.neg (by omega) hs)))
    · rcases hq with hq | ⟨q1, q2, q3⟩
      · exact .inl hq
      · rw [hd]; unfold wtD at *; exact .inr ⟨by omega, q2, by omega⟩
def cvD (x : S45) : S37 := ⟨x.f0, x.f1⟩
def cvDependS (l : List S45) : List S37 := l.map cvD
theorem wtD_le {l : List S45} (h : szOk_laws_szDependS l) : l.length ≤ 1048576 ∧ ∀ x ∈ l, x.f0.length ≤ 1048576 ∧ x.f1.length ≤ 1048576 := by
  unfold szOk_laws_szDependS at h
  refine ⟨by omega, fun x hx => ?_⟩
  have := sum_ge (List.mem_map_of_mem (f := wtD) hx)
  unfold wtD at *
  omega
theorem laws_toDependS_x (l : List S45) (h : szOk_laws_szDependS l) : ∃ k, laws_toDependS.f k l = some (cvDependS l) := by
  obtain ⟨hl, hx⟩ := wtD_le h
  unfold cvDependS
  have loop := loop_up (n := l.length) (P := fun i => ∀ x : List S37, x.length = l.length → x.take i = (l.map cvD).take i → Ev (fun k => laws_toDependS.l0 k l x (i : Int)) (l.map cvD)) ?_ ?_
  · refine Ev.rounds ?_
    unfold laws_toDependS.f
    refine Ev.pos (by omega) (Ev.pos (by omega) ?_)
    exact loop 0 (Nat.zero_le _) (List.replicate _ z37) (by simp) (by simp)
  · intro x hx2 ht
    refine Ev.succ ?_
    simp only [laws_toDependS.l0]
    refine Ev.neg (by omega) (Ev.const ?_)
    rw [List.take_of_length_le (by omega), List.take_of_length_le (by simp)] at ht
    rw [ht]
  · intro i hi ih x hx2 ht
    have hr : rd_T45 l (i : Int) = l[i] := by simp [rd_T45, hi]
    obtain ⟨b0, b1⟩ := hx l[i] (List.getElem_mem hi)
    refine Ev.succ ?_
    simp only [laws_toDependS.l0]
    rw [hr]
    refine Ev.pos (by omega) (Ev.pos (by omega) (Ev.bind (a := (l[i].f0, l[i].f1)) ?_ (Ev.pos (by omega) ?_)))
    · unfold laws_toDepend.f
      exact Ev.bind (toIntS_ev _ b0) (Ev.bind (toIntS_ev _ b1) (Ev.const rfl))
    rw [wrap_add (by omega) (by omega)]
    refine ih _ (by simp [hx2]) ?_
    rw [List.take_succ_eq_append_getElem (by simp [hx2]; omega), List.take_succ_eq_append_getElem (by simpa using hi)]
    simp only [Int.toNat_natCast, List.getElem_set_self, List.getElem_map]
    rw [List.take_set_of_le (by omega), ht]
    rfl
def okDependS (l : List S37) : Prop := (l.length ≤ 1048576 ∧ ∀ x ∈ l, x.f0.length ≤ 1048576 ∧ x.f1.length ≤ 1048576) ∧ (l.map fun x => x.f0.length + x.f1.length).sum ≤ 16777216
theorem okDependS_cv {l : List S45} (h : szOk_laws_szDependS l) : okDependS (cvDependS l) := by
  obtain ⟨hl, hx⟩ := wtD_le h
  refine ⟨⟨by unfold cvDependS; simpa using hl, fun x hx2 => ?_⟩, ?_⟩
  · obtain ⟨y, hy, rfl⟩ := List.mem_map.1 hx2
    exact hx y hy
  · unfold szOk_laws_szDependS at h
    have : ((cvDependS l).map fun x => x.f0.length + x.f1.length).sum = (l.map wtD).sum := by
      unfold cvDependS
      rw [List.map_map]; rfl
    omega
theorem laws_eqDependS_x (l : List S37) (h : okDependS l) : ∃ k, laws_eqDependS.f k l l = some true := by
  obtain ⟨⟨hl, hx⟩, _⟩ := h
  have loop := loop_up (n := l.length) (P := fun i => Ev (fun k => laws_eqDependS.l0 k l l (i : Int)) true) ?_ ?_
  · refine Ev.rounds ?_
    unfold laws_eqDependS.f
    exact Ev.pos rfl (loop 0 (Nat.zero_le _))
  · refine Ev.succ ?_
    simp only [laws_eqDependS.l0]
    exact Ev.neg (by omega) (Ev.const rfl)
  · intro i hi ih
    have hr : rd_T37 l (i : Int) = l[i] := by simp [rd_T37, hi]
    obtain ⟨b0, b1⟩ := hx l[i] (List.getElem_mem hi)
    refine Ev.succ ?_
    simp only [laws_eqDependS.l0]
    rw [hr, wrap_add (by omega) (by omega)]
    refine Ev.pos (by omega) (Ev.pos (by omega) (Ev.pos (by omega) (Ev.bind (a := true) ?_ (Ev.pos rfl ih))))
    unfold laws_eqDepend.f
    exact Ev.bind (eqIntS_ev _ b0) (Ev.pos rfl (Ev.bind (eqIntS_ev _ b1) (Ev.pos rfl (Ev.const rfl))))
def cntDependS (l : List S37) : Int := (((l.map fun x => x.f0.length + x.f1.length).sum : Nat) : Int)
def markedDependS : List S37 → Int → List S37
  | [], _ => []
  | x :: l, a => ⟨markedIntS x.f0.length a, markedIntS x.f1.length (a + (x.f0.length : Int))⟩ :: markedDependS l (a + (x.f0.length : Int) + (x.f1.length : Int))
theorem markDependS_ev (l : List S37) (a : Int) (hl : l.length ≤ 1048576) (hx : ∀ x ∈ l, x.f0.length ≤ 1048576 ∧ x.f1.length ≤ 1048576) (h0 : 0 ≤ a) (h1 : a + cntDependS l ≤ 1099511627776) :
    Ev (fun k => laws_markDependS.f k l a) (a + cntDependS l, markedDependS l a) := by
  have key : ∀ (d : Nat) (x : List S37) (i : Nat) (p q : List S37) (b : Int), x = p ++ q → p.length = i → q.length = d → x.length ≤ 1048576 → (∀ z ∈ q, z.f0.length ≤ 1048576 ∧ z.f1.length ≤ 1048576) → 0 ≤ b → b + cntDependS q ≤ 1099511627776 →
      Ev (fun k => laws_markDependS.l0 k x b (i : Int)) (b + cntDependS q, p ++ markedDependS q b) := by
    intro d
    induction d with
    | zero =>
      intro x i p q b hxe hp hq hxl _ _ _
      obtain rfl := List.length_eq_zero_iff.1 hq
      refine Ev.succ ?_
      simp only [laws_markDependS.l0]
      refine Ev.neg (by rw [hxe]; simp [hp]) (Ev.const ?_)
      simp [cntDependS, markedDependS, hxe]
    | succ d ih =>
      intro x i p q b hxe hp hq hxl hb b0 b1
      obtain ⟨z, q, rfl⟩ : ∃ z t, q = z :: t := by cases q with
        | nil => simp at hq
        | cons z t => exact ⟨z, t, rfl⟩
      have hlen : x.length = i + (d + 1) := by rw [hxe, List.length_append, hp, hq]
      have hr : rd_T37 x (i : Int) = z := by rw [hxe]; simp [rd_T37, ← hp]
      obtain ⟨c0, c1⟩ := hb z List.mem_cons_self
      have hc : cntDependS (z :: q) = (z.f0.length : Int) + (z.f1.length : Int) + cntDependS q := by unfold cntDependS; rw [List.map_cons, List.sum_cons]; omega
      have hn : 0 ≤ cntDependS q := by unfold cntDependS; omega
      rw [hc] at b1
      refine Ev.succ ?_
      simp only [laws_markDependS.l0]
      rw [hr, wrap_add (by omega) (by omega)]
      refine Ev.pos (by omega) (Ev.pos (by omega) (Ev.bind (markIntS_ev _ b c0 b0 (by omega)) (Ev.bind (markIntS_ev _ (b + (z.f0.length : Int)) c1 (by omega) (by omega)) ?_)))
      have hset : x.set (i : Int).toNat ⟨markedIntS z.f0.length b, markedIntS z.f1.length (b + (z.f0.length : Int))⟩ = (p ++ [⟨markedIntS z.f0.length b, markedIntS z.f1.length (b + (z.f0.length : Int))⟩]) ++ q := by
        rw [hxe, Int.toNat_natCast, ← hp]; simp
      rw [hset]
      have := ih _ (i + 1) (p ++ [⟨markedIntS z.f0.length b, markedIntS z.f1.length (b + (z.f0.length : Int))⟩]) q (b + (z.f0.length : Int) + (z.f1.length : Int)) rfl (by simp [hp]) (by simpa using hq) (by simp at hlen hq ⊢; omega) (fun y hy => hb y (List.mem_cons_of_mem _ hy)) (by omega) (by omega)
      have e1 : b + (z.f0.length : Int) + (z.f1.length : Int) + cntDependS q = b + cntDependS (z :: q) := by rw [hc]; omega
      rw [e1] at this
      simpa [markedDependS, List.append_assoc] using this
  exact key l.length l 0 [] l a rfl rfl rfl hl hx h0 h1
theorem cntDependS_ok (l : List S37) (h : okDependS l) : 0 ≤ cntDependS l ∧ cntDependS l ≤ 16777216 := by
  have := h.2
  unfold cntDependS; omega
theorem cntDependS_sz {l : List S45} (h : szOk_laws_szDependS l) : 0 ≤ cntDependS (cvDependS l) ∧ cntDependS (cvDependS l) ≤ 16777216 := by
  unfold szOk_laws_szDependS at h
  have : cntDependS (cvDependS l) = (((l.map wtD).sum : Nat) : Int) := by
    unfold cntDependS cvDependS
    rw [List.map_map]; rfl
  rw [this]; omega
theorem laws_markDependS_x (l : List S37) (a : Int) (h : okDependS l) (h0 : 0 ≤ a) (h1 : a + cntDependS l ≤ 1099511627776) : ∃ k, laws_markDependS.f k l a = some (a + cntDependS l, markedDependS l a) := (markDependS_ev l a h.1.1 h.1.2 h0 h1).rounds
theorem markedDependS_len : ∀ (l : List S37) (a : Int), (markedDependS l a).length = l.length
  | [], _ => rfl
  | x :: l, a => by simp [markedDependS, markedDependS_len l]
theorem heldDependS_ev (l : List S37) (a : Int) (hl : l.length ≤ 1048576) (hx : ∀ x ∈ l, x.f0.length ≤ 1048576 ∧ x.f1.length ≤ 1048576) (h0 : 0 ≤ a) (h1 : a + cntDependS l ≤ 1099511627776) : Ev (fun k => laws_heldDependS.f k (markedDependS l a) a) (a + cntDependS l) := by
  have key : ∀ (d : Nat) (x : List S37) (i : Nat) (p : List S37) (q : List S37) (b : Int), x = p ++ markedDependS q b → p.length = i → q.length = d → x.length ≤ 1048576 → (∀ z ∈ q, z.f0.length ≤ 1048576 ∧ z.f1.length ≤ 1048576) → 0 ≤ b → b + cntDependS q ≤ 1099511627776 →
      Ev (fun k => laws_heldDependS.l0 k x b (i : Int)) (b + cntDependS q) := by
    intro d
    induction d with
    | zero =>
      intro x i p q b hxe hp hq hxl _ _ _
      obtain rfl := List.length_eq_zero_iff.1 hq
      refine Ev.succ ?_
      simp only [laws_heldDependS.l0]
      refine Ev.neg (by rw [hxe]; simp [hp, markedDependS]) (Ev.const ?_)
      simp [cntDependS]
    | succ d ih =>
      intro x i p q b hxe hp hq hxl hb b0 b1
      obtain ⟨z, q, rfl⟩ : ∃ z t, q = z :: t := by cases q with
        | nil => simp at hq
        | cons z t => exact ⟨z, t, rfl⟩
      have hlen : x.length = i + (d + 1) := by rw [hxe, List.length_append, hp, markedDependS_len, hq]
      have hr : rd_T37 x (i : Int) = ⟨markedIntS z.f0.length b, markedIntS z.f1.length (b + (z.f0.length : Int))⟩ := by rw [hxe]; simp [rd_T37, ← hp, markedDependS]
      obtain ⟨c0, c1⟩ := hb z List.mem_cons_self
      have hc : cntDependS (z :: q) = (z.f0.length : Int) + (z.f1.length : Int) + cntDependS q := by unfold cntDependS; rw [List.map_cons, List.sum_cons]; omega
      have hn : 0 ≤ cntDependS q := by unfold cntDependS; omega
      rw [hc] at b1
      refine Ev.succ ?_
      simp only [laws_heldDependS.l0]
      rw [hr, wrap_add (a := (i : Int)) (by omega) (by omega)]
      refine Ev.pos (by omega) (Ev.pos (by omega) (Ev.bind (heldIntS_ev z.f0.length b c0 b0 (by omega)) (Ev.neg (by omega) (Ev.bind (heldIntS_ev z.f1.length (b + (z.f0.length : Int)) c1 (by omega) (by omega)) (Ev.neg (by omega) ?_)))))
      have := ih x (i + 1) (p ++ [⟨markedIntS z.f0.length b, markedIntS z.f1.length (b + (z.f0.length : Int))⟩]) q (b + (z.f0.length : Int) + (z.f1.length : Int)) (by rw [hxe]; simp [markedDependS]) (by simp [hp]) (by simpa using hq) hxl (fun y hy => hb y (List.mem_cons_of_mem _ hy)) (by omega) (by omega)
      have e1 : b + (z.f0.length : Int) + (z.f1.length : Int) + cntDependS q = b + cntDependS (z :: q) := by rw [hc]; omega
      rw [e1] at this
      exact this
  exact key l.length _ 0 [] l a rfl rfl rfl (by rw [markedDependS_len]; exact hl) hx h0 h1
theorem laws_heldDependS_x (l : List S37) (a : Int) (h : okDependS l) (h0 : 0 ≤ a) (h1 : a + cntDependS l ≤ 1099511627776) : ∃ k, laws_heldDependS.f k (markedDependS l a) a = some (a + cntDependS l) := (heldDependS_ev l a h.1.1 h.1.2 h0 h1).rounds
/-- THE ONE PURE STATEMENT of laws_FnExactCoverOf: what the reference tells, the program tells. -/
def laws_FnExactCoverOf.Pure : Prop := ∀ (l0 : List (S45)) (a1 : Int), (l0.length ≤ maxLen ∧ ∀ x_, x_ ∈ l0 → (x_.f0.length ≤ maxLen ∧ ∀ x__, x__ ∈ x_.f0 → (Lit.int .i64 x__).wf = true) ∧ (x_.f1.length ≤ maxLen ∧ ∀ x__, x__ ∈ x_.f1 → (Lit.int .i64 x__).wf = true)) → ((Lit.int .i64 a1).wf = true) → szOk_laws_szDependS l0 → ∃ (k : Nat) (r : (List (S37)) × Bool), spec_CoverOf.f k (cvDependS l0) a1 = some r ∧ impl_CoverOf.f k (cvDependS l0) a1 = some r ∧ okDependS r.1
set_option maxHeartbeats 16000000 in
set_option maxRecDepth 100000 in
theorem laws_FnExactCoverOf.walk (P:laws_FnExactCoverOf.Pure) (A0:Option Addr) (c0:Nat) (l0:List (S45)) (a1:Int) (w:World) (hr0:Kd.C k45 w A0 l0.length l0) (hc0:l0.length≤c0) (wq0:l0.length≤maxLen∧∀ x_,x_ ∈ l0→(x_.f0.length≤maxLen∧∀ x__,x__ ∈ x_.f0→(Lit.int .i64 x__).wf=true)∧(x_.f1.length≤maxLen∧∀ x__,x__ ∈ x_.f1→(Lit.int .i64 x__).wf=true)) (wq1:(Lit.int .i64 a1).wf=true) :
  Calls Try.prog 3 #[.slice A0 l0.length c0,.int .i64 a1] w fun e w'=>e=.returned (.bool true)∧Below w.heap.size w w':=by
 have HR0:=qK hr0;have HC0:=qK hc0;clear hr0 hc0;have HB:=qK (Below.refl w.heap.size w);obtain ⟨s1_,Nr1_,q1_⟩:=laws_szDependS_x l0 1048576 (by omega) (by omega) wq0;obtain ⟨kz1_,Nr1_⟩:=Nr1_;have N1:=qK Nr1_;clear Nr1_;by_cases g0_:s1_ < 0
 ·have g0_b:decide (s1_ < 0)=true:=decide_eq_true g0_;clear g0_ q1_;go_enter Try.func3,Try.ntmps3
  go_wp2_with (first|((with_reducible refine gate_callee (f:=5) rfl ?_);refine goesL_ (some 18) rfl rfl Try.func5 (by kernel_rfl) rfl #[.slice A0 l0.length c0,.int .i64 1048576] rfl (by (try simp only [mT,mC,mN]);first|done|rfl|(simp only [lD,lT];rfl)) ?_;(with_reducible refine (laws_szDependS.calls (hr0:=cB HR0.out HB.out) (hc0:=HC0.out) (h:=N1.out)).mono ?_);rintro e w1 ⟨rfl,hb⟩;have HST:=qK (hb);have HB1:=qK (qT HB.out HST.out);have HS1:=qK (show w.heap.size≤w1.heap.size from HST.out.size);clear hb HST;refine ⟨_,rfl,?_⟩))
  go_ret
  exact ⟨rfl,HB1.out⟩
 have g0_b:decide (s1_ < 0)=false:=decide_eq_false g0_;have hz1_:szOk_laws_szDependS l0:=by rcases q1_ with h_|h_;exact absurd h_ g0_;exact h_.1
 have hs1_:0≤s1_∧s1_≤1048576:=by rcases q1_ with h_|h_;exact absurd h_ g0_;exact h_.2
 clear q1_;obtain ⟨k_,⟨o0_,o1_⟩,P1,P2,P3⟩:=P l0 a1 wq0 wq1 hz1_;replace P3:okDependS o0_:=P3;obtain ⟨k2_,Nr2_⟩:=laws_toDependS_x l0 hz1_;have Nr3_:=P1;obtain ⟨k4_,Nr4_⟩:=laws_toDependS_x l0 hz1_;have Nr5_:=P2;obtain ⟨k6_,Nr6_⟩:=laws_eqDependS_x o0_ P3;obtain ⟨k7_,Nr7_⟩:=laws_toDependS_x l0 hz1_;obtain ⟨k8_,Nr8_⟩:=laws_eqDependS_x (cvDependS l0) (okDependS_cv hz1_);have hb9_:=cntDependS_sz hz1_;obtain ⟨k9_,Nr9_⟩:=laws_markDependS_x (cvDependS l0) 1 (okDependS_cv hz1_) (by omega) (by omega);obtain ⟨m9_,hm9_⟩:∃ z_,z_=1 + cntDependS (cvDependS l0):=⟨_,rfl⟩;rw [← hm9_] at Nr9_;obtain ⟨y9_0,hy9_0⟩:∃ z_,z_=markedDependS (cvDependS l0) 1:=⟨_,rfl⟩;rw [← hy9_0] at Nr9_;clear hy9_0;obtain ⟨k10_,Nr10_⟩:=laws_eqDependS_x o0_ P3;have hb11_:=cntDependS_ok _ P3;obtain ⟨k11_,Nr11_⟩:=laws_markDependS_x o0_ 1 P3 (by omega) (by omega);obtain ⟨k12_,Nr12_⟩:=laws_heldDependS_x o0_ 1 P3 (by omega) (by omega);obtain ⟨m11_,hm11_⟩:∃ z_,z_=1 + cntDependS o0_:=⟨_,rfl⟩;rw [← hm11_] at Nr11_ Nr12_;obtain ⟨y11_0,hy11_0⟩:∃ z_,z_=markedDependS o0_ 1:=⟨_,rfl⟩;rw [← hy11_0] at Nr11_ Nr12_;clear hy11_0;have Nr16_:=Nr12_;obtain ⟨k13_,Nr13_⟩:=laws_toDependS_x l0 hz1_;have Nr14_:=P2;obtain ⟨k15_,Nr15_⟩:=laws_eqDependS_x o0_ P3;have N2:=qK Nr2_;have N3:=qK Nr3_;have N4:=qK Nr4_;have N5:=qK Nr5_;have N6:=qK Nr6_;have N7:=qK Nr7_;have N8:=qK Nr8_;have N9:=qK Nr9_;have N10:=qK Nr10_;have N11:=qK Nr11_;have N12:=qK Nr12_;have N13:=qK Nr13_;have N14:=qK Nr14_;have N15:=qK Nr15_;have N16:=qK Nr16_;have cdm11_:decide (m11_ < 0)=false:=decide_eq_false (by omega);have cdm9_:decide (m9_ < 0)=false:=decide_eq_false (by omega);have cnm11_:(m11_ != m11_)=false:=bne_self_eq_false _;have cno1_:(o1_ != o1_)=false:=bne_self_eq_false _;clear P1 P2 P3 Nr2_ Nr3_ Nr4_ Nr5_ Nr6_ Nr7_ Nr8_ Nr9_ Nr10_ Nr11_ Nr12_ Nr13_ Nr14_ Nr15_ Nr16_ hm9_ hb9_ hm11_ hb11_;clear P g0_ hz1_ hs1_ wq0 wq1;go_enter Try.func3,Try.ntmps3
 go_upto_region 3 with (first|((with_reducible refine gate_callee (f:=5) rfl ?_);refine goesL_ (some 18) rfl rfl Try.func5 (by kernel_rfl) rfl #[.slice A0 l0.length c0,.int .i64 1048576] rfl (by (try simp only [mT,mC,mN]);first|done|rfl|(simp only [lD,lT];rfl)) ?_;(with_reducible refine (laws_szDependS.calls (hr0:=cB HR0.out HB.out) (hc0:=HC0.out) (h:=N1.out)).mono ?_);rintro e w1 ⟨rfl,hb⟩;have HST:=qK (hb);have HB1:=qK (qT HB.out HST.out);have HS1:=qK (show w.heap.size≤w1.heap.size from HST.out.size);clear hb HST;refine ⟨_,rfl,?_⟩))
 go_upto_region 6 with (first|((with_reducible refine gate_callee (f:=7) rfl ?_);refine goesL_ (some 23) rfl rfl Try.func7 (by kernel_rfl) rfl #[.slice A0 l0.length c0] rfl (by (try simp only [mT,mC,mN]);first|done|rfl|(simp only [lD,lT];rfl)) ?_;(with_reducible refine (laws_toDependS.calls (hr0:=cB HR0.out HB1.out) (hc0:=HC0.out) (h:=N2.out)).mono ?_);rintro e w2 ⟨v0_,rfl,ho0,hb⟩;have HST:=qK (hb);have HB2:=qK (qT HB1.out HST.out);have HS2:=qK (show w1.heap.size≤w2.heap.size from HST.out.size);obtain ⟨Af1,cf1,ef1⟩:=Kd.S_slice ho0;subst ef1;have F1:=qK (show Kd.S k37 37 w2 w.heap.size (fun k_=>w1.heap.size≤k_∧k_ < w2.heap.size) (.slice Af1 (cvDependS l0).length cf1) (cvDependS l0) from Kd.S_lower (Kd.S_mono (Kd.S_bound ho0) (fun k_ hk_=>⟨hk_.2.1,hk_.2.2.1⟩)) (qZ HB1.out));clear hb HST ho0;clear HB1;refine ⟨_,rfl,?_⟩)|((with_reducible refine gate_callee (f:=6) rfl ?_);refine goesL_ (some 25) rfl rfl Try.func6 (by kernel_rfl) rfl #[.slice Af1 (cvDependS l0).length cf1,.int .i64 a1] rfl (by (try simp only [mT,mC,mN]);first|done|rfl|(simp only [lD,lT];rfl)) ?_;(with_reducible refine (spec_CoverOf.calls (hr0:=(Kd.S_reads' F1.out).2.2) (hc0:=(Kd.S_reads' F1.out).2.1) (h:=N3.out)).mono ?_);rintro e w3 ⟨v0_,rfl,ho0,hb⟩;have HST:=qK (hb);have HB3:=qK (qT HB2.out HST.out);have HS3:=qK (show w2.heap.size≤w3.heap.size from HST.out.size);replace ho0:=Kd.N_V (base':=w2.heap.size) ho0;obtain ⟨Af2,cf2,ef2⟩:=Kd.V_slice ho0;subst ef2;have F2:=qK (show Kd.V k37 37 w3 w.heap.size (fun k_=>w2.heap.size≤k_∧k_ < w3.heap.size) (.slice Af2 o0_.length cf2) o0_ from Kd.V_lower (Kd.V_mono (Kd.V_bound ho0) (fun k_ hk_=>⟨(by have h_:=hk_.1;first|exact h_|exact h_.1),hk_.2⟩)) (qZ HB2.out));clear F1;clear hb HST ho0;clear HB2;refine ⟨_,rfl,?_⟩))
 go_upto_region 7 with (first|((with_reducible refine gate_callee (f:=7) rfl ?_);refine goesL_ (some 29) rfl rfl Try.func7 (by kernel_rfl) rfl #[.slice A0 l0.length c0] rfl (by (try simp only [mT,mC,mN]);first|done|rfl|(simp only [lD,lT];rfl)) ?_;(with_reducible refine (laws_toDependS.calls (hr0:=cB HR0.out HB3.out) (hc0:=HC0.out) (h:=N4.out)).mono ?_);rintro e w4 ⟨v0_,rfl,ho0,hb⟩;have HST:=qK (hb);have HB4:=qK (qT HB3.out HST.out);have HS4:=qK (show w3.heap.size≤w4.heap.size from HST.out.size);obtain ⟨Af3,cf3,ef3⟩:=Kd.S_slice ho0;subst ef3;have F3:=qK (show Kd.S k37 37 w4 w.heap.size (fun k_=>w3.heap.size≤k_∧k_ < w4.heap.size) (.slice Af3 (cvDependS l0).length cf3) (cvDependS l0) from Kd.S_lower (Kd.S_mono (Kd.S_bound ho0) (fun k_ hk_=>⟨hk_.2.1,hk_.2.2.1⟩)) (qZ HB3.out));have F2_:=qK (Kd.V_below F2.out HST.out);clear F2;have F2:=F2_;clear F2_;clear hb HST ho0;clear HB3;refine ⟨_,rfl,?_⟩))
 go_upto_region 8 with (first|((with_reducible refine gate_callee (f:=8) rfl ?_);refine goesL_ (some 33) rfl rfl Try.func8 (by kernel_rfl) rfl #[.slice Af3 (cvDependS l0).length cf3,.int .i64 a1] rfl (by (try simp only [mT,mC,mN]);first|done|rfl|(simp only [lD,lT];rfl)) ?_;(with_reducible refine (impl_CoverOf.calls (hr0:=(Kd.S_reads' F3.out).2.2) (hc0:=(Kd.S_reads' F3.out).2.1) (h:=N5.out)).mono ?_);rintro e w5 ⟨v0_,rfl,ho0,hb⟩;have HST:=qK (hb);have HB5:=qK (qT HB4.out HST.out);have HS5:=qK (show w4.heap.size≤w5.heap.size from HST.out.size);obtain ⟨Af4,cf4,ef4⟩:=Kd.S_slice ho0;subst ef4;have F4:=qK (show Kd.S k37 37 w5 w.heap.size (fun k_=>w4.heap.size≤k_∧k_ < w5.heap.size) (.slice Af4 o0_.length cf4) o0_ from Kd.S_lower (Kd.S_mono (Kd.S_bound ho0) (fun k_ hk_=>⟨hk_.2.1,hk_.2.2.1⟩)) (qZ HB4.out));have F2_:=qK (Kd.V_below F2.out HST.out);clear F2;have F2:=F2_;clear F2_;have F3_:=qK (Kd.S_below F3.out HST.out);clear F3;have F3:=F3_;clear F3_;clear hb HST ho0;clear HB4;refine ⟨_,rfl,?_⟩))
 go_upto_region 10 with (first|((with_reducible refine gate_callee (f:=9) rfl ?_);refine goesL_ (some 38) rfl rfl Try.func9 (by kernel_rfl) rfl #[.slice Af4 o0_.length cf4,.slice Af2 o0_.length cf2] rfl (by (try simp only [mT,mC,mN]);first|done|rfl|(simp only [lD,lT];rfl)) ?_;(with_reducible refine (laws_eqDependS.calls (hr0:=(Kd.S_reads' F4.out).2.2) (hc0:=(Kd.S_reads' F4.out).2.1) (hr1:=(Kd.V_reads' F2.out).2.2) (hc1:=(Kd.V_reads' F2.out).2.1) (h:=N6.out)).mono ?_);rintro e w6 ⟨rfl,hb⟩;have HST:=qK (hb);have HB6:=qK (qT HB5.out HST.out);have HS6:=qK (show w5.heap.size≤w6.heap.size from HST.out.size);have F2_:=qK (Kd.V_below F2.out HST.out);clear F2;have F2:=F2_;clear F2_;have F3_:=qK (Kd.S_below F3.out HST.out);clear F3;have F3:=F3_;clear F3_;have F4_:=qK (Kd.S_below F4.out HST.out);clear F4;have F4:=F4_;clear F4_;clear hb HST;clear HB5;refine ⟨_,rfl,?_⟩))
 go_upto_region 12 with (first|((with_reducible refine gate_callee (f:=7) rfl ?_);refine goesL_ (some 47) rfl rfl Try.func7 (by kernel_rfl) rfl #[.slice A0 l0.length c0] rfl (by (try simp only [mT,mC,mN]);first|done|rfl|(simp only [lD,lT];rfl)) ?_;(with_reducible refine (laws_toDependS.calls (hr0:=cB HR0.out HB6.out) (hc0:=HC0.out) (h:=N7.out)).mono ?_);rintro e w7 ⟨v0_,rfl,ho0,hb⟩;have HST:=qK (hb);have HB7:=qK (qT HB6.out HST.out);have HS7:=qK (show w6.heap.size≤w7.heap.size from HST.out.size);obtain ⟨Af5,cf5,ef5⟩:=Kd.S_slice ho0;subst ef5;have F5:=qK (show Kd.S k37 37 w7 w.heap.size (fun k_=>w6.heap.size≤k_∧k_ < w7.heap.size) (.slice Af5 (cvDependS l0).length cf5) (cvDependS l0) from Kd.S_lower (Kd.S_mono (Kd.S_bound ho0) (fun k_ hk_=>⟨hk_.2.1,hk_.2.2.1⟩)) (qZ HB6.out));have F2_:=qK (Kd.V_below F2.out HST.out);clear F2;have F2:=F2_;clear F2_;have F3_:=qK (Kd.S_below F3.out HST.out);clear F3;have F3:=F3_;clear F3_;have F4_:=qK (Kd.S_below F4.out HST.out);clear F4;have F4:=F4_;clear F4_;clear hb HST ho0;clear HB6;refine ⟨_,rfl,?_⟩)|((with_reducible refine gate_callee (f:=9) rfl ?_);refine goesL_ (some 48) rfl rfl Try.func9 (by kernel_rfl) rfl #[.slice Af3 (cvDependS l0).length cf3,.slice Af5 (cvDependS l0).length cf5] rfl (by (try simp only [mT,mC,mN]);first|done|rfl|(simp only [lD,lT];rfl)) ?_;(with_reducible refine (laws_eqDependS.calls (hr0:=(Kd.S_reads' F3.out).2.2) (hc0:=(Kd.S_reads' F3.out).2.1) (hr1:=(Kd.S_reads' F5.out).2.2) (hc1:=(Kd.S_reads' F5.out).2.1) (h:=N8.out)).mono ?_);rintro e w8 ⟨rfl,hb⟩;have HST:=qK (hb);have HB8:=qK (qT HB7.out HST.out);have HS8:=qK (show w7.heap.size≤w8.heap.size from HST.out.size);have F2_:=qK (Kd.V_below F2.out HST.out);clear F2;have F2:=F2_;clear F2_;have F3_:=qK (Kd.S_below F3.out HST.out);clear F3;have F3:=F3_;clear F3_;have F4_:=qK (Kd.S_below F4.out HST.out);clear F4;have F4:=F4_;clear F4_;clear F5;clear hb HST;clear HB7;refine ⟨_,rfl,?_⟩))
 go_upto_region 14 with (first|((with_reducible refine gate_callee (f:=10) rfl ?_);refine goesL_ (some 52) rfl rfl Try.func10 (by kernel_rfl) rfl #[.slice Af3 (cvDependS l0).length cf3,.int .i64 1] rfl (by (try simp only [mT,mC,mN]);first|done|rfl|(simp only [lD,lT];rfl)) ?_;have C_:=(laws_markDependS.calls (w0:=w) (hB:=HB8.out) (ho0:=F3.out) (h:=N9.out));refine C_.mono ?_;clear C_;rintro e w9 ⟨rfl,hy0,hb,hk⟩;have HB9:=qK hb;have HKK:=qK hk;have HS9:=qK (show w8.heap.size≤w9.heap.size from hk.1);have HEy9_0:=qK (show (cvDependS l0).length=y9_0.length from (Kd.S_reads' hy0).1);have F3_:=qK (show Kd.S k37 37 w9 w.heap.size (fun k_=>w3.heap.size≤k_∧k_ < w4.heap.size) (.slice Af3 y9_0.length cf3) y9_0 from by have hz_:=hy0;have he_:(cvDependS l0).length=y9_0.length:=(by have:=(Kd.S_reads' hz_).1;omega);rw [← he_];exact hz_);have F2_:=qK (Kd.V_kept F2.out HKK.out (fun k_ h1_=>by intro h2_;exact (fun k_ h1_ h2_=>by have h3_:=h1_.1;have h4_:=h1_.2;have h5_:=h2_.1;have h6_:=h2_.2;skip;omega) k_ h1_ h2_));clear F2;have F2:=F2_;clear F2_;clear F3 F3_;have F4_:=qK (Kd.S_kept F4.out HKK.out (fun k_ h1_=>by intro h2_;exact (fun k_ h1_ h2_=>by have h3_:=h1_.1;have h4_:=h1_.2;have h5_:=h2_.1;have h6_:=h2_.2;skip;omega) k_ h1_ h2_));clear F4;have F4:=F4_;clear F4_;clear hb hk HKK hy0;clear HB8;refine ⟨_,rfl,?_⟩))
 go_upto_region 16 with (first|(go_at_call 9;(with_reducible refine (laws_eqDependS.calls (hr0:=(Kd.S_reads' F4.out).2.2) (hc0:=(Kd.S_reads' F4.out).2.1) (hr1:=(Kd.V_reads' F2.out).2.2) (hc1:=(Kd.V_reads' F2.out).2.1) (h:=N10.out)).mono ?_);rintro e w10 ⟨rfl,hb⟩;have HST:=qK (hb);have HB10:=qK (qT HB9.out HST.out);have HS10:=qK (show w9.heap.size≤w10.heap.size from HST.out.size);have F2_:=qK (Kd.V_below F2.out HST.out);clear F2;have F2:=F2_;clear F2_;have F4_:=qK (Kd.S_below F4.out HST.out);clear F4;have F4:=F4_;clear F4_;clear hb HST;clear HB9))
 go_upto_region 18 with (first|((with_reducible refine gate_callee (f:=10) rfl ?_);refine goesL_ (some 68) rfl rfl Try.func10 (by kernel_rfl) rfl #[.slice Af4 o0_.length cf4,.int .i64 1] rfl (by (try simp only [mT,mC,mN]);first|done|rfl|(simp only [lD,lT];rfl)) ?_;have C_:=(laws_markDependS.calls (w0:=w) (hB:=HB10.out) (ho0:=F4.out) (h:=N11.out));refine C_.mono ?_;clear C_;rintro e w11 ⟨rfl,hy0,hb,hk⟩;have HB11:=qK hb;have HKK:=qK hk;have HS11:=qK (show w10.heap.size≤w11.heap.size from hk.1);have HEy11_0:=qK (show o0_.length=y11_0.length from (Kd.S_reads' hy0).1);have F4_:=qK (show Kd.S k37 37 w11 w.heap.size (fun k_=>w4.heap.size≤k_∧k_ < w5.heap.size) (.slice Af4 y11_0.length cf4) y11_0 from by have hz_:=hy0;have he_:o0_.length=y11_0.length:=(by have:=(Kd.S_reads' hz_).1;omega);rw [← he_];exact hz_);have F2_:=qK (Kd.V_kept F2.out HKK.out (fun k_ h1_=>by intro h2_;exact (fun k_ h1_ h2_=>by have h3_:=h1_.1;have h4_:=h1_.2;have h5_:=h2_.1;have h6_:=h2_.2;have z4_:=HS4.out;omega) k_ h1_ h2_));clear F2;have F2:=F2_;clear F2_;clear F4;have F4:=F4_;clear F4_;clear hb hk HKK hy0;clear HB10;refine ⟨_,rfl,?_⟩))
 go_upto_region 20 with (first|((with_reducible refine gate_callee (f:=11) rfl ?_);refine goesL_ (some 71) rfl rfl Try.func11 (by kernel_rfl) rfl #[.slice Af4 o0_.length cf4,.int .i64 1] rfl (by (try simp only [mT,mC,mN]);first|done|rfl|(simp only [lD,lT];rfl)) ?_;refine calls_of_args (args':=#[.slice Af4 y11_0.length cf4,.int .i64 1]) (by rw [HEy11_0.out]) ?_;(with_reducible refine (laws_heldDependS.calls (hr0:=(Kd.S_reads' F4.out).2.2) (hc0:=(Kd.S_reads' F4.out).2.1) (h:=N12.out)).mono ?_);rintro e w12 ⟨rfl,hdr⟩;have HST:=qK (hdr.below);have HB12:=qK (qT HB11.out HST.out);have HS12:=qK (show w11.heap.size≤w12.heap.size from HST.out.size);have F2_:=qK (Kd.V_below F2.out HST.out);clear F2;have F2:=F2_;clear F2_;have F4_:=qK (Kd.S_below F4.out HST.out);clear F4;have F4:=F4_;clear F4_;clear hdr HST;clear HB11;refine ⟨_,rfl,?_⟩))
 go_upto_region 25 with (first|((with_reducible refine gate_callee (f:=7) rfl ?_);refine goesL_ (some 79) rfl rfl Try.func7 (by kernel_rfl) rfl #[.slice A0 l0.length c0] rfl (by (try simp only [mT,mC,mN]);first|done|rfl|(simp only [lD,lT];rfl)) ?_;(with_reducible refine (laws_toDependS.calls (hr0:=cB HR0.out HB12.out) (hc0:=HC0.out) (h:=N13.out)).mono ?_);rintro e w13 ⟨v0_,rfl,ho0,hb⟩;have HST:=qK (hb);have HB13:=qK (qT HB12.out HST.out);have HS13:=qK (show w12.heap.size≤w13.heap.size from HST.out.size);obtain ⟨Af6,cf6,ef6⟩:=Kd.S_slice ho0;subst ef6;have F6:=qK (show Kd.S k37 37 w13 w.heap.size (fun k_=>w12.heap.size≤k_∧k_ < w13.heap.size) (.slice Af6 (cvDependS l0).length cf6) (cvDependS l0) from Kd.S_lower (Kd.S_mono (Kd.S_bound ho0) (fun k_ hk_=>⟨hk_.2.1,hk_.2.2.1⟩)) (qZ HB12.out));have F2_:=qK (Kd.V_below F2.out HST.out);clear F2;have F2:=F2_;clear F2_;have F4_:=qK (Kd.S_below F4.out HST.out);clear F4;have F4:=F4_;clear F4_;clear hb HST ho0;clear HB12;refine ⟨_,rfl,?_⟩)|((with_reducible refine gate_callee (f:=8) rfl ?_);refine goesL_ (some 81) rfl rfl Try.func8 (by kernel_rfl) rfl #[.slice Af6 (cvDependS l0).length cf6,.int .i64 a1] rfl (by (try simp only [mT,mC,mN]);first|done|rfl|(simp only [lD,lT];rfl)) ?_;(with_reducible refine (impl_CoverOf.calls (hr0:=(Kd.S_reads' F6.out).2.2) (hc0:=(Kd.S_reads' F6.out).2.1) (h:=N14.out)).mono ?_);rintro e w14 ⟨v0_,rfl,ho0,hb⟩;have HST:=qK (hb);have HB14:=qK (qT HB13.out HST.out);have HS14:=qK (show w13.heap.size≤w14.heap.size from HST.out.size);obtain ⟨Af7,cf7,ef7⟩:=Kd.S_slice ho0;subst ef7;have F7:=qK (show Kd.S k37 37 w14 w.heap.size (fun k_=>w13.heap.size≤k_∧k_ < w14.heap.size) (.slice Af7 o0_.length cf7) o0_ from Kd.S_lower (Kd.S_mono (Kd.S_bound ho0) (fun k_ hk_=>⟨hk_.2.1,hk_.2.2.1⟩)) (qZ HB13.out));have F2_:=qK (Kd.V_below F2.out HST.out);clear F2;have F2:=F2_;clear F2_;have F4_:=qK (Kd.S_below F4.out HST.out);clear F4;have F4:=F4_;clear F4_;clear F6;clear hb HST ho0;clear HB13;refine ⟨_,rfl,?_⟩))
 go_upto_region 27 with (first|((with_reducible refine gate_callee (f:=9) rfl ?_);refine goesL_ (some 86) rfl rfl Try.func9 (by kernel_rfl) rfl #[.slice Af7 o0_.length cf7,.slice Af2 o0_.length cf2] rfl (by (try simp only [mT,mC,mN]);first|done|rfl|(simp only [lD,lT];rfl)) ?_;(with_reducible refine (laws_eqDependS.calls (hr0:=(Kd.S_reads' F7.out).2.2) (hc0:=(Kd.S_reads' F7.out).2.1) (hr1:=(Kd.V_reads' F2.out).2.2) (hc1:=(Kd.V_reads' F2.out).2.1) (h:=N15.out)).mono ?_);rintro e w15 ⟨rfl,hb⟩;have HST:=qK (hb);have HB15:=qK (qT HB14.out HST.out);have HS15:=qK (show w14.heap.size≤w15.heap.size from HST.out.size);clear F2;have F4_:=qK (Kd.S_below F4.out HST.out);clear F4;have F4:=F4_;clear F4_;clear F7;clear hb HST;clear HB14;refine ⟨_,rfl,?_⟩))
 go_upto_region 29 with (first|((with_reducible refine gate_callee (f:=11) rfl ?_);refine goesL_ (some 95) rfl rfl Try.func11 (by kernel_rfl) rfl #[.slice Af4 o0_.length cf4,.int .i64 1] rfl (by (try simp only [mT,mC,mN]);first|done|rfl|(simp only [lD,lT];rfl)) ?_;refine calls_of_args (args':=#[.slice Af4 y11_0.length cf4,.int .i64 1]) (by rw [HEy11_0.out]) ?_;(with_reducible refine (laws_heldDependS.calls (hr0:=(Kd.S_reads' F4.out).2.2) (hc0:=(Kd.S_reads' F4.out).2.1) (h:=N16.out)).mono ?_);rintro e w16 ⟨rfl,hdr⟩;have HST:=qK (hdr.below);have HB16:=qK (qT HB15.out HST.out);have HS16:=qK (show w15.heap.size≤w16.heap.size from HST.out.size);clear F4;clear hdr HST;clear HB15;refine ⟨_,rfl,?_⟩))
 go_wp2
 go_ret
 exact ⟨rfl,HB16.out⟩

end Go.Proofs.Ytadfmbmnnekamaa.PFnExactCoverOf
