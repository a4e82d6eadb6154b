/-
  A text of this claim's own, printed by a program of the session (wip/tools/xprint.py): functions of the program as Lean functions, each with what its call comes to.
-/
import Derived.Test.YtinjjpakpngaoaaPFnExactHasLockx0
import Derived.Test.YtinjjpakpngaoaaPFnExactHasLockx2
namespace Go.Proofs.Ytinjjpakpngaoaa.PFnExactHasLock
open Go.Proofs.YtinjjpakpngaoaaW.PrintWords renaming pw_below_drewN → qD, blk_cell → qC, below_drew1 → qO, below_alloc → qA, blk_frozen → qF, below_set → qS, blk_drewN → qN, blk_alloc → qL, blk_drew → qW, below_size → qZ, below_step → qT, blk_below → qB, blk_far → qR, blk_put → qP
open Go.Proofs.YtinjjpakpngaoaaW.PrintWords.Aside0 renaming mk → qK
open Bool renaming true → Y, false → Z
open List renaming setIfInBounds_toArray → sIb, set_cons_zero → sZ, set_cons_succ → sS, map_toArray → mT, map_cons → mC, map_nil → mN, length_drop → lD, length_take → lT
open Go.Proofs.YtinjjpakpngaoaaW.PrintWords.Kd renaming C_alloc → cL, C_drewN → cN, C_drew → cW, C_below → cB, R_alloc → rL, R_drewN → rN, R_drew → rW, R_below → rB
open Go.RowKit Go.Proofs.YtinjjpakpngaoaaW.PrintWords Go.Proofs.YtinjjpakpngaoaaW.PrintLast Go.Proofs.YtinjjpakpngaoaaW.PrintMore
attribute [local go_sem] max2_int min2_int max_two min_two max_three min_three max_four min_four   -- for this text's walks alone
set_option linter.unusedVariables false
set_option linter.unusedSimpArgs false

/-! ### spec_HasLock: function 23 -/
def spec_HasLock.l0 : Nat→Int→Int→List (S84)→Int→Int→Option (Int × Bool)
 | 0,_,_,_,_,_=>none
 | k + 1,x1,x2,x14,x15,x16=>if x16 < x15 then (if 0≤x16 then (if x16 < (x14.length:Int) then (if ((rd_T84 x14 x16).f0)=x1 then (if ((rd_T84 x14 x16).f2)=x2 then (some ((rd_T84 x14 x16).f1,true)) else (spec_HasLock.l0 k x1 x2 x14 x15 (wrap64 (x16 + 1)))) else (spec_HasLock.l0 k x1 x2 x14 x15 (wrap64 (x16 + 1)))) else (none)) else (none)) else (some (0,false))
def spec_HasLock.f (k:Nat) (l0_0:List (S84)) (l0_1:List (S84)) (l0_2:List (S84)) (l0_3:List Int) (l0_4:List Int) (a1:Int) (a2:Int):Option (Int × Bool):=(spec_GoodLocks.f k l0_0 l0_1 l0_2 l0_3 l0_4).bind fun t158=>(if t158=true then (spec_HasLock.l0 k a1 a2 l0_0 (l0_0.length:Int) 0) else (some (0,false)))
theorem spec_HasLock.mono_l : ∀ k,(∀ y0 y1 y2 y3 y4,LeO (spec_HasLock.l0 k y0 y1 y2 y3 y4) (spec_HasLock.l0 (k + 1) y0 y1 y2 y3 y4))
 | 0=>fun _ _ _ _ _ r h=>by simp [spec_HasLock.l0] at h
 | k + 1=>by
  have ih0:=spec_HasLock.mono_l k
  ·intro y0 y1 y2 y3 y4;unfold spec_HasLock.l0
   repeat' first
   | (with_reducible exact ih0 _ _ _ _ _)
   | (with_reducible exact spec_GoodLocks.mono _ _ _ _ _ _)
   | (with_reducible exact LeO.refl _)
   | (with_reducible exact LeO.none _)
   | (with_reducible refine LeO.ite ?_ ?_)
   | (with_reducible refine LeO.bind ?_ (fun _=>?_))
   | exact ih0 _ _ _ _ _
   | exact spec_GoodLocks.mono _ _ _ _ _ _
   | exact LeO.none _
   | refine LeO.ite ?_ ?_
   | refine LeO.bind ?_ (fun _=>?_)
theorem spec_HasLock.mono : ∀ a0 a1 a2 a3 a4 a5 a6 k,LeO (spec_HasLock.f k a0 a1 a2 a3 a4 a5 a6) (spec_HasLock.f (k + 1) a0 a1 a2 a3 a4 a5 a6):=by
 intro a0 a1 a2 a3 a4 a5 a6 k;have ih0:=spec_HasLock.mono_l k;unfold spec_HasLock.f
 repeat' first
   | (with_reducible exact ih0 _ _ _ _ _)
   | (with_reducible exact spec_GoodLocks.mono _ _ _ _ _ _)
   | (with_reducible exact LeO.refl _)
   | (with_reducible exact LeO.none _)
   | (with_reducible refine LeO.ite ?_ ?_)
   | (with_reducible refine LeO.bind ?_ (fun _=>?_))
   | exact ih0 _ _ _ _ _
   | exact spec_GoodLocks.mono _ _ _ _ _ _
   | exact LeO.none _
   | refine LeO.ite ?_ ?_
   | refine LeO.bind ?_ (fun _=>?_)
set_option maxHeartbeats 8000000 in
set_option maxRecDepth 100000 in
theorem spec_HasLock.calls (k:Nat) (A0_0:Option Addr) (c0_0:Nat) (l0_0:List (S84)) (A0_1:Option Addr) (c0_1:Nat) (l0_1:List (S84)) (A0_2:Option Addr) (c0_2:Nat) (l0_2:List (S84)) (A0_3:Option Addr) (c0_3:Nat) (l0_3:List Int) (A0_4:Option Addr) (c0_4:Nat) (l0_4:List Int) (a1:Int) (a2:Int) (r1:Int) (r2:Bool) (w:World) (hr0_0:Kd.C k84 w A0_0 l0_0.length l0_0) (hc0_0:l0_0.length≤c0_0) (hr0_1:Kd.C k84 w A0_1 l0_1.length l0_1) (hc0_1:l0_1.length≤c0_1) (hr0_2:Kd.C k84 w A0_2 l0_2.length l0_2) (hc0_2:l0_2.length≤c0_2) (hr0_3:Kd.C (Kd.int .i64) w A0_3 l0_3.length l0_3) (hc0_3:l0_3.length≤c0_3) (hr0_4:Kd.C (Kd.int .i64) w A0_4 l0_4.length l0_4) (hc0_4:l0_4.length≤c0_4) (h:spec_HasLock.f k l0_0 l0_1 l0_2 l0_3 l0_4 a1 a2=some (r1,r2)) :
  Calls Try.prog 23 #[.agg #[.slice A0_0 l0_0.length c0_0,.slice A0_1 l0_1.length c0_1,.slice A0_2 l0_2.length c0_2,.slice A0_3 l0_3.length c0_3,.slice A0_4 l0_4.length c0_4],.int .i64 a1,.int .i64 a2] w fun e w'=>e=.returned (.tuple #[.int .i64 r1,.bool r2])∧Below w.heap.size w w':=by
 have hu40:=Try.underlying40;have hu84:=Try.underlying84;have HR0_0:=qK hr0_0;have HC0_0:=qK hc0_0;clear hr0_0 hc0_0;have HR0_1:=qK hr0_1;have HC0_1:=qK hc0_1;clear hr0_1 hc0_1;have HR0_2:=qK hr0_2;have HC0_2:=qK hc0_2;clear hr0_2 hc0_2;have HR0_3:=qK hr0_3;have HC0_3:=qK hc0_3;clear hr0_3 hc0_3;have HR0_4:=qK hr0_4;have HC0_4:=qK hc0_4;clear hr0_4 hc0_4;have HB:=qK (Below.refl w.heap.size w);have H:((spec_GoodLocks.f k l0_0 l0_1 l0_2 l0_3 l0_4).bind fun t158=>(if t158=true then (spec_HasLock.l0 k a1 a2 l0_0 (l0_0.length:Int) 0) else (some (0,false))))=some (r1,r2):=h;clear h;replace H:=Option.bind_eq_some_iff.mp H;obtain ⟨t158,A40,H⟩:=H;replace H:(if t158=true then (spec_HasLock.l0 k a1 a2 l0_0 (l0_0.length:Int) 0) else (some (0,false)))=some (r1,r2):=H;have A4:=qK A40;clear A40;by_cases c5:t158=true
 ·subst c5;have H1:(spec_HasLock.l0 k a1 a2 l0_0 (l0_0.length:Int) 0)=some (r1,r2):=by rw [if_pos rfl] at H;exact H
  clear H;have H:=H1;clear H1;have H':=qK H;clear H;go_enter Try.func23,Try.ntmps23
  go_wp2_with (first|((with_reducible refine gate_dst (N:=3) rfl ?_);refine box_event ?hg (N:=3) ?hd (cs:=#[.slice A0_0 l0_0.length c0_0,.slice A0_1 l0_1.length c0_1,.slice A0_2 l0_2.length c0_2,.slice A0_3 l0_3.length c0_3,.slice A0_4 l0_4.length c0_4]) (t:=40) ?hr ?_;(case hd=>rfl);(case hg=>rfl);(case hr=>(go_simp;try rfl));intro gb157 hg w6 hbox hb;have n0_:=qK (qT (by repeat (with_reducible first|exact HB.out|apply qA|apply qD|apply qO)) hb);have n1_:=qK (hbox);have n2_:=qK ((by rw [hg];exact (qZ (by repeat (with_reducible first|exact HB.out|apply qA|apply qD|apply qO))):w.heap.size≤gb157));have n3_:=qK ((by rw [hg];exact (qZ (by repeat (with_reducible first|exact HB.out|apply qA|apply qD|apply qO))):w.heap.size≤gb157));clear HB;have HB:=n0_;have BK157:=n1_;have GW157:=n2_;have GE157:=n3_;clear n0_ n1_ n2_ n3_;clear hb hbox hg;have hcz7_0:w6.cell? ⟨gb157,0,none⟩=some (.slice A0_0 l0_0.length c0_0):=(qC BK157.out 0).trans rfl;have hcz7_1:w6.cell? ⟨gb157,1,none⟩=some (.slice A0_1 l0_1.length c0_1):=(qC BK157.out 1).trans rfl;have hcz7_2:w6.cell? ⟨gb157,2,none⟩=some (.slice A0_2 l0_2.length c0_2):=(qC BK157.out 2).trans rfl;have hcz7_3:w6.cell? ⟨gb157,3,none⟩=some (.slice A0_3 l0_3.length c0_3):=(qC BK157.out 3).trans rfl;have hcz7_4:w6.cell? ⟨gb157,4,none⟩=some (.slice A0_4 l0_4.length c0_4):=(qC BK157.out 4).trans rfl;have hfz7_0:=qF BK157.out 0;have hfz7_1:=qF BK157.out 1;have hfz7_2:=qF BK157.out 2;have hfz7_3:=qF BK157.out 3;have hfz7_4:=qF BK157.out 4)|((with_reducible refine gate_callee (f:=83) rfl ?_);refine goesL_ (some 11) rfl rfl Try.func83 (by kernel_rfl) rfl #[.agg #[.slice A0_0 l0_0.length c0_0,.slice A0_1 l0_1.length c0_1,.slice A0_2 l0_2.length c0_2,.slice A0_3 l0_3.length c0_3,.slice A0_4 l0_4.length c0_4]] rfl (by (try simp only [mT,mC,mN]);first|done|rfl|(simp only [lD,lT];rfl)) ?_;(with_reducible refine (spec_GoodLocks.calls k _ _ l0_0 _ _ l0_1 _ _ l0_2 _ _ l0_3 _ _ l0_4 true _ ?side1 ?side2 ?side3 ?side4 ?side5 ?side6 ?side7 ?side8 ?side9 ?side10 A4.out).mono ?_);(case side1=>repeat (first|exact (cB HR0_0.out HB.out)|(with_reducible first|refine cL ?_ _|refine cN ?_ _|refine cW ?_)));(case side2=>exact HC0_0.out);(case side3=>repeat (first|exact (cB HR0_1.out HB.out)|(with_reducible first|refine cL ?_ _|refine cN ?_ _|refine cW ?_)));(case side4=>exact HC0_1.out);(case side5=>repeat (first|exact (cB HR0_2.out HB.out)|(with_reducible first|refine cL ?_ _|refine cN ?_ _|refine cW ?_)));(case side6=>exact HC0_2.out);(case side7=>repeat (first|exact (cB HR0_3.out HB.out)|(with_reducible first|refine cL ?_ _|refine cN ?_ _|refine cW ?_)));(case side8=>exact HC0_3.out);(case side9=>repeat (first|exact (cB HR0_4.out HB.out)|(with_reducible first|refine cL ?_ _|refine cN ?_ _|refine cW ?_)));(case side10=>exact HC0_4.out);rintro e w8 ⟨rfl,hb⟩;refine ⟨_,rfl,?_⟩;have n0_:=qK (qB (g:=gb157) (o:=_) (by (with_reducible repeat (first|refine qN ?_ _|refine qW ?_|refine qL ?_ _));exact BK157.out) hb);have n1_:=qK (qT (by repeat (with_reducible first|exact HB.out|apply qA|apply qD|apply qO|refine qS ?_ GE157.out)) hb);clear BK157;clear HB;have BK157:=n0_;have HB:=n1_;clear n0_ n1_;(try clear hb);have hcz9_0:w8.cell? ⟨gb157,0,none⟩=some (.slice A0_0 l0_0.length c0_0):=(qC BK157.out 0).trans rfl;have hcz9_1:w8.cell? ⟨gb157,1,none⟩=some (.slice A0_1 l0_1.length c0_1):=(qC BK157.out 1).trans rfl;have hcz9_2:w8.cell? ⟨gb157,2,none⟩=some (.slice A0_2 l0_2.length c0_2):=(qC BK157.out 2).trans rfl;have hcz9_3:w8.cell? ⟨gb157,3,none⟩=some (.slice A0_3 l0_3.length c0_3):=(qC BK157.out 3).trans rfl;have hcz9_4:w8.cell? ⟨gb157,4,none⟩=some (.slice A0_4 l0_4.length c0_4):=(qC BK157.out 4).trans rfl;have hfz9_0:=qF BK157.out 0;have hfz9_1:=qF BK157.out 1;have hfz9_2:=qF BK157.out 2;have hfz9_3:=qF BK157.out 3;have hfz9_4:=qF BK157.out 4))
  go_loopg [16] k (fun kq v16 w'=>∃ (x16_1:Int),v16=.int .i64 x16_1∧Aside0 (spec_HasLock.l0 kq a1 a2 l0_0 (l0_0.length:Int) x16_1=some (r1,r2))∧Aside0 (kq≤k)∧Aside0 (w'.heap[gb157]?=some (.cells #[(.slice A0_0 l0_0.length c0_0),(.slice A0_1 l0_1.length c0_1),(.slice A0_2 l0_2.length c0_2),(.slice A0_3 l0_3.length c0_3),(.slice A0_4 l0_4.length c0_4)] 40 (0,0)))∧Aside0 (Below w.heap.size w w'))
  case atStart=>exact ⟨(0),(by first|rfl|(simp;done)|(simp [*];done)),H',⟨Nat.le_refl _⟩,⟨by (with_reducible repeat (first|refine qN ?_ _|refine qW ?_|refine qL ?_ _));exact BK157.out⟩,⟨by repeat (first|(with_reducible first|exact HB.out|apply qA|apply qD|apply qO|refine qS ?_ GE157.out)|exact HB.out)⟩⟩
  case round =>
   clear H';try clear c2
   try clear p2
   try clear c5
   try clear c8
   try clear hcz7_0
   try clear hcz7_1
   try clear hcz7_2
   try clear hcz7_3
   try clear hcz7_4
   try clear hcz9_0
   try clear hcz9_1
   try clear hcz9_2
   try clear hcz9_3
   try clear hcz9_4
   try clear hfz7_0
   try clear hfz7_1
   try clear hfz7_2
   try clear hfz7_3
   try clear hfz7_4
   try clear hfz9_0
   try clear hfz9_1
   try clear hfz9_2
   try clear hfz9_3
   try clear hfz9_4
   obtain ⟨x16_1,rfl,HA,HK1,BK157,HB⟩:=hrel;cases gk with
   | zero=>exact absurd HA.out (by simp [spec_HasLock.l0])
   | succ k1 =>
    have H:=HA.out;clear HA;simp only [spec_HasLock.l0] at H;by_cases c10:x16_1 < (l0_0.length:Int)
    ·rw [if_pos c10] at H;have c10b0:decide (x16_1 < (l0_0.length:Int))=true:=decide_eq_true c10;clear c10;by_cases c11:0≤x16_1
     ·rw [if_pos c11] at H;have c11b0:decide (0≤x16_1)=true:=decide_eq_true c11;clear c11;by_cases c12:x16_1 < (l0_0.length:Int)
      ·rw [if_pos c12] at H;have c12b0:decide (x16_1 < (l0_0.length:Int))=true:=decide_eq_true c12;clear c12;by_cases c13:((rd_T84 l0_0 x16_1).f0)=a1
       ·rw [if_pos c13] at H;have c13b0:(((rd_T84 l0_0 x16_1).f0) == a1)=true:=beq_iff_eq.mpr c13;have c13b1:(((rd_T84 l0_0 x16_1).f0) != a1)=false:=bne_eq_false_iff_eq.mpr c13;clear c13;by_cases c14:((rd_T84 l0_0 x16_1).f2)=a2
        ·rw [if_pos c14] at H;have c14b0:(((rd_T84 l0_0 x16_1).f2) == a2)=true:=beq_iff_eq.mpr c14;have c14b1:(((rd_T84 l0_0 x16_1).f2) != a2)=false:=bne_eq_false_iff_eq.mpr c14;clear c14;simp only [Option.some.injEq,Prod.mk.injEq] at H;obtain ⟨rfl,rfl⟩:=H;have p159:0≤(x16_1:Int):=of_decide_eq_true (by first|(with_reducible assumption)|assumption);have q159:x16_1 < (l0_0.length:Int):=of_decide_eq_true (by first|(with_reducible assumption)|assumption);obtain ⟨ad159,e159,hx159_0,hx159_1,hx159_2⟩:=at_T84 HR0_0.out x16_1 p159 q159;cases e159
         replace hx159_0:=(HB.out.cell (World.block_lt_of_cell? w _ hx159_0)).trans hx159_0;replace hx159_1:=(HB.out.cell (World.block_lt_of_cell? w _ hx159_1)).trans hx159_1;replace hx159_2:=(HB.out.cell (World.block_lt_of_cell? w _ hx159_2)).trans hx159_2;replace p159:=eq_true p159;replace q159:=eq_true q159;go_wp2_with (first|((with_reducible refine gate_dst (N:=9) rfl ?_);refine box_event ?hg (N:=9) ?hd (cs:=#[.int .i64 0,.int .i64 0,.int .i64 0]) (t:=84) ?hr ?_;(case hd=>rfl);(case hg=>rfl);(case hr=>(go_simp;try rfl));intro gb160 hg w15 hbox hb;have n0_:=qK (qB (g:=gb157) (o:=_) (by (with_reducible repeat (first|refine qN ?_ _|refine qW ?_|refine qL ?_ _));exact BK157.out) hb);have n1_:=qK (qT (by repeat (with_reducible first|exact HB.out|apply qA|apply qD|apply qO|refine qS ?_ GE157.out)) hb);have n2_:=qK (hbox);have n3_:=qK ((by rw [hg];exact (qZ (by repeat (with_reducible first|exact HB.out|apply qA|apply qD|apply qO|refine qS ?_ GE157.out))):w.heap.size≤gb160));have n4_:=qK ((by rw [hg];exact (qZ (by repeat (with_reducible first|exact HB.out|apply qA|apply qD|apply qO|refine qS ?_ GE157.out))):w.heap.size≤gb160));have n5_:=qK ((by rw [hg];exact Nat.ne_of_lt (blk_lt (g:=gb157) (o:=_) (by (with_reducible repeat (first|refine qN ?_ _|refine qW ?_|refine qL ?_ _));exact BK157.out)):gb157 ≠ gb160));have n6_:=qK ((by rw [hg];exact Nat.ne_of_gt (blk_lt (g:=gb157) (o:=_) (by (with_reducible repeat (first|refine qN ?_ _|refine qW ?_|refine qL ?_ _));exact BK157.out)):gb160 ≠ gb157));clear BK157;clear HB;have BK157:=n0_;have HB:=n1_;have BK160:=n2_;have GW160:=n3_;have GE160:=n4_;have NB157_160:=n5_;have NB160_157:=n6_;clear n0_ n1_ n2_ n3_ n4_ n5_ n6_;clear hb hbox hg;have hnb16:=NB160_157.out;have hnc16:=NB157_160.out;have hcz17_0:w15.cell? ⟨gb160,0,none⟩=some (.int .i64 0):=(qC BK160.out 0).trans rfl;have hcz17_1:w15.cell? ⟨gb160,1,none⟩=some (.int .i64 0):=(qC BK160.out 1).trans rfl;have hcz17_2:w15.cell? ⟨gb160,2,none⟩=some (.int .i64 0):=(qC BK160.out 2).trans rfl;have hfz17_0:=qF BK160.out 0;have hfz17_1:=qF BK160.out 1;have hfz17_2:=qF BK160.out 2))
         go_ret2
         exact ⟨by first|rfl|(simp [errW_none,errW_some] <;> rfl)|(simp [*,errW_none,errW_some] <;> rfl),by repeat (first|(with_reducible first|exact HB.out|apply qA|apply qD|apply qO|refine qS ?_ GE157.out|refine qS ?_ GE160.out)|exact HB.out)⟩
        ·rw [if_neg c14] at H;have c14b0:(((rd_T84 l0_0 x16_1).f2) == a2)=false:=beq_eq_false_iff_ne.mpr c14;have c14b1:(((rd_T84 l0_0 x16_1).f2) != a2)=true:=bne_iff_ne.mpr c14;have H':=qK H;clear H;have p159:0≤(x16_1:Int):=of_decide_eq_true (by first|(with_reducible assumption)|assumption);have q159:x16_1 < (l0_0.length:Int):=of_decide_eq_true (by first|(with_reducible assumption)|assumption);obtain ⟨ad159,e159,hx159_0,hx159_1,hx159_2⟩:=at_T84 HR0_0.out x16_1 p159 q159;cases e159
         replace hx159_0:=(HB.out.cell (World.block_lt_of_cell? w _ hx159_0)).trans hx159_0;replace hx159_1:=(HB.out.cell (World.block_lt_of_cell? w _ hx159_1)).trans hx159_1;replace hx159_2:=(HB.out.cell (World.block_lt_of_cell? w _ hx159_2)).trans hx159_2;replace p159:=eq_true p159;replace q159:=eq_true q159;go_wp2_with (first|((with_reducible refine gate_dst (N:=9) rfl ?_);refine box_event ?hg (N:=9) ?hd (cs:=#[.int .i64 0,.int .i64 0,.int .i64 0]) (t:=84) ?hr ?_;(case hd=>rfl);(case hg=>rfl);(case hr=>(go_simp;try rfl));intro gb160 hg w18 hbox hb;have n0_:=qK (qB (g:=gb157) (o:=_) (by (with_reducible repeat (first|refine qN ?_ _|refine qW ?_|refine qL ?_ _));exact BK157.out) hb);have n1_:=qK (qT (by repeat (with_reducible first|exact HB.out|apply qA|apply qD|apply qO|refine qS ?_ GE157.out)) hb);have n2_:=qK (hbox);have n3_:=qK ((by rw [hg];exact (qZ (by repeat (with_reducible first|exact HB.out|apply qA|apply qD|apply qO|refine qS ?_ GE157.out))):w.heap.size≤gb160));have n4_:=qK ((by rw [hg];exact (qZ (by repeat (with_reducible first|exact HB.out|apply qA|apply qD|apply qO|refine qS ?_ GE157.out))):w.heap.size≤gb160));have n5_:=qK ((by rw [hg];exact Nat.ne_of_lt (blk_lt (g:=gb157) (o:=_) (by (with_reducible repeat (first|refine qN ?_ _|refine qW ?_|refine qL ?_ _));exact BK157.out)):gb157 ≠ gb160));have n6_:=qK ((by rw [hg];exact Nat.ne_of_gt (blk_lt (g:=gb157) (o:=_) (by (with_reducible repeat (first|refine qN ?_ _|refine qW ?_|refine qL ?_ _));exact BK157.out)):gb160 ≠ gb157));clear BK157;clear HB;have BK157:=n0_;have HB:=n1_;have BK160:=n2_;have GW160:=n3_;have GE160:=n4_;have NB157_160:=n5_;have NB160_157:=n6_;clear n0_ n1_ n2_ n3_ n4_ n5_ n6_;clear hb hbox hg;have hnb19:=NB160_157.out;have hnc19:=NB157_160.out;have hcz20_0:w18.cell? ⟨gb160,0,none⟩=some (.int .i64 0):=(qC BK160.out 0).trans rfl;have hcz20_1:w18.cell? ⟨gb160,1,none⟩=some (.int .i64 0):=(qC BK160.out 1).trans rfl;have hcz20_2:w18.cell? ⟨gb160,2,none⟩=some (.int .i64 0):=(qC BK160.out 2).trans rfl;have hfz20_0:=qF BK160.out 0;have hfz20_1:=qF BK160.out 1;have hfz20_2:=qF BK160.out 2))
         go_roundg k1
         case measure=>have:=HK1.out;omega
         case rel=>exact ⟨(wrap64 (x16_1 + 1)),(by first|rfl|(simp;done)|(simp [*];done)),H',⟨by have:=HK1.out;omega⟩,⟨by (with_reducible repeat (first|refine qN ?_ _|refine qW ?_|refine qL ?_ _));refine qR ?_ NB157_160.out _;(with_reducible repeat (first|refine qN ?_ _|refine qW ?_|refine qL ?_ _));refine qR ?_ NB157_160.out _;(with_reducible repeat (first|refine qN ?_ _|refine qW ?_|refine qL ?_ _));refine qR ?_ NB157_160.out _;(with_reducible repeat (first|refine qN ?_ _|refine qW ?_|refine qL ?_ _));exact BK157.out⟩,⟨by repeat (first|(with_reducible first|exact HB.out|apply qA|apply qD|apply qO|refine qS ?_ GE157.out|refine qS ?_ GE160.out)|exact HB.out)⟩⟩
       ·rw [if_neg c13] at H;have c13b0:(((rd_T84 l0_0 x16_1).f0) == a1)=false:=beq_eq_false_iff_ne.mpr c13;have c13b1:(((rd_T84 l0_0 x16_1).f0) != a1)=true:=bne_iff_ne.mpr c13;have H':=qK H;clear H;have p159:0≤(x16_1:Int):=of_decide_eq_true (by first|(with_reducible assumption)|assumption);have q159:x16_1 < (l0_0.length:Int):=of_decide_eq_true (by first|(with_reducible assumption)|assumption);obtain ⟨ad159,e159,hx159_0,hx159_1,hx159_2⟩:=at_T84 HR0_0.out x16_1 p159 q159;cases e159
        replace hx159_0:=(HB.out.cell (World.block_lt_of_cell? w _ hx159_0)).trans hx159_0;replace hx159_1:=(HB.out.cell (World.block_lt_of_cell? w _ hx159_1)).trans hx159_1;replace hx159_2:=(HB.out.cell (World.block_lt_of_cell? w _ hx159_2)).trans hx159_2;replace p159:=eq_true p159;replace q159:=eq_true q159;go_wp2_with (first|((with_reducible refine gate_dst (N:=9) rfl ?_);refine box_event ?hg (N:=9) ?hd (cs:=#[.int .i64 0,.int .i64 0,.int .i64 0]) (t:=84) ?hr ?_;(case hd=>rfl);(case hg=>rfl);(case hr=>(go_simp;try rfl));intro gb160 hg w21 hbox hb;have n0_:=qK (qB (g:=gb157) (o:=_) (by (with_reducible repeat (first|refine qN ?_ _|refine qW ?_|refine qL ?_ _));exact BK157.out) hb);have n1_:=qK (qT (by repeat (with_reducible first|exact HB.out|apply qA|apply qD|apply qO|refine qS ?_ GE157.out)) hb);have n2_:=qK (hbox);have n3_:=qK ((by rw [hg];exact (qZ (by repeat (with_reducible first|exact HB.out|apply qA|apply qD|apply qO|refine qS ?_ GE157.out))):w.heap.size≤gb160));have n4_:=qK ((by rw [hg];exact (qZ (by repeat (with_reducible first|exact HB.out|apply qA|apply qD|apply qO|refine qS ?_ GE157.out))):w.heap.size≤gb160));have n5_:=qK ((by rw [hg];exact Nat.ne_of_lt (blk_lt (g:=gb157) (o:=_) (by (with_reducible repeat (first|refine qN ?_ _|refine qW ?_|refine qL ?_ _));exact BK157.out)):gb157 ≠ gb160));have n6_:=qK ((by rw [hg];exact Nat.ne_of_gt (blk_lt (g:=gb157) (o:=_) (by (with_reducible repeat (first|refine qN ?_ _|refine qW ?_|refine qL ?_ _));exact BK157.out)):gb160 ≠ gb157));clear BK157;clear HB;have BK157:=n0_;have HB:=n1_;have BK160:=n2_;have GW160:=n3_;have GE160:=n4_;have NB157_160:=n5_;have NB160_157:=n6_;clear n0_ n1_ n2_ n3_ n4_ n5_ n6_;clear hb hbox hg;have hnb22:=NB160_157.out;have hnc22:=NB157_160.out;have hcz23_0:w21.cell? ⟨gb160,0,none⟩=some (.int .i64 0):=(qC BK160.out 0).trans rfl;have hcz23_1:w21.cell? ⟨gb160,1,none⟩=some (.int .i64 0):=(qC BK160.out 1).trans rfl;have hcz23_2:w21.cell? ⟨gb160,2,none⟩=some (.int .i64 0):=(qC BK160.out 2).trans rfl;have hfz23_0:=qF BK160.out 0;have hfz23_1:=qF BK160.out 1;have hfz23_2:=qF BK160.out 2))
        go_roundg k1
        case measure=>have:=HK1.out;omega
        case rel=>exact ⟨(wrap64 (x16_1 + 1)),(by first|rfl|(simp;done)|(simp [*];done)),H',⟨by have:=HK1.out;omega⟩,⟨by (with_reducible repeat (first|refine qN ?_ _|refine qW ?_|refine qL ?_ _));refine qR ?_ NB157_160.out _;(with_reducible repeat (first|refine qN ?_ _|refine qW ?_|refine qL ?_ _));refine qR ?_ NB157_160.out _;(with_reducible repeat (first|refine qN ?_ _|refine qW ?_|refine qL ?_ _));refine qR ?_ NB157_160.out _;(with_reducible repeat (first|refine qN ?_ _|refine qW ?_|refine qL ?_ _));exact BK157.out⟩,⟨by repeat (first|(with_reducible first|exact HB.out|apply qA|apply qD|apply qO|refine qS ?_ GE157.out|refine qS ?_ GE160.out)|exact HB.out)⟩⟩
      ·rw [if_neg c12] at H;exact absurd H (by simp)
     ·rw [if_neg c11] at H;exact absurd H (by simp)
    ·rw [if_neg c10] at H;have c10b0:decide (x16_1 < (l0_0.length:Int))=false:=decide_eq_false c10;clear c10;simp only [Option.some.injEq,Prod.mk.injEq] at H;obtain ⟨rfl,rfl⟩:=H;go_wp2
     go_ret2
     exact ⟨by first|rfl|(simp [errW_none,errW_some] <;> rfl)|(simp [*,errW_none,errW_some] <;> rfl),by repeat (first|(with_reducible first|exact HB.out|apply qA|apply qD|apply qO|refine qS ?_ GE157.out)|exact HB.out)⟩
 ·replace c5:=Bool.eq_false_iff.mpr c5;subst c5;have H1:(some (0,false))=some (r1,r2):=by rw [if_neg (show ¬ (false=true) by decide)] at H;exact H
  clear H;have H:=H1;clear H1;simp only [Option.some.injEq,Prod.mk.injEq] at H;obtain ⟨rfl,rfl⟩:=H;go_enter Try.func23,Try.ntmps23
  go_wp2_with (first|((with_reducible refine gate_dst (N:=3) rfl ?_);refine box_event ?hg (N:=3) ?hd (cs:=#[.slice A0_0 l0_0.length c0_0,.slice A0_1 l0_1.length c0_1,.slice A0_2 l0_2.length c0_2,.slice A0_3 l0_3.length c0_3,.slice A0_4 l0_4.length c0_4]) (t:=40) ?hr ?_;(case hd=>rfl);(case hg=>rfl);(case hr=>(go_simp;try rfl));intro gb157 hg w24 hbox hb;have n0_:=qK (qT (by repeat (with_reducible first|exact HB.out|apply qA|apply qD|apply qO)) hb);have n1_:=qK (hbox);have n2_:=qK ((by rw [hg];exact (qZ (by repeat (with_reducible first|exact HB.out|apply qA|apply qD|apply qO))):w.heap.size≤gb157));have n3_:=qK ((by rw [hg];exact (qZ (by repeat (with_reducible first|exact HB.out|apply qA|apply qD|apply qO))):w.heap.size≤gb157));clear HB;have HB:=n0_;have BK157:=n1_;have GW157:=n2_;have GE157:=n3_;clear n0_ n1_ n2_ n3_;clear hb hbox hg;have hcz25_0:w24.cell? ⟨gb157,0,none⟩=some (.slice A0_0 l0_0.length c0_0):=(qC BK157.out 0).trans rfl;have hcz25_1:w24.cell? ⟨gb157,1,none⟩=some (.slice A0_1 l0_1.length c0_1):=(qC BK157.out 1).trans rfl;have hcz25_2:w24.cell? ⟨gb157,2,none⟩=some (.slice A0_2 l0_2.length c0_2):=(qC BK157.out 2).trans rfl;have hcz25_3:w24.cell? ⟨gb157,3,none⟩=some (.slice A0_3 l0_3.length c0_3):=(qC BK157.out 3).trans rfl;have hcz25_4:w24.cell? ⟨gb157,4,none⟩=some (.slice A0_4 l0_4.length c0_4):=(qC BK157.out 4).trans rfl;have hfz25_0:=qF BK157.out 0;have hfz25_1:=qF BK157.out 1;have hfz25_2:=qF BK157.out 2;have hfz25_3:=qF BK157.out 3;have hfz25_4:=qF BK157.out 4)|((with_reducible refine gate_callee (f:=83) rfl ?_);refine goesL_ (some 11) rfl rfl Try.func83 (by kernel_rfl) rfl #[.agg #[.slice A0_0 l0_0.length c0_0,.slice A0_1 l0_1.length c0_1,.slice A0_2 l0_2.length c0_2,.slice A0_3 l0_3.length c0_3,.slice A0_4 l0_4.length c0_4]] rfl (by (try simp only [mT,mC,mN]);first|done|rfl|(simp only [lD,lT];rfl)) ?_;(with_reducible refine (spec_GoodLocks.calls k _ _ l0_0 _ _ l0_1 _ _ l0_2 _ _ l0_3 _ _ l0_4 false _ ?side1 ?side2 ?side3 ?side4 ?side5 ?side6 ?side7 ?side8 ?side9 ?side10 A4.out).mono ?_);(case side1=>repeat (first|exact (cB HR0_0.out HB.out)|(with_reducible first|refine cL ?_ _|refine cN ?_ _|refine cW ?_)));(case side2=>exact HC0_0.out);(case side3=>repeat (first|exact (cB HR0_1.out HB.out)|(with_reducible first|refine cL ?_ _|refine cN ?_ _|refine cW ?_)));(case side4=>exact HC0_1.out);(case side5=>repeat (first|exact (cB HR0_2.out HB.out)|(with_reducible first|refine cL ?_ _|refine cN ?_ _|refine cW ?_)));(case side6=>exact HC0_2.out);(case side7=>repeat (first|exact (cB HR0_3.out HB.out)|(with_reducible first|refine cL ?_ _|refine cN ?_ _|refine cW ?_)));(case side8=>exact HC0_3.out);(case side9=>repeat (first|exact (cB HR0_4.out HB.out)|(with_reducible first|refine cL ?_ _|refine cN ?_ _|refine cW ?_)));(case side10=>exact HC0_4.out);rintro e w26 ⟨rfl,hb⟩;refine ⟨_,rfl,?_⟩;have n0_:=qK (qB (g:=gb157) (o:=_) (by (with_reducible repeat (first|refine qN ?_ _|refine qW ?_|refine qL ?_ _));exact BK157.out) hb);have n1_:=qK (qT (by repeat (with_reducible first|exact HB.out|apply qA|apply qD|apply qO|refine qS ?_ GE157.out)) hb);clear BK157;clear HB;have BK157:=n0_;have HB:=n1_;clear n0_ n1_;(try clear hb)))
  go_ret2
  exact ⟨by first|rfl|(simp [errW_none,errW_some] <;> rfl)|(simp [*,errW_none,errW_some] <;> rfl),by repeat (first|(with_reducible first|exact HB.out|apply qA|apply qD|apply qO|refine qS ?_ GE157.out)|exact HB.out)⟩

/-! ### laws_toStep: function 72 -/
def laws_toStep.f (a0_0:Int) (a0_1:Int) (a0_2:Int):Option (Int × Int × Int):=some (a0_0,a0_1,a0_2)
set_option maxHeartbeats 8000000 in
set_option maxRecDepth 100000 in
theorem laws_toStep.calls (a0_0:Int) (a0_1:Int) (a0_2:Int) (r1:Int) (r2:Int) (r3:Int) (w:World) (h:laws_toStep.f a0_0 a0_1 a0_2=some (r1,r2,r3)) :
  Calls Try.prog 72 #[.agg #[.int .i64 a0_0,.int .i64 a0_1,.int .i64 a0_2]] w fun e w'=>e=.returned (.agg #[.int .i64 r1,.int .i64 r2,.int .i64 r3])∧Below w.heap.size w w':=by
 have hu93:=Try.underlying93;have hu84:=Try.underlying84;have HB:=qK (Below.refl w.heap.size w);have H:(some (a0_0,a0_1,a0_2))=some (r1,r2,r3):=h;clear h;simp only [Option.some.injEq,Prod.mk.injEq] at H;obtain ⟨rfl,rfl,rfl⟩:=H;go_enter Try.func72,Try.ntmps72
 go_wp2_with (first|((with_reducible refine gate_dst (N:=1) rfl ?_);refine box_event ?hg (N:=1) ?hd (cs:=#[.int .i64 a0_0,.int .i64 a0_1,.int .i64 a0_2]) (t:=93) ?hr ?_;(case hd=>rfl);(case hg=>rfl);(case hr=>(go_simp;try rfl));intro gb161 hg w2 hbox hb;have n0_:=qK (qT (by repeat (with_reducible first|exact HB.out|apply qA|apply qD|apply qO)) hb);have n1_:=qK (hbox);have n2_:=qK ((by rw [hg];exact (qZ (by repeat (with_reducible first|exact HB.out|apply qA|apply qD|apply qO))):w.heap.size≤gb161));have n3_:=qK ((by rw [hg];exact (qZ (by repeat (with_reducible first|exact HB.out|apply qA|apply qD|apply qO))):w.heap.size≤gb161));clear HB;have HB:=n0_;have BK161:=n1_;have GW161:=n2_;have GE161:=n3_;clear n0_ n1_ n2_ n3_;clear hb hbox hg)|((with_reducible refine gate_dst (N:=2) rfl ?_);refine box_event ?hg (N:=2) ?hd (cs:=#[.int .i64 0,.int .i64 0,.int .i64 0]) (t:=84) ?hr ?_;(case hd=>rfl);(case hg=>rfl);(case hr=>(go_simp;try rfl));intro gb162 hg w3 hbox hb;have n0_:=qK (qB (g:=gb161) (o:=_) (by (with_reducible repeat (first|refine qN ?_ _|refine qW ?_|refine qL ?_ _));exact BK161.out) hb);have n1_:=qK (qT (by repeat (with_reducible first|exact HB.out|apply qA|apply qD|apply qO|refine qS ?_ GE161.out)) hb);have n2_:=qK (hbox);have n3_:=qK ((by rw [hg];exact (qZ (by repeat (with_reducible first|exact HB.out|apply qA|apply qD|apply qO|refine qS ?_ GE161.out))):w.heap.size≤gb162));have n4_:=qK ((by rw [hg];exact (qZ (by repeat (with_reducible first|exact HB.out|apply qA|apply qD|apply qO|refine qS ?_ GE161.out))):w.heap.size≤gb162));have n5_:=qK ((by rw [hg];exact Nat.ne_of_lt (blk_lt (g:=gb161) (o:=_) (by (with_reducible repeat (first|refine qN ?_ _|refine qW ?_|refine qL ?_ _));exact BK161.out)):gb161 ≠ gb162));have n6_:=qK ((by rw [hg];exact Nat.ne_of_gt (blk_lt (g:=gb161) (o:=_) (by (with_reducible repeat (first|refine qN ?_ _|refine qW ?_|refine qL ?_ _));exact BK161.out)):gb162 ≠ gb161));clear BK161;clear HB;have BK161:=n0_;have HB:=n1_;have BK162:=n2_;have GW162:=n3_;have GE162:=n4_;have NB161_162:=n5_;have NB162_161:=n6_;clear n0_ n1_ n2_ n3_ n4_ n5_ n6_;clear hb hbox hg)|((with_reducible refine gate_dst (N:=3) rfl ?_);refine box_event ?hg (N:=3) ?hd (cs:=#[.int .i64 0,.int .i64 0,.int .i64 0]) (t:=84) ?hr ?_;(case hd=>rfl);(case hg=>rfl);(case hr=>(go_simp;try rfl));intro gb163 hg w4 hbox hb;have n0_:=qK (qB (g:=gb161) (o:=_) (by (with_reducible repeat (first|refine qN ?_ _|refine qW ?_|refine qL ?_ _));exact BK161.out) hb);have n1_:=qK (qB (g:=gb162) (o:=_) (by (with_reducible repeat (first|refine qN ?_ _|refine qW ?_|refine qL ?_ _));exact BK162.out) hb);have n2_:=qK (qT (by repeat (with_reducible first|exact HB.out|apply qA|apply qD|apply qO|refine qS ?_ GE161.out|refine qS ?_ GE162.out)) hb);have n3_:=qK (hbox);have n4_:=qK ((by rw [hg];exact (qZ (by repeat (with_reducible first|exact HB.out|apply qA|apply qD|apply qO|refine qS ?_ GE161.out|refine qS ?_ GE162.out))):w.heap.size≤gb163));have n5_:=qK ((by rw [hg];exact (qZ (by repeat (with_reducible first|exact HB.out|apply qA|apply qD|apply qO|refine qS ?_ GE161.out|refine qS ?_ GE162.out))):w.heap.size≤gb163));have n6_:=qK ((by rw [hg];exact Nat.ne_of_lt (blk_lt (g:=gb161) (o:=_) (by (with_reducible repeat (first|refine qN ?_ _|refine qW ?_|refine qL ?_ _));exact BK161.out)):gb161 ≠ gb163));have n7_:=qK ((by rw [hg];exact Nat.ne_of_gt (blk_lt (g:=gb161) (o:=_) (by (with_reducible repeat (first|refine qN ?_ _|refine qW ?_|refine qL ?_ _));exact BK161.out)):gb163 ≠ gb161));have n8_:=qK ((by rw [hg];exact Nat.ne_of_lt (blk_lt (g:=gb162) (o:=_) (by (with_reducible repeat (first|refine qN ?_ _|refine qW ?_|refine qL ?_ _));exact BK162.out)):gb162 ≠ gb163));have n9_:=qK ((by rw [hg];exact Nat.ne_of_gt (blk_lt (g:=gb162) (o:=_) (by (with_reducible repeat (first|refine qN ?_ _|refine qW ?_|refine qL ?_ _));exact BK162.out)):gb163 ≠ gb162));clear BK161;clear BK162;clear HB;have BK161:=n0_;have BK162:=n1_;have HB:=n2_;have BK163:=n3_;have GW163:=n4_;have GE163:=n5_;have NB161_163:=n6_;have NB163_161:=n7_;have NB162_163:=n8_;have NB163_162:=n9_;clear n0_ n1_ n2_ n3_ n4_ n5_ n6_ n7_ n8_ n9_;clear hb hbox hg;have hnb5:=NB161_162.out;have hnc5:=NB162_161.out;have hnb6:=NB161_163.out;have hnc6:=NB163_161.out;have hcz7_0:w4.cell? ⟨gb161,0,none⟩=some (.int .i64 a0_0):=(qC BK161.out 0).trans rfl;have hcz7_1:w4.cell? ⟨gb161,1,none⟩=some (.int .i64 a0_1):=(qC BK161.out 1).trans rfl;have hcz7_2:w4.cell? ⟨gb161,2,none⟩=some (.int .i64 a0_2):=(qC BK161.out 2).trans rfl;have hfz7_0:=qF BK161.out 0;have hfz7_1:=qF BK161.out 1;have hfz7_2:=qF BK161.out 2;have hnb8:=NB163_162.out;have hnc8:=NB162_163.out;have hcz9_0:w4.cell? ⟨gb163,0,none⟩=some (.int .i64 0):=(qC BK163.out 0).trans rfl;have hcz9_1:w4.cell? ⟨gb163,1,none⟩=some (.int .i64 0):=(qC BK163.out 1).trans rfl;have hcz9_2:w4.cell? ⟨gb163,2,none⟩=some (.int .i64 0):=(qC BK163.out 2).trans rfl;have hfz9_0:=qF BK163.out 0;have hfz9_1:=qF BK163.out 1;have hfz9_2:=qF BK163.out 2;have hcz10_0:w4.cell? ⟨gb162,0,none⟩=some (.int .i64 0):=(qC BK162.out 0).trans rfl;have hcz10_1:w4.cell? ⟨gb162,1,none⟩=some (.int .i64 0):=(qC BK162.out 1).trans rfl;have hcz10_2:w4.cell? ⟨gb162,2,none⟩=some (.int .i64 0):=(qC BK162.out 2).trans rfl;have hfz10_0:=qF BK162.out 0;have hfz10_1:=qF BK162.out 1;have hfz10_2:=qF BK162.out 2))
 refine bodyPost_ret (results_cell_row rfl _ _ gb162 84 #[.int .i64 a0_0,.int .i64 a0_1,.int .i64 a0_2] (0,0) _ rfl (by (with_reducible repeat (first|refine qN ?_ _|refine qW ?_|refine qL ?_ _));refine qP (cs:=#[.int .i64 a0_0,.int .i64 a0_1,.int .i64 0]) ?_ 2 _ rfl;(with_reducible repeat (first|refine qN ?_ _|refine qW ?_|refine qL ?_ _));refine qP (cs:=#[.int .i64 a0_0,.int .i64 0,.int .i64 0]) ?_ 1 _ rfl;(with_reducible repeat (first|refine qN ?_ _|refine qW ?_|refine qL ?_ _));refine qP (cs:=#[.int .i64 0,.int .i64 0,.int .i64 0]) ?_ 0 _ rfl;(with_reducible repeat (first|refine qN ?_ _|refine qW ?_|refine qL ?_ _));refine qR ?_ NB162_163.out _;(with_reducible repeat (first|refine qN ?_ _|refine qW ?_|refine qL ?_ _));refine qR ?_ NB162_163.out _;(with_reducible repeat (first|refine qN ?_ _|refine qW ?_|refine qL ?_ _));refine qR ?_ NB162_163.out _;(with_reducible repeat (first|refine qN ?_ _|refine qW ?_|refine qL ?_ _));exact BK162.out) Try.underlying84 rfl (by kernel_rfl)) rfl ?_;exact ⟨by first|rfl|(simp [errW_none,errW_some] <;> rfl)|(simp [*,errW_none,errW_some] <;> rfl),by repeat (first|(with_reducible first|exact HB.out|apply qA|apply qD|apply qO|refine qS ?_ GE161.out|refine qS ?_ GE162.out|refine qS ?_ GE163.out)|exact HB.out)⟩

/-! ### laws_toStepS: function 15 -/
def laws_toStepS.l0 : Nat→List (S93)→List (S84)→Int→Option ((List (S84)))
 | 0,_,_,_=>none
 | k + 1,x0,x3,x4=>if x4 < (x0.length:Int) then (if 0≤x4 then ((laws_toStep.f ((rd_T93 x0 x4).f0) ((rd_T93 x0 x4).f1) ((rd_T93 x0 x4).f2)).bind fun bt168=>(if x4 < (x3.length:Int) then (laws_toStepS.l0 k x0 (x3.set (x4:Int).toNat (⟨bt168.1,bt168.2.1,bt168.2.2⟩:S84)) (wrap64 (x4 + 1))) else (none))) else (none)) else (some x3)
def laws_toStepS.f (k:Nat) (l0:List (S93)):Option ((List (S84))):=if 0≤(l0.length:Int) then (if ((l0.length:Int):Int).toNat≤11728124029610 then (laws_toStepS.l0 k l0 (List.replicate ((l0.length:Int):Int).toNat z84) 0) else (none)) else (none)
theorem laws_toStepS.mono_l : ∀ k,(∀ y0 y1 y2,LeO (laws_toStepS.l0 k y0 y1 y2) (laws_toStepS.l0 (k + 1) y0 y1 y2))
 | 0=>fun _ _ _ r h=>by simp [laws_toStepS.l0] at h
 | k + 1=>by
  have ih0:=laws_toStepS.mono_l k
  ·intro y0 y1 y2;unfold laws_toStepS.l0
   repeat' first
   | (with_reducible exact ih0 _ _ _)
   | (with_reducible exact LeO.refl _)
   | (with_reducible exact LeO.none _)
   | (with_reducible refine LeO.ite ?_ ?_)
   | (with_reducible refine LeO.bind ?_ (fun _=>?_))
   | exact ih0 _ _ _
   | exact LeO.none _
   | refine LeO.ite ?_ ?_
   | refine LeO.bind ?_ (fun _=>?_)
theorem laws_toStepS.mono : ∀ a0 k,LeO (laws_toStepS.f k a0) (laws_toStepS.f (k + 1) a0):=by
 intro a0 k;have ih0:=laws_toStepS.mono_l k;unfold laws_toStepS.f
 repeat' first
   | (with_reducible exact ih0 _ _ _)
   | (with_reducible exact LeO.refl _)
   | (with_reducible exact LeO.none _)
   | (with_reducible refine LeO.ite ?_ ?_)
   | (with_reducible refine LeO.bind ?_ (fun _=>?_))
   | exact ih0 _ _ _
   | exact LeO.none _
   | refine LeO.ite ?_ ?_
   | refine LeO.bind ?_ (fun _=>?_)
set_option maxHeartbeats 8000000 in
set_option maxRecDepth 100000 in
theorem laws_toStepS.calls (k:Nat) (A0:Option Addr) (c0:Nat) (l0:List (S93)) (r:List (S84)) (w:World) (hr0:Kd.C k93 w A0 l0.length l0) (hc0:l0.length≤c0) (h:laws_toStepS.f k l0=some r) :
  Calls Try.prog 15 #[.slice A0 l0.length c0] w fun e w'=>∃ v0_:Value,e=.returned (v0_)∧Kd.R k84 84 w' w.heap.size (fun _=>True) v0_ r∧Below w.heap.size w w':=by
 have hu93:=Try.underlying93;have hu84:=Try.underlying84;have HR0:=qK hr0;have HC0:=qK hc0;clear hr0 hc0;have HB:=qK (Below.refl w.heap.size w);have H:(if 0≤(l0.length:Int) then (if ((l0.length:Int):Int).toNat≤11728124029610 then (laws_toStepS.l0 k l0 (List.replicate ((l0.length:Int):Int).toNat z84) 0) else (none)) else (none))=some r:=h;clear h;by_cases c2:0≤(l0.length:Int)
 ·rw [if_pos c2] at H;have c2b0:=eq_true c2;have c2b1:decide (0≤(l0.length:Int))=true:=decide_eq_true c2;clear c2;by_cases c3:((l0.length:Int):Int).toNat≤11728124029610
  ·rw [if_pos c3] at H;have c3b0:=eq_true c3;have c3b1:decide (((l0.length:Int):Int).toNat≤11728124029610)=true:=decide_eq_true c3;clear c3;obtain ⟨y164,hy164⟩:∃ y_:List (S84),y_=(List.replicate ((l0.length:Int):Int).toNat z84):=⟨_,rfl⟩;replace H:(laws_toStepS.l0 k l0 y164 0)=some r:=by first|(rw [hy164];with_reducible exact H)|(have H2_:=(Option.bind_some _ _).symm.trans H;rw [hy164];with_reducible exact H2_)|(have H2_:=(Option.bind_some _ _).symm.trans H;with_reducible exact H2_)|with_reducible exact H|(rw [hy164];exact H)|exact H
   have Ny164:=qK hy164;clear hy164;have H':=qK H;clear H;go_enter Try.func15,Try.ntmps15
   go_wp2_with (first|((with_reducible refine gate_dst (N:=7) rfl ?_);refine Kd.R_make k84 _ 84 rfl (N:=7) rfl 27 _ _ rfl (l0.length:Int) rfl rfl Try.underlying27 (.agg #[(.int .i64 0),(.int .i64 0),(.int .i64 0)]) 24 info84 rfl (by decide) (by omega) z84 (ok:=fun _=>True) (okp:=fun _=>True) (k84_mkM _ _ _ z84 ) (fun _ hk=>hk) trivial (of_decide_eq_true (by first|(with_reducible assumption)|assumption)) (Nat.le_trans (Nat.mul_le_mul_right _ (of_decide_eq_true (by first|(with_reducible assumption)|assumption):(l0.length:Int).toNat≤11728124029610)) (by omega)) (Below.refl _ _) (Nat.le_refl _) ?_;intro v165 w4 ho5 hb hg_ hnew_;clear hg_ hnew_;(first|rw [← Ny164.out] at ho5|(simp only [Int.reduceToNat] at ho5;rw [← Ny164.out] at ho5));have n0_:=qK (Kd.R_lower ho5 (qZ (by repeat (with_reducible first|exact HB.out|apply qA|apply qD|apply qO))));have n1_:=qK (qT (by repeat (with_reducible first|exact HB.out|apply qA|apply qD|apply qO)) hb);clear HB;have HO166:=n0_;have HB:=n1_;clear n0_ n1_;clear hb ho5))
   go_loopg [4] k (fun kq v4 w'=>∃ (x3_1:List (S84)) (x4_1:Int),v4=.int .i64 x4_1∧Aside0 (laws_toStepS.l0 kq l0 x3_1 x4_1=some r)∧Aside0 (kq≤k)∧Aside0 (Kd.R k84 84 w' w.heap.size (fun _=>True) v165 x3_1)∧Aside0 (Below w.heap.size w w'))
   case atStart=>exact ⟨(y164),(0),(by first|rfl|(simp;done)|(simp [*];done)),H',⟨Nat.le_refl _⟩,⟨by (with_reducible repeat (first|apply rL|apply rN|apply rW));exact HO166.out⟩,⟨by repeat (first|(with_reducible first|exact HB.out|apply qA|apply qD|apply qO)|exact HB.out)⟩⟩
   case round =>
    clear H';try clear c1
    try clear c2
    try clear c2b0
    try clear c2b1
    try clear p2
    try clear c3
    try clear c3b0
    try clear c3b1
    obtain ⟨x3_1,x4_1,rfl,HA,HK1,HO_3,HB⟩:=hrel;cases gk with
    | zero=>exact absurd HA.out (by simp [laws_toStepS.l0])
    | succ k1 =>
     have H:=HA.out;clear HA;simp only [laws_toStepS.l0] at H;by_cases c6:x4_1 < (l0.length:Int)
     ·rw [if_pos c6] at H;have c6b0:decide (x4_1 < (l0.length:Int))=true:=decide_eq_true c6;clear c6;by_cases c7:0≤x4_1
      ·rw [if_pos c7] at H;have c7b0:decide (0≤x4_1)=true:=decide_eq_true c7;clear c7;replace H:=Option.bind_eq_some_iff.mp H;obtain ⟨⟨t168,t169,t170⟩,A80,H⟩:=H;replace H:(if x4_1 < (x3_1.length:Int) then (laws_toStepS.l0 k1 l0 (x3_1.set (x4_1:Int).toNat (⟨t168,t169,t170⟩:S84)) (wrap64 (x4_1 + 1))) else (none))=some r:=H;have A8:=qK A80;clear A80;by_cases c9:x4_1 < (x3_1.length:Int)
       ·rw [if_pos c9] at H;have c9b0:decide (x4_1 < (x3_1.length:Int))=true:=decide_eq_true c9;clear c9;obtain ⟨y171,hy171⟩:∃ y_:List (S84),y_=(x3_1.set (x4_1:Int).toNat (⟨t168,t169,t170⟩:S84)):=⟨_,rfl⟩;replace H:(laws_toStepS.l0 k1 l0 y171 (wrap64 (x4_1 + 1)))=some r:=by first|(rw [hy171];with_reducible exact H)|(have H2_:=(Option.bind_some _ _).symm.trans H;rw [hy171];with_reducible exact H2_)|(have H2_:=(Option.bind_some _ _).symm.trans H;with_reducible exact H2_)|with_reducible exact H|(rw [hy171];exact H)|exact H
        have Ny171:=qK hy171;clear hy171;have H':=qK H;clear H;have p167:0≤(x4_1:Int):=of_decide_eq_true (by first|(with_reducible assumption)|assumption);have q167:x4_1 < (l0.length:Int):=of_decide_eq_true (by first|(with_reducible assumption)|assumption);obtain ⟨ad167,e167,hx167_0,hx167_1,hx167_2⟩:=at_T93 HR0.out x4_1 p167 q167;cases e167
        replace hx167_0:=(HB.out.cell (World.block_lt_of_cell? w _ hx167_0)).trans hx167_0;replace hx167_1:=(HB.out.cell (World.block_lt_of_cell? w _ hx167_1)).trans hx167_1;replace hx167_2:=(HB.out.cell (World.block_lt_of_cell? w _ hx167_2)).trans hx167_2;replace p167:=eq_true p167;replace q167:=eq_true q167;go_wp2_with (first|((with_reducible refine gate_callee (f:=72) rfl ?_);refine goesL_ (some 20) rfl rfl Try.func72 (by kernel_rfl) rfl #[.agg #[.int .i64 ((rd_T93 l0 x4_1).f0),.int .i64 ((rd_T93 l0 x4_1).f1),.int .i64 ((rd_T93 l0 x4_1).f2)]] rfl (by (try simp only [mT,mC,mN]);first|done|rfl|(simp only [lD,lT];rfl)) ?_;(with_reducible refine (laws_toStep.calls ((rd_T93 l0 x4_1).f0) ((rd_T93 l0 x4_1).f1) ((rd_T93 l0 x4_1).f2) t168 t169 t170 _ A8.out).mono ?_);rintro e w11 ⟨rfl,hb⟩;refine ⟨_,rfl,?_⟩;have n0_:=qK (rB (by (with_reducible repeat (first|apply rL|apply rN|apply rW));exact HO_3.out) hb);have n1_:=qK (qT (by repeat (with_reducible first|exact HB.out|apply qA|apply qD|apply qO)) hb);clear HO_3;clear HB;have HO_3:=n0_;have HB:=n1_;clear n0_ n1_;(try clear hb);have p10:0≤(x4_1:Int):=of_decide_eq_true (by first|(with_reducible assumption)|assumption);have q10:(x4_1:Int) < ((x3_1.length:Int):Int):=of_decide_eq_true (by first|(with_reducible assumption)|assumption);obtain ⟨go10,co10,eo10,gb10,gl10,cl10,HG10⟩:=Kd.R_form HO_3.out (by omega);(first|cases eo10|(injection eo10 with ea_ en_ ec_;(first|subst ea_|(injection ea_ with ea_;subst ea_));subst ec_;clear en_));have GB10:=qK gb10;have GG10:=qK HG10;clear gb10 gl10 HG10;obtain ⟨ce10,hcl10,hM10,hcc10,hfr10⟩:=Kd.R_elem HO_3.out z84 (x4_1:Int) p10 q10;obtain rfl:=k84_openM hM10;have hx10_0:w11.cell? ⟨go10,(x4_1:Int).toNat * 3,none⟩=some (.int .i64 ((rd_T84 x3_1 x4_1).f0)):=hcc10 0 _ rfl;have hx10_1:w11.cell? ⟨go10,(x4_1:Int).toNat * 3 + 1,none⟩=some (.int .i64 ((rd_T84 x3_1 x4_1).f1)):=hcc10 1 _ rfl;have hx10_2:w11.cell? ⟨go10,(x4_1:Int).toNat * 3 + 2,none⟩=some (.int .i64 ((rd_T84 x3_1 x4_1).f2)):=hcc10 2 _ rfl;have hf10_0:w11.frozen? ⟨go10,(x4_1:Int).toNat * 3,none⟩=false:=hfr10 0;have hf10_1:w11.frozen? ⟨go10,(x4_1:Int).toNat * 3 + 1,none⟩=false:=hfr10 1;have hf10_2:w11.frozen? ⟨go10,(x4_1:Int).toNat * 3 + 2,none⟩=false:=hfr10 2;clear hcl10 hcc10 hfr10 hM10;replace p10:=eq_true p10;replace q10:=eq_true q10;have HX12:=qK (show Kd.R k84 84 w11 w.heap.size (fun _=>True) (.slice (some ⟨go10,0,none⟩) x3_1.length co10) x3_1 from (by (with_reducible repeat (first|apply rL|apply rN|apply rW));exact HO_3.out));obtain ⟨ce12,hcl12,hM12,hcc12,hfr12⟩:=Kd.R_elem HX12.out z84 (x4_1:Int) (of_decide_eq_true (by first|(with_reducible assumption)|assumption)) (by have h_:(x4_1:Int) < ((x3_1.length:Int):Int):=of_decide_eq_true (by first|(with_reducible assumption)|assumption);first|exact h_|(have e_:=(Kd.R_reads' HO_3.out).1;omega)|simpa using h_);obtain rfl:=k84_openM hM12;have HP12:=Kd.R_seg HX12.out (x4_1:Int) (of_decide_eq_true (by first|(with_reducible assumption)|assumption)) (by have h_:(x4_1:Int) < ((x3_1.length:Int):Int):=of_decide_eq_true (by first|(with_reducible assumption)|assumption);first|exact h_|(have e_:=(Kd.R_reads' HO_3.out).1;omega)|simpa using h_) (seg:=[.int .i64 t168,.int .i64 t169,.int .i64 t170]) (j:=0) hcl12 hcc12 (show 3≤3 from by decide) (x':=(⟨t168,t169,t170⟩:S84)) (k84_mkM _ _ _ (⟨t168,t169,t170⟩:S84) ) (fun _ hk=>hk);have hx12_0:=hcc12 0 _ rfl;(try simp only [show (k84).sz=3 from rfl,Nat.mul_one,Nat.add_zero] at hx12_0);have hf12_0:=hfr12 0;(try simp only [show (k84).sz=3 from rfl,Nat.mul_one,Nat.add_zero] at hf12_0);have hx12_1:=hcc12 1 _ rfl;(try simp only [show (k84).sz=3 from rfl,Nat.mul_one,Nat.add_zero] at hx12_1);have hf12_1:=hfr12 1;(try simp only [show (k84).sz=3 from rfl,Nat.mul_one,Nat.add_zero] at hf12_1);have hx12_2:=hcc12 2 _ rfl;(try simp only [show (k84).sz=3 from rfl,Nat.mul_one,Nat.add_zero] at hx12_2);have hf12_2:=hfr12 2;(try simp only [show (k84).sz=3 from rfl,Nat.mul_one,Nat.add_zero] at hf12_2);clear hcl12 hcc12 hfr12 hM12)|((with_reducible refine gate_store (t:=84) (p:=21) rfl ?_);refine store_event (t:=84) (p:=21) (v:=?vo_w13) (w1:=(((w11.setCell ⟨go10,(x4_1:Int).toNat * 3,none⟩ (.int .i64 t168)).setCell ⟨go10,(x4_1:Int).toNat * 3 + 1,none⟩ (.int .i64 t169)).setCell ⟨go10,(x4_1:Int).toNat * 3 + 2,none⟩ (.int .i64 t170))) ?hg ?ho ?hn ?hr ?_;(case ho=>rfl);(case hg=>rfl);(case hn=>rfl);(case hr=>(go_simp;try rfl));intro w13 hw;have hg:w11.grownBy w13 (some go10):=(by rw [hw];exact HP12.2);have hp_:Kd.R k84 84 w13 w.heap.size (fun _=>True) (.slice (some ⟨go10,0,none⟩) x3_1.length co10) y171:=(by rw [hw,Ny171.out];exact HP12.1);clear HP12;have n0_:=qK (hp_);have n1_:=qK ((by rw [hw];exact qS (qS (qS (HB.out) GB10.out) GB10.out) GB10.out:Below w.heap.size w w13));clear HO_3;clear HB;have HO_3:=n0_;have HB:=n1_;clear n0_ n1_;clear hg hw hp_))
        go_roundg k1
        case measure=>have:=HK1.out;omega
        case rel=>exact ⟨(y171),(wrap64 (x4_1 + 1)),(by first|rfl|(simp;done)|(simp [*];done)),H',⟨by have:=HK1.out;omega⟩,⟨by (with_reducible repeat (first|apply rL|apply rN|apply rW));exact HO_3.out⟩,⟨by repeat (first|(with_reducible first|exact HB.out|apply qA|apply qD|apply qO)|exact HB.out)⟩⟩
       ·rw [if_neg c9] at H;exact absurd H (by simp)
      ·rw [if_neg c7] at H;exact absurd H (by simp)
     ·rw [if_neg c6] at H;have c6b0:decide (x4_1 < (l0.length:Int))=false:=decide_eq_false c6;clear c6;obtain rfl:=Option.some.inj H;go_wp2
      go_ret
      exact ⟨_,by first|rfl|(simp [errW_none,errW_some] <;> rfl)|(simp [*,errW_none,errW_some] <;> rfl),by (with_reducible repeat (first|apply rL|apply rN|apply rW));exact HO_3.out,by repeat (first|(with_reducible first|exact HB.out|apply qA|apply qD|apply qO)|exact HB.out)⟩
  ·rw [if_neg c3] at H;exact absurd H (by simp)
 ·rw [if_neg c2] at H;exact absurd H (by simp)

/-! ### laws_toIntS: function 84 -/
def laws_toIntS.l0 : Nat→List Int→List Int→Int→Option (List Int)
 | 0,_,_,_=>none
 | k + 1,x0,x3,x4=>if x4 < (x0.length:Int) then (if 0≤x4 then (if x4 < (x3.length:Int) then (laws_toIntS.l0 k x0 (x3.set (x4:Int).toNat (rd x0 x4)) (wrap64 (x4 + 1))) else (none)) else (none)) else (some x3)
def laws_toIntS.f (k:Nat) (l0:List Int):Option (List Int):=if 0≤(l0.length:Int) then (if ((l0.length:Int):Int).toNat≤35184372088832 then (laws_toIntS.l0 k l0 (List.replicate ((l0.length:Int):Int).toNat 0) 0) else (none)) else (none)
theorem laws_toIntS.mono_l : ∀ k,(∀ y0 y1 y2,LeO (laws_toIntS.l0 k y0 y1 y2) (laws_toIntS.l0 (k + 1) y0 y1 y2))
 | 0=>fun _ _ _ r h=>by simp [laws_toIntS.l0] at h
 | k + 1=>by
  have ih0:=laws_toIntS.mono_l k
  ·intro y0 y1 y2;unfold laws_toIntS.l0
   repeat' first
   | (with_reducible exact ih0 _ _ _)
   | (with_reducible exact LeO.refl _)
   | (with_reducible exact LeO.none _)
   | (with_reducible refine LeO.ite ?_ ?_)
   | (with_reducible refine LeO.bind ?_ (fun _=>?_))
   | exact ih0 _ _ _
   | exact LeO.none _
   | refine LeO.ite ?_ ?_
   | refine LeO.bind ?_ (fun _=>?_)
theorem laws_toIntS.mono : ∀ a0 k,LeO (laws_toIntS.f k a0) (laws_toIntS.f (k + 1) a0):=by
 intro a0 k;have ih0:=laws_toIntS.mono_l k;unfold laws_toIntS.f
 repeat' first
   | (with_reducible exact ih0 _ _ _)
   | (with_reducible exact LeO.refl _)
   | (with_reducible exact LeO.none _)
   | (with_reducible refine LeO.ite ?_ ?_)
   | (with_reducible refine LeO.bind ?_ (fun _=>?_))
   | exact ih0 _ _ _
   | exact LeO.none _
   | refine LeO.ite ?_ ?_
   | refine LeO.bind ?_ (fun _=>?_)
set_option maxHeartbeats 8000000 in
set_option maxRecDepth 100000 in
theorem laws_toIntS.calls (k:Nat) (A0:Option Addr) (c0:Nat) (l0:List Int) (r:List Int) (w:World) (hr0:Kd.C (Kd.int .i64) w A0 l0.length l0) (hc0:l0.length≤c0) (h:laws_toIntS.f k l0=some r) :
  Calls Try.prog 84 #[.slice A0 l0.length c0] w fun e w'=>∃ v0_:Value,e=.returned (v0_)∧Kd.R (Kd.int .i64) 3 w' w.heap.size (fun _=>True) v0_ r∧Below w.heap.size w w':=by
 have HR0:=qK hr0;have HC0:=qK hc0;clear hr0 hc0;have HB:=qK (Below.refl w.heap.size w);have H:(if 0≤(l0.length:Int) then (if ((l0.length:Int):Int).toNat≤35184372088832 then (laws_toIntS.l0 k l0 (List.replicate ((l0.length:Int):Int).toNat 0) 0) else (none)) else (none))=some r:=h;clear h;by_cases c2:0≤(l0.length:Int)
 ·rw [if_pos c2] at H;have c2b0:=eq_true c2;have c2b1:decide (0≤(l0.length:Int))=true:=decide_eq_true c2;clear c2;by_cases c3:((l0.length:Int):Int).toNat≤35184372088832
  ·rw [if_pos c3] at H;have c3b0:=eq_true c3;have c3b1:decide (((l0.length:Int):Int).toNat≤35184372088832)=true:=decide_eq_true c3;clear c3;obtain ⟨y172,hy172⟩:∃ y_:List Int,y_=(List.replicate ((l0.length:Int):Int).toNat 0):=⟨_,rfl⟩;replace H:(laws_toIntS.l0 k l0 y172 0)=some r:=by first|(rw [hy172];with_reducible exact H)|(have H2_:=(Option.bind_some _ _).symm.trans H;rw [hy172];with_reducible exact H2_)|(have H2_:=(Option.bind_some _ _).symm.trans H;with_reducible exact H2_)|with_reducible exact H|(rw [hy172];exact H)|exact H
   have Ny172:=qK hy172;clear hy172;have H':=qK H;clear H;go_enter Try.func84,Try.ntmps84
   go_wp2_with (first|((with_reducible refine gate_dst (N:=7) rfl ?_);refine Kd.R_make (Kd.int .i64) _ 3 rfl (N:=7) rfl 24 _ _ rfl (l0.length:Int) rfl rfl Try.underlying24 (.int .i64 0) 8 info3 rfl (by decide) (by omega) 0 (ok:=fun _=>True) (okp:=fun _=>True) rfl (fun _ hk=>hk) trivial (of_decide_eq_true (by first|(with_reducible assumption)|assumption)) (Nat.le_trans (Nat.mul_le_mul_right _ (of_decide_eq_true (by first|(with_reducible assumption)|assumption):(l0.length:Int).toNat≤35184372088832)) (by omega)) (Below.refl _ _) (Nat.le_refl _) ?_;intro v173 w4 ho5 hb hg_ hnew_;clear hg_ hnew_;(first|rw [← Ny172.out] at ho5|(simp only [Int.reduceToNat] at ho5;rw [← Ny172.out] at ho5));have n0_:=qK (Kd.R_lower ho5 (qZ (by repeat (with_reducible first|exact HB.out|apply qA|apply qD|apply qO))));have n1_:=qK (qT (by repeat (with_reducible first|exact HB.out|apply qA|apply qD|apply qO)) hb);clear HB;have HO174:=n0_;have HB:=n1_;clear n0_ n1_;clear hb ho5))
   go_loopg [4] k (fun kq v4 w'=>∃ (x3_1:List Int) (x4_1:Int),v4=.int .i64 x4_1∧Aside0 (laws_toIntS.l0 kq l0 x3_1 x4_1=some r)∧Aside0 (kq≤k)∧Aside0 (Kd.R (Kd.int .i64) 3 w' w.heap.size (fun _=>True) v173 x3_1)∧Aside0 (Below w.heap.size w w'))
   case atStart=>exact ⟨(y172),(0),(by first|rfl|(simp;done)|(simp [*];done)),H',⟨Nat.le_refl _⟩,⟨by (with_reducible repeat (first|apply rL|apply rN|apply rW));exact HO174.out⟩,⟨by repeat (first|(with_reducible first|exact HB.out|apply qA|apply qD|apply qO)|exact HB.out)⟩⟩
   case round =>
    clear H';try clear c2
    try clear c2b0
    try clear c2b1
    try clear p2
    try clear c3
    try clear c3b0
    try clear c3b1
    obtain ⟨x3_1,x4_1,rfl,HA,HK1,HO_3,HB⟩:=hrel;cases gk with
    | zero=>exact absurd HA.out (by simp [laws_toIntS.l0])
    | succ k1 =>
     have H:=HA.out;clear HA;simp only [laws_toIntS.l0] at H;by_cases c6:x4_1 < (l0.length:Int)
     ·rw [if_pos c6] at H;have c6b0:decide (x4_1 < (l0.length:Int))=true:=decide_eq_true c6;clear c6;by_cases c7:0≤x4_1
      ·rw [if_pos c7] at H;have c7b0:decide (0≤x4_1)=true:=decide_eq_true c7;clear c7;by_cases c8:x4_1 < (x3_1.length:Int)
       ·rw [if_pos c8] at H;have c8b0:decide (x4_1 < (x3_1.length:Int))=true:=decide_eq_true c8;clear c8;obtain ⟨y176,hy176⟩:∃ y_:List Int,y_=(x3_1.set (x4_1:Int).toNat (rd l0 x4_1)):=⟨_,rfl⟩;replace H:(laws_toIntS.l0 k1 l0 y176 (wrap64 (x4_1 + 1)))=some r:=by first|(rw [hy176];with_reducible exact H)|(have H2_:=(Option.bind_some _ _).symm.trans H;rw [hy176];with_reducible exact H2_)|(have H2_:=(Option.bind_some _ _).symm.trans H;with_reducible exact H2_)|with_reducible exact H|(rw [hy176];exact H)|exact H
        have Ny176:=qK hy176;clear hy176;have H':=qK H;clear H;have p175:0≤(x4_1:Int):=of_decide_eq_true (by first|(with_reducible assumption)|assumption);have q175:x4_1 < (l0.length:Int):=of_decide_eq_true (by first|(with_reducible assumption)|assumption);obtain ⟨ad175,e175,hx175_0⟩:=Kd.at_int HR0.out x4_1 p175 q175;cases e175
        replace hx175_0:=(HB.out.cell (World.block_lt_of_cell? w _ hx175_0)).trans hx175_0;replace p175:=eq_true p175;replace q175:=eq_true q175;have p9:0≤(x4_1:Int):=of_decide_eq_true (by first|(with_reducible assumption)|assumption);have q9:(x4_1:Int) < ((x3_1.length:Int):Int):=of_decide_eq_true (by first|(with_reducible assumption)|assumption);obtain ⟨go9,co9,eo9,gb9,gl9,cl9,HG9⟩:=Kd.R_form HO_3.out (by omega);(first|cases eo9|(injection eo9 with ea_ en_ ec_;(first|subst ea_|(injection ea_ with ea_;subst ea_));subst ec_;clear en_));have GB9:=qK gb9;have GG9:=qK HG9;clear gb9 gl9 HG9;obtain ⟨hx9_0,hf9_0⟩:=Kd.R_celln 0 HO_3.out (x4_1:Int) p9 q9;replace p9:=eq_true p9;replace q9:=eq_true q9;have HP10:=Kd.R_putg HO_3.out (x4_1:Int) (rd l0 x4_1);go_wp2_with (first|((with_reducible refine gate_store (t:=3) (p:=20) rfl ?_);refine store_event (t:=3) (p:=20) (v:=?vo_w11) (w1:=(wr.setCell ⟨go9,(x4_1:Int).toNat,none⟩ (.int .i64 (rd l0 x4_1)))) ?hg ?ho ?hn ?hr ?_;(case ho=>rfl);(case hg=>rfl);(case hn=>rfl);(case hr=>(go_simp;try rfl));intro w11 hw;have hg:wr.grownBy w11 (some go9):=(by rw [hw];exact HP10.2);have hp_:Kd.R (Kd.int .i64) 3 w11 w.heap.size (fun _=>True) (.slice (some ⟨go9,0,none⟩) x3_1.length co9) y176:=(by rw [hw,Ny176.out];exact HP10.1);clear HP10;have n0_:=qK (hp_);have n1_:=qK ((by rw [hw];exact qS (HB.out) GB9.out:Below w.heap.size w w11));clear HO_3;clear HB;have HO_3:=n0_;have HB:=n1_;clear n0_ n1_;clear hg hw hp_))
        go_roundg k1
        case measure=>have:=HK1.out;omega
        case rel=>exact ⟨(y176),(wrap64 (x4_1 + 1)),(by first|rfl|(simp;done)|(simp [*];done)),H',⟨by have:=HK1.out;omega⟩,⟨by (with_reducible repeat (first|apply rL|apply rN|apply rW));exact HO_3.out⟩,⟨by repeat (first|(with_reducible first|exact HB.out|apply qA|apply qD|apply qO)|exact HB.out)⟩⟩
       ·rw [if_neg c8] at H;exact absurd H (by simp)
      ·rw [if_neg c7] at H;exact absurd H (by simp)
     ·rw [if_neg c6] at H;have c6b0:decide (x4_1 < (l0.length:Int))=false:=decide_eq_false c6;clear c6;obtain rfl:=Option.some.inj H;go_wp2
      go_ret
      exact ⟨_,by first|rfl|(simp [errW_none,errW_some] <;> rfl)|(simp [*,errW_none,errW_some] <;> rfl),by (with_reducible repeat (first|apply rL|apply rN|apply rW));exact HO_3.out,by repeat (first|(with_reducible first|exact HB.out|apply qA|apply qD|apply qO)|exact HB.out)⟩
  ·rw [if_neg c3] at H;exact absurd H (by simp)
 ·rw [if_neg c2] at H;exact absurd H (by simp)

/-! ### laws_toLocks: function 24 -/
def laws_toLocks.f (k:Nat) (l0_0:List (S93)) (l0_1:List (S93)) (l0_2:List (S93)) (l0_3:List Int) (l0_4:List Int):Option ((List (S84)) × (List (S84)) × (List (S84)) × List Int × List Int):=(laws_toStepS.f k l0_0).bind fun t180=>((laws_toStepS.f k l0_1).bind fun t183=>((laws_toStepS.f k l0_2).bind fun t186=>((laws_toIntS.f k l0_3).bind fun t189=>((laws_toIntS.f k l0_4).bind fun t192=>(some (t180,t183,t186,t189,t192))))))
theorem laws_toLocks.mono : ∀ a0 a1 a2 a3 a4 k,LeO (laws_toLocks.f k a0 a1 a2 a3 a4) (laws_toLocks.f (k + 1) a0 a1 a2 a3 a4):=by
 intro a0 a1 a2 a3 a4 k;unfold laws_toLocks.f
 repeat' first
   | (with_reducible exact laws_toIntS.mono _ _)
   | (with_reducible exact laws_toStepS.mono _ _)
   | (with_reducible exact LeO.refl _)
   | (with_reducible exact LeO.none _)
   | (with_reducible refine LeO.ite ?_ ?_)
   | (with_reducible refine LeO.bind ?_ (fun _=>?_))
   | exact laws_toIntS.mono _ _
   | exact laws_toStepS.mono _ _
   | exact LeO.none _
   | refine LeO.ite ?_ ?_
   | refine LeO.bind ?_ (fun _=>?_)
set_option maxHeartbeats 8000000 in
set_option maxRecDepth 100000 in
theorem laws_toLocks.calls (k:Nat) (A0_0:Option Addr) (c0_0:Nat) (l0_0:List (S93)) (A0_1:Option Addr) (c0_1:Nat) (l0_1:List (S93)) (A0_2:Option Addr) (c0_2:Nat) (l0_2:List (S93)) (A0_3:Option Addr) (c0_3:Nat) (l0_3:List Int) (A0_4:Option Addr) (c0_4:Nat) (l0_4:List Int) (r1:List (S84)) (r2:List (S84)) (r3:List (S84)) (r4:List Int) (r5:List Int) (w:World) (hr0_0:Kd.C k93 w A0_0 l0_0.length l0_0) (hc0_0:l0_0.length≤c0_0) (hr0_1:Kd.C k93 w A0_1 l0_1.length l0_1) (hc0_1:l0_1.length≤c0_1) (hr0_2:Kd.C k93 w A0_2 l0_2.length l0_2) (hc0_2:l0_2.length≤c0_2) (hr0_3:Kd.C (Kd.int .i64) w A0_3 l0_3.length l0_3) (hc0_3:l0_3.length≤c0_3) (hr0_4:Kd.C (Kd.int .i64) w A0_4 l0_4.length l0_4) (hc0_4:l0_4.length≤c0_4) (h:laws_toLocks.f k l0_0 l0_1 l0_2 l0_3 l0_4=some (r1,r2,r3,r4,r5)) :
  Calls Try.prog 24 #[.agg #[.slice A0_0 l0_0.length c0_0,.slice A0_1 l0_1.length c0_1,.slice A0_2 l0_2.length c0_2,.slice A0_3 l0_3.length c0_3,.slice A0_4 l0_4.length c0_4]] w fun e w'=>∃ v0_ v1_ v2_ v3_ v4_:Value,e=.returned (.agg #[v0_,v1_,v2_,v3_,v4_])∧Kd.R k84 84 w' w.heap.size (fun k_=>some k_ ≠ (v1_:Value).ownBlock∧some k_ ≠ (v2_:Value).ownBlock) v0_ r1∧Kd.R k84 84 w' w.heap.size (fun k_=>some k_ ≠ (v0_:Value).ownBlock∧some k_ ≠ (v2_:Value).ownBlock) v1_ r2∧Kd.R k84 84 w' w.heap.size (fun k_=>some k_ ≠ (v0_:Value).ownBlock∧some k_ ≠ (v1_:Value).ownBlock) v2_ r3∧Kd.R (Kd.int .i64) 3 w' w.heap.size (fun k_=>some k_ ≠ (v4_:Value).ownBlock) v3_ r4∧Kd.R (Kd.int .i64) 3 w' w.heap.size (fun k_=>some k_ ≠ (v3_:Value).ownBlock) v4_ r5∧Below w.heap.size w w':=by
 have hu35:=Try.underlying35;have hu40:=Try.underlying40;have HR0_0:=qK hr0_0;have HC0_0:=qK hc0_0;clear hr0_0 hc0_0;have HR0_1:=qK hr0_1;have HC0_1:=qK hc0_1;clear hr0_1 hc0_1;have HR0_2:=qK hr0_2;have HC0_2:=qK hc0_2;clear hr0_2 hc0_2;have HR0_3:=qK hr0_3;have HC0_3:=qK hc0_3;clear hr0_3 hc0_3;have HR0_4:=qK hr0_4;have HC0_4:=qK hc0_4;clear hr0_4 hc0_4;have HB:=qK (Below.refl w.heap.size w);have H:((laws_toStepS.f k l0_0).bind fun t180=>((laws_toStepS.f k l0_1).bind fun t183=>((laws_toStepS.f k l0_2).bind fun t186=>((laws_toIntS.f k l0_3).bind fun t189=>((laws_toIntS.f k l0_4).bind fun t192=>(some (t180,t183,t186,t189,t192)))))))=some (r1,r2,r3,r4,r5):=h;clear h;replace H:=Option.bind_eq_some_iff.mp H;obtain ⟨t180,A20,H⟩:=H;replace H:((laws_toStepS.f k l0_1).bind fun t183=>((laws_toStepS.f k l0_2).bind fun t186=>((laws_toIntS.f k l0_3).bind fun t189=>((laws_toIntS.f k l0_4).bind fun t192=>(some (t180,t183,t186,t189,t192))))))=some (r1,r2,r3,r4,r5):=H;have A2:=qK A20;clear A20;replace H:=Option.bind_eq_some_iff.mp H;obtain ⟨t183,A30,H⟩:=H;replace H:((laws_toStepS.f k l0_2).bind fun t186=>((laws_toIntS.f k l0_3).bind fun t189=>((laws_toIntS.f k l0_4).bind fun t192=>(some (t180,t183,t186,t189,t192)))))=some (r1,r2,r3,r4,r5):=H;have A3:=qK A30;clear A30;replace H:=Option.bind_eq_some_iff.mp H;obtain ⟨t186,A40,H⟩:=H;replace H:((laws_toIntS.f k l0_3).bind fun t189=>((laws_toIntS.f k l0_4).bind fun t192=>(some (t180,t183,t186,t189,t192))))=some (r1,r2,r3,r4,r5):=H;have A4:=qK A40;clear A40;replace H:=Option.bind_eq_some_iff.mp H;obtain ⟨t189,A50,H⟩:=H;replace H:((laws_toIntS.f k l0_4).bind fun t192=>(some (t180,t183,t186,t189,t192)))=some (r1,r2,r3,r4,r5):=H;have A5:=qK A50;clear A50;replace H:=Option.bind_eq_some_iff.mp H;obtain ⟨t192,A60,H⟩:=H;replace H:(some (t180,t183,t186,t189,t192))=some (r1,r2,r3,r4,r5):=H;have A6:=qK A60;clear A60;simp only [Option.some.injEq,Prod.mk.injEq] at H;obtain ⟨rfl,rfl,rfl,rfl,rfl⟩:=H;go_enter Try.func24,Try.ntmps24
 go_wp2_with (first|((with_reducible refine gate_dst (N:=1) rfl ?_);refine box_event ?hg (N:=1) ?hd (cs:=#[.slice A0_0 l0_0.length c0_0,.slice A0_1 l0_1.length c0_1,.slice A0_2 l0_2.length c0_2,.slice A0_3 l0_3.length c0_3,.slice A0_4 l0_4.length c0_4]) (t:=35) ?hr ?_;(case hd=>rfl);(case hg=>rfl);(case hr=>(go_simp;try rfl));intro gb177 hg w7 hbox hb;have n0_:=qK (qT (by repeat (with_reducible first|exact HB.out|apply qA|apply qD|apply qO)) hb);have n1_:=qK (hbox);have n2_:=qK ((by rw [hg];exact (qZ (by repeat (with_reducible first|exact HB.out|apply qA|apply qD|apply qO))):w.heap.size≤gb177));have n3_:=qK ((by rw [hg];exact (qZ (by repeat (with_reducible first|exact HB.out|apply qA|apply qD|apply qO))):w.heap.size≤gb177));clear HB;have HB:=n0_;have BK177:=n1_;have GW177:=n2_;have GE177:=n3_;clear n0_ n1_ n2_ n3_;clear hb hbox hg)|((with_reducible refine gate_dst (N:=2) rfl ?_);refine box_event ?hg (N:=2) ?hd (cs:=#[.slice none 0 0,.slice none 0 0,.slice none 0 0,.slice none 0 0,.slice none 0 0]) (t:=40) ?hr ?_;(case hd=>rfl);(case hg=>rfl);(case hr=>(go_simp;try rfl));intro gb178 hg w8 hbox hb;have n0_:=qK (qB (g:=gb177) (o:=_) (by (with_reducible repeat (first|refine qN ?_ _|refine qW ?_|refine qL ?_ _));exact BK177.out) hb);have n1_:=qK (qT (by repeat (with_reducible first|exact HB.out|apply qA|apply qD|apply qO|refine qS ?_ GE177.out)) hb);have n2_:=qK (hbox);have n3_:=qK ((by rw [hg];exact (qZ (by repeat (with_reducible first|exact HB.out|apply qA|apply qD|apply qO|refine qS ?_ GE177.out))):w.heap.size≤gb178));have n4_:=qK ((by rw [hg];exact (qZ (by repeat (with_reducible first|exact HB.out|apply qA|apply qD|apply qO|refine qS ?_ GE177.out))):w.heap.size≤gb178));have n5_:=qK ((by rw [hg];exact Nat.ne_of_lt (blk_lt (g:=gb177) (o:=_) (by (with_reducible repeat (first|refine qN ?_ _|refine qW ?_|refine qL ?_ _));exact BK177.out)):gb177 ≠ gb178));have n6_:=qK ((by rw [hg];exact Nat.ne_of_gt (blk_lt (g:=gb177) (o:=_) (by (with_reducible repeat (first|refine qN ?_ _|refine qW ?_|refine qL ?_ _));exact BK177.out)):gb178 ≠ gb177));clear BK177;clear HB;have BK177:=n0_;have HB:=n1_;have BK178:=n2_;have GW178:=n3_;have GE178:=n4_;have NB177_178:=n5_;have NB178_177:=n6_;clear n0_ n1_ n2_ n3_ n4_ n5_ n6_;clear hb hbox hg)|((with_reducible refine gate_dst (N:=3) rfl ?_);refine box_event ?hg (N:=3) ?hd (cs:=#[.slice none 0 0,.slice none 0 0,.slice none 0 0,.slice none 0 0,.slice none 0 0]) (t:=40) ?hr ?_;(case hd=>rfl);(case hg=>rfl);(case hr=>(go_simp;try rfl));intro gb179 hg w9 hbox hb;have n0_:=qK (qB (g:=gb177) (o:=_) (by (with_reducible repeat (first|refine qN ?_ _|refine qW ?_|refine qL ?_ _));exact BK177.out) hb);have n1_:=qK (qB (g:=gb178) (o:=_) (by (with_reducible repeat (first|refine qN ?_ _|refine qW ?_|refine qL ?_ _));exact BK178.out) hb);have n2_:=qK (qT (by repeat (with_reducible first|exact HB.out|apply qA|apply qD|apply qO|refine qS ?_ GE177.out|refine qS ?_ GE178.out)) hb);have n3_:=qK (hbox);have n4_:=qK ((by rw [hg];exact (qZ (by repeat (with_reducible first|exact HB.out|apply qA|apply qD|apply qO|refine qS ?_ GE177.out|refine qS ?_ GE178.out))):w.heap.size≤gb179));have n5_:=qK ((by rw [hg];exact (qZ (by repeat (with_reducible first|exact HB.out|apply qA|apply qD|apply qO|refine qS ?_ GE177.out|refine qS ?_ GE178.out))):w.heap.size≤gb179));have n6_:=qK ((by rw [hg];exact Nat.ne_of_lt (blk_lt (g:=gb177) (o:=_) (by (with_reducible repeat (first|refine qN ?_ _|refine qW ?_|refine qL ?_ _));exact BK177.out)):gb177 ≠ gb179));have n7_:=qK ((by rw [hg];exact Nat.ne_of_gt (blk_lt (g:=gb177) (o:=_) (by (with_reducible repeat (first|refine qN ?_ _|refine qW ?_|refine qL ?_ _));exact BK177.out)):gb179 ≠ gb177));have n8_:=qK ((by rw [hg];exact Nat.ne_of_lt (blk_lt (g:=gb178) (o:=_) (by (with_reducible repeat (first|refine qN ?_ _|refine qW ?_|refine qL ?_ _));exact BK178.out)):gb178 ≠ gb179));have n9_:=qK ((by rw [hg];exact Nat.ne_of_gt (blk_lt (g:=gb178) (o:=_) (by (with_reducible repeat (first|refine qN ?_ _|refine qW ?_|refine qL ?_ _));exact BK178.out)):gb179 ≠ gb178));clear BK177;clear BK178;clear HB;have BK177:=n0_;have BK178:=n1_;have HB:=n2_;have BK179:=n3_;have GW179:=n4_;have GE179:=n5_;have NB177_179:=n6_;have NB179_177:=n7_;have NB178_179:=n8_;have NB179_178:=n9_;clear n0_ n1_ n2_ n3_ n4_ n5_ n6_ n7_ n8_ n9_;clear hb hbox hg;have hnb10:=NB177_178.out;have hnc10:=NB178_177.out;have hnb11:=NB177_179.out;have hnc11:=NB179_177.out;have hcz12_0:w9.cell? ⟨gb177,0,none⟩=some (.slice A0_0 l0_0.length c0_0):=(qC BK177.out 0).trans rfl;have hcz12_1:w9.cell? ⟨gb177,1,none⟩=some (.slice A0_1 l0_1.length c0_1):=(qC BK177.out 1).trans rfl;have hcz12_2:w9.cell? ⟨gb177,2,none⟩=some (.slice A0_2 l0_2.length c0_2):=(qC BK177.out 2).trans rfl;have hcz12_3:w9.cell? ⟨gb177,3,none⟩=some (.slice A0_3 l0_3.length c0_3):=(qC BK177.out 3).trans rfl;have hcz12_4:w9.cell? ⟨gb177,4,none⟩=some (.slice A0_4 l0_4.length c0_4):=(qC BK177.out 4).trans rfl;have hfz12_0:=qF BK177.out 0;have hfz12_1:=qF BK177.out 1;have hfz12_2:=qF BK177.out 2;have hfz12_3:=qF BK177.out 3;have hfz12_4:=qF BK177.out 4)|((with_reducible refine gate_callee (f:=15) rfl ?_);refine goesL_ (some 6) rfl rfl Try.func15 (by kernel_rfl) rfl #[.slice A0_0 l0_0.length c0_0] rfl (by (try simp only [mT,mC,mN]);first|done|rfl|(simp only [lD,lT];rfl)) ?_;(with_reducible refine (laws_toStepS.calls k _ _ l0_0 t180 _ ?side1 ?side2 A2.out).mono ?_);(case side1=>repeat (first|exact (cB HR0_0.out HB.out)|(with_reducible first|refine cL ?_ _|refine cN ?_ _|refine cW ?_)));(case side2=>exact HC0_0.out);rintro e w13 ⟨v181,rfl,ho0,hb⟩;refine ⟨_,rfl,?_⟩;have n0_:=qK (Kd.R_lower ho0 (qZ (by repeat (with_reducible first|exact HB.out|apply qA|apply qD|apply qO|refine qS ?_ GE177.out|refine qS ?_ GE178.out|refine qS ?_ GE179.out))));have n1_:=qK (qB (g:=gb177) (o:=_) (by (with_reducible repeat (first|refine qN ?_ _|refine qW ?_|refine qL ?_ _));exact BK177.out) hb);have n2_:=qK (qB (g:=gb178) (o:=_) (by (with_reducible repeat (first|refine qN ?_ _|refine qW ?_|refine qL ?_ _));exact BK178.out) hb);have n3_:=qK (qB (g:=gb179) (o:=_) (by (with_reducible repeat (first|refine qN ?_ _|refine qW ?_|refine qL ?_ _));exact BK179.out) hb);have n4_:=qK (qT (by repeat (with_reducible first|exact HB.out|apply qA|apply qD|apply qO|refine qS ?_ GE177.out|refine qS ?_ GE178.out|refine qS ?_ GE179.out)) hb);clear BK177;clear BK178;clear BK179;clear HB;have HO182:=n0_;have BK177:=n1_;have BK178:=n2_;have BK179:=n3_;have HB:=n4_;clear n0_ n1_ n2_ n3_ n4_;(try clear hb);(try clear hb2);(try clear hk);(try clear hi);(try clear ho0);obtain ⟨Ao14,co14,eo14⟩:=Kd.R_slice HO182.out;subst eo14;have hnb15:=NB179_178.out;have hnc15:=NB178_179.out;have hcz16_0:w13.cell? ⟨gb179,0,none⟩=some (.slice none 0 0):=(qC BK179.out 0).trans rfl;have hcz16_1:w13.cell? ⟨gb179,1,none⟩=some (.slice none 0 0):=(qC BK179.out 1).trans rfl;have hcz16_2:w13.cell? ⟨gb179,2,none⟩=some (.slice none 0 0):=(qC BK179.out 2).trans rfl;have hcz16_3:w13.cell? ⟨gb179,3,none⟩=some (.slice none 0 0):=(qC BK179.out 3).trans rfl;have hcz16_4:w13.cell? ⟨gb179,4,none⟩=some (.slice none 0 0):=(qC BK179.out 4).trans rfl;have hfz16_0:=qF BK179.out 0;have hfz16_1:=qF BK179.out 1;have hfz16_2:=qF BK179.out 2;have hfz16_3:=qF BK179.out 3;have hfz16_4:=qF BK179.out 4;have hcz17_0:w13.cell? ⟨gb177,0,none⟩=some (.slice A0_0 l0_0.length c0_0):=(qC BK177.out 0).trans rfl;have hcz17_1:w13.cell? ⟨gb177,1,none⟩=some (.slice A0_1 l0_1.length c0_1):=(qC BK177.out 1).trans rfl;have hcz17_2:w13.cell? ⟨gb177,2,none⟩=some (.slice A0_2 l0_2.length c0_2):=(qC BK177.out 2).trans rfl;have hcz17_3:w13.cell? ⟨gb177,3,none⟩=some (.slice A0_3 l0_3.length c0_3):=(qC BK177.out 3).trans rfl;have hcz17_4:w13.cell? ⟨gb177,4,none⟩=some (.slice A0_4 l0_4.length c0_4):=(qC BK177.out 4).trans rfl;have hfz17_0:=qF BK177.out 0;have hfz17_1:=qF BK177.out 1;have hfz17_2:=qF BK177.out 2;have hfz17_3:=qF BK177.out 3;have hfz17_4:=qF BK177.out 4)|((with_reducible refine gate_callee (f:=15) rfl ?_);refine goesL_ (some 10) rfl rfl Try.func15 (by kernel_rfl) rfl #[.slice A0_1 l0_1.length c0_1] rfl (by (try simp only [mT,mC,mN]);first|done|rfl|(simp only [lD,lT];rfl)) ?_;(with_reducible refine (laws_toStepS.calls k _ _ l0_1 t183 _ ?side1 ?side2 A3.out).mono ?_);(case side1=>exact cB HR0_1.out (by repeat (with_reducible first|exact HB.out|apply qA|apply qD|apply qO|refine qS ?_ GE177.out|refine qS ?_ GE178.out|refine qS ?_ GE179.out)));(case side2=>exact HC0_1.out);rintro e w18 ⟨v184,rfl,ho0,hb⟩;refine ⟨_,rfl,?_⟩;have n0_:=qK (Kd.R_elder' (by (with_reducible repeat (first|apply rL|apply rN|apply rW));exact (Kd.R_mono (Kd.R_far (p:=⟨gb179,0,none⟩) (Kd.R_types HO182.out BK179.out (by decide)) (fun _ hk=>hk.2) (.slice Ao14 t180.length co14)) (fun _ h_=>h_.1))) (Kd.R_base ho0) hb);have n1_:=qK (Kd.R_lower (Kd.R_new' ho0 (Kd.R_lt (by (with_reducible repeat (first|apply rL|apply rN|apply rW));exact (Kd.R_mono (Kd.R_far (p:=⟨gb179,0,none⟩) (Kd.R_types HO182.out BK179.out (by decide)) (fun _ hk=>hk.2) (.slice Ao14 t180.length co14)) (fun _ h_=>h_.1))))) (qZ (by repeat (with_reducible first|exact HB.out|apply qA|apply qD|apply qO|refine qS ?_ GE177.out|refine qS ?_ GE178.out|refine qS ?_ GE179.out))));have n2_:=qK (qB (g:=gb177) (o:=.cells #[.slice A0_0 l0_0.length c0_0,.slice A0_1 l0_1.length c0_1,.slice A0_2 l0_2.length c0_2,.slice A0_3 l0_3.length c0_3,.slice A0_4 l0_4.length c0_4] 35 (0,0)) (by (with_reducible repeat (first|refine qN ?_ _|refine qW ?_|refine qL ?_ _));refine qR ?_ NB177_179.out _;(with_reducible repeat (first|refine qN ?_ _|refine qW ?_|refine qL ?_ _));exact BK177.out) hb);have n3_:=qK (qB (g:=gb178) (o:=.cells #[.slice none 0 0,.slice none 0 0,.slice none 0 0,.slice none 0 0,.slice none 0 0] 40 (0,0)) (by (with_reducible repeat (first|refine qN ?_ _|refine qW ?_|refine qL ?_ _));refine qR ?_ NB178_179.out _;(with_reducible repeat (first|refine qN ?_ _|refine qW ?_|refine qL ?_ _));exact BK178.out) hb);have n4_:=qK (qB (g:=gb179) (o:=.cells #[.slice Ao14 t180.length co14,.slice none 0 0,.slice none 0 0,.slice none 0 0,.slice none 0 0] 40 (0,0)) (by (with_reducible repeat (first|refine qN ?_ _|refine qW ?_|refine qL ?_ _));refine qP (cs:=#[.slice none 0 0,.slice none 0 0,.slice none 0 0,.slice none 0 0,.slice none 0 0]) ?_ 0 _ rfl;(with_reducible repeat (first|refine qN ?_ _|refine qW ?_|refine qL ?_ _));exact BK179.out) hb);have n5_:=qK (qT (by repeat (with_reducible first|exact HB.out|apply qA|apply qD|apply qO|refine qS ?_ GE177.out|refine qS ?_ GE178.out|refine qS ?_ GE179.out)) hb);clear HO182;clear BK177;clear BK178;clear BK179;clear HB;have HO182:=n0_;have HO185:=n1_;have BK177:=n2_;have BK178:=n3_;have BK179:=n4_;have HB:=n5_;clear n0_ n1_ n2_ n3_ n4_ n5_;(try clear hb);(try clear hb2);(try clear hk);(try clear hi);(try clear ho0);obtain ⟨Ao19,co19,eo19⟩:=Kd.R_slice HO185.out;subst eo19;have hcz20_0:w18.cell? ⟨gb179,0,none⟩=some (.slice Ao14 t180.length co14):=(qC BK179.out 0).trans rfl;have hcz20_1:w18.cell? ⟨gb179,1,none⟩=some (.slice none 0 0):=(qC BK179.out 1).trans rfl;have hcz20_2:w18.cell? ⟨gb179,2,none⟩=some (.slice none 0 0):=(qC BK179.out 2).trans rfl;have hcz20_3:w18.cell? ⟨gb179,3,none⟩=some (.slice none 0 0):=(qC BK179.out 3).trans rfl;have hcz20_4:w18.cell? ⟨gb179,4,none⟩=some (.slice none 0 0):=(qC BK179.out 4).trans rfl;have hfz20_0:=qF BK179.out 0;have hfz20_1:=qF BK179.out 1;have hfz20_2:=qF BK179.out 2;have hfz20_3:=qF BK179.out 3;have hfz20_4:=qF BK179.out 4;have hcz21_0:w18.cell? ⟨gb177,0,none⟩=some (.slice A0_0 l0_0.length c0_0):=(qC BK177.out 0).trans rfl;have hcz21_1:w18.cell? ⟨gb177,1,none⟩=some (.slice A0_1 l0_1.length c0_1):=(qC BK177.out 1).trans rfl;have hcz21_2:w18.cell? ⟨gb177,2,none⟩=some (.slice A0_2 l0_2.length c0_2):=(qC BK177.out 2).trans rfl;have hcz21_3:w18.cell? ⟨gb177,3,none⟩=some (.slice A0_3 l0_3.length c0_3):=(qC BK177.out 3).trans rfl;have hcz21_4:w18.cell? ⟨gb177,4,none⟩=some (.slice A0_4 l0_4.length c0_4):=(qC BK177.out 4).trans rfl;have hfz21_0:=qF BK177.out 0;have hfz21_1:=qF BK177.out 1;have hfz21_2:=qF BK177.out 2;have hfz21_3:=qF BK177.out 3;have hfz21_4:=qF BK177.out 4)|((with_reducible refine gate_callee (f:=15) rfl ?_);refine goesL_ (some 14) rfl rfl Try.func15 (by kernel_rfl) rfl #[.slice A0_2 l0_2.length c0_2] rfl (by (try simp only [mT,mC,mN]);first|done|rfl|(simp only [lD,lT];rfl)) ?_;(with_reducible refine (laws_toStepS.calls k _ _ l0_2 t186 _ ?side1 ?side2 A4.out).mono ?_);(case side1=>exact cB HR0_2.out (by repeat (with_reducible first|exact HB.out|apply qA|apply qD|apply qO|refine qS ?_ GE177.out|refine qS ?_ GE178.out|refine qS ?_ GE179.out)));(case side2=>exact HC0_2.out);rintro e w22 ⟨v187,rfl,ho0,hb⟩;refine ⟨_,rfl,?_⟩;have n0_:=qK (Kd.R_elder' (by (with_reducible repeat (first|apply rL|apply rN|apply rW));exact (Kd.R_mono (Kd.R_far (p:=⟨gb179,1,none⟩) (Kd.R_types HO182.out BK179.out (by decide)) (fun _ hk=>hk.2) (.slice Ao19 t183.length co19)) (fun _ h_=>h_.1))) (Kd.R_base ho0) hb);have n1_:=qK (Kd.R_elder' (by (with_reducible repeat (first|apply rL|apply rN|apply rW));exact (Kd.R_mono (Kd.R_far (p:=⟨gb179,1,none⟩) (Kd.R_types HO185.out BK179.out (by decide)) (fun _ hk=>hk.2) (.slice Ao19 t183.length co19)) (fun _ h_=>h_.1))) (Kd.R_base ho0) hb);have n2_:=qK (Kd.R_lower (Kd.R_new' (Kd.R_new' ho0 (Kd.R_lt (by (with_reducible repeat (first|apply rL|apply rN|apply rW));exact (Kd.R_mono (Kd.R_far (p:=⟨gb179,1,none⟩) (Kd.R_types HO182.out BK179.out (by decide)) (fun _ hk=>hk.2) (.slice Ao19 t183.length co19)) (fun _ h_=>h_.1))))) (Kd.R_lt (by (with_reducible repeat (first|apply rL|apply rN|apply rW));exact (Kd.R_mono (Kd.R_far (p:=⟨gb179,1,none⟩) (Kd.R_types HO185.out BK179.out (by decide)) (fun _ hk=>hk.2) (.slice Ao19 t183.length co19)) (fun _ h_=>h_.1))))) (qZ (by repeat (with_reducible first|exact HB.out|apply qA|apply qD|apply qO|refine qS ?_ GE177.out|refine qS ?_ GE178.out|refine qS ?_ GE179.out))));have n3_:=qK (qB (g:=gb177) (o:=.cells #[.slice A0_0 l0_0.length c0_0,.slice A0_1 l0_1.length c0_1,.slice A0_2 l0_2.length c0_2,.slice A0_3 l0_3.length c0_3,.slice A0_4 l0_4.length c0_4] 35 (0,0)) (by (with_reducible repeat (first|refine qN ?_ _|refine qW ?_|refine qL ?_ _));refine qR ?_ NB177_179.out _;(with_reducible repeat (first|refine qN ?_ _|refine qW ?_|refine qL ?_ _));exact BK177.out) hb);have n4_:=qK (qB (g:=gb178) (o:=.cells #[.slice none 0 0,.slice none 0 0,.slice none 0 0,.slice none 0 0,.slice none 0 0] 40 (0,0)) (by (with_reducible repeat (first|refine qN ?_ _|refine qW ?_|refine qL ?_ _));refine qR ?_ NB178_179.out _;(with_reducible repeat (first|refine qN ?_ _|refine qW ?_|refine qL ?_ _));exact BK178.out) hb);have n5_:=qK (qB (g:=gb179) (o:=.cells #[.slice Ao14 t180.length co14,.slice Ao19 t183.length co19,.slice none 0 0,.slice none 0 0,.slice none 0 0] 40 (0,0)) (by (with_reducible repeat (first|refine qN ?_ _|refine qW ?_|refine qL ?_ _));refine qP (cs:=#[.slice Ao14 t180.length co14,.slice none 0 0,.slice none 0 0,.slice none 0 0,.slice none 0 0]) ?_ 1 _ rfl;(with_reducible repeat (first|refine qN ?_ _|refine qW ?_|refine qL ?_ _));exact BK179.out) hb);have n6_:=qK (qT (by repeat (with_reducible first|exact HB.out|apply qA|apply qD|apply qO|refine qS ?_ GE177.out|refine qS ?_ GE178.out|refine qS ?_ GE179.out)) hb);clear HO182;clear HO185;clear BK177;clear BK178;clear BK179;clear HB;have HO182:=n0_;have HO185:=n1_;have HO188:=n2_;have BK177:=n3_;have BK178:=n4_;have BK179:=n5_;have HB:=n6_;clear n0_ n1_ n2_ n3_ n4_ n5_ n6_;(try clear hb);(try clear hb2);(try clear hk);(try clear hi);(try clear ho0);obtain ⟨Ao23,co23,eo23⟩:=Kd.R_slice HO188.out;subst eo23;have hcz24_0:w22.cell? ⟨gb179,0,none⟩=some (.slice Ao14 t180.length co14):=(qC BK179.out 0).trans rfl;have hcz24_1:w22.cell? ⟨gb179,1,none⟩=some (.slice Ao19 t183.length co19):=(qC BK179.out 1).trans rfl;have hcz24_2:w22.cell? ⟨gb179,2,none⟩=some (.slice none 0 0):=(qC BK179.out 2).trans rfl;have hcz24_3:w22.cell? ⟨gb179,3,none⟩=some (.slice none 0 0):=(qC BK179.out 3).trans rfl;have hcz24_4:w22.cell? ⟨gb179,4,none⟩=some (.slice none 0 0):=(qC BK179.out 4).trans rfl;have hfz24_0:=qF BK179.out 0;have hfz24_1:=qF BK179.out 1;have hfz24_2:=qF BK179.out 2;have hfz24_3:=qF BK179.out 3;have hfz24_4:=qF BK179.out 4;have hcz25_0:w22.cell? ⟨gb177,0,none⟩=some (.slice A0_0 l0_0.length c0_0):=(qC BK177.out 0).trans rfl;have hcz25_1:w22.cell? ⟨gb177,1,none⟩=some (.slice A0_1 l0_1.length c0_1):=(qC BK177.out 1).trans rfl;have hcz25_2:w22.cell? ⟨gb177,2,none⟩=some (.slice A0_2 l0_2.length c0_2):=(qC BK177.out 2).trans rfl;have hcz25_3:w22.cell? ⟨gb177,3,none⟩=some (.slice A0_3 l0_3.length c0_3):=(qC BK177.out 3).trans rfl;have hcz25_4:w22.cell? ⟨gb177,4,none⟩=some (.slice A0_4 l0_4.length c0_4):=(qC BK177.out 4).trans rfl;have hfz25_0:=qF BK177.out 0;have hfz25_1:=qF BK177.out 1;have hfz25_2:=qF BK177.out 2;have hfz25_3:=qF BK177.out 3;have hfz25_4:=qF BK177.out 4)|((with_reducible refine gate_callee (f:=84) rfl ?_);refine goesL_ (some 18) rfl rfl Try.func84 (by kernel_rfl) rfl #[.slice A0_3 l0_3.length c0_3] rfl (by (try simp only [mT,mC,mN]);first|done|rfl|(simp only [lD,lT];rfl)) ?_;(with_reducible refine (laws_toIntS.calls k _ _ l0_3 t189 _ ?side1 ?side2 A5.out).mono ?_);(case side1=>exact cB HR0_3.out (by repeat (with_reducible first|exact HB.out|apply qA|apply qD|apply qO|refine qS ?_ GE177.out|refine qS ?_ GE178.out|refine qS ?_ GE179.out)));(case side2=>exact HC0_3.out);rintro e w26 ⟨v190,rfl,ho0,hb⟩;refine ⟨_,rfl,?_⟩;have n0_:=qK (rB (by (with_reducible repeat (first|apply rL|apply rN|apply rW));exact (Kd.R_mono (Kd.R_far (p:=⟨gb179,2,none⟩) (Kd.R_types HO182.out BK179.out (by decide)) (fun _ hk=>hk.2) (.slice Ao23 t186.length co23)) (fun _ h_=>h_.1))) hb);have n1_:=qK (rB (by (with_reducible repeat (first|apply rL|apply rN|apply rW));exact (Kd.R_mono (Kd.R_far (p:=⟨gb179,2,none⟩) (Kd.R_types HO185.out BK179.out (by decide)) (fun _ hk=>hk.2) (.slice Ao23 t186.length co23)) (fun _ h_=>h_.1))) hb);have n2_:=qK (rB (by (with_reducible repeat (first|apply rL|apply rN|apply rW));exact (Kd.R_mono (Kd.R_far (p:=⟨gb179,2,none⟩) (Kd.R_types HO188.out BK179.out (by decide)) (fun _ hk=>hk.2) (.slice Ao23 t186.length co23)) (fun _ h_=>h_.1))) hb);have n3_:=qK (Kd.R_lower ho0 (qZ (by repeat (with_reducible first|exact HB.out|apply qA|apply qD|apply qO|refine qS ?_ GE177.out|refine qS ?_ GE178.out|refine qS ?_ GE179.out))));have n4_:=qK (qB (g:=gb177) (o:=.cells #[.slice A0_0 l0_0.length c0_0,.slice A0_1 l0_1.length c0_1,.slice A0_2 l0_2.length c0_2,.slice A0_3 l0_3.length c0_3,.slice A0_4 l0_4.length c0_4] 35 (0,0)) (by (with_reducible repeat (first|refine qN ?_ _|refine qW ?_|refine qL ?_ _));refine qR ?_ NB177_179.out _;(with_reducible repeat (first|refine qN ?_ _|refine qW ?_|refine qL ?_ _));exact BK177.out) hb);have n5_:=qK (qB (g:=gb178) (o:=.cells #[.slice none 0 0,.slice none 0 0,.slice none 0 0,.slice none 0 0,.slice none 0 0] 40 (0,0)) (by (with_reducible repeat (first|refine qN ?_ _|refine qW ?_|refine qL ?_ _));refine qR ?_ NB178_179.out _;(with_reducible repeat (first|refine qN ?_ _|refine qW ?_|refine qL ?_ _));exact BK178.out) hb);have n6_:=qK (qB (g:=gb179) (o:=.cells #[.slice Ao14 t180.length co14,.slice Ao19 t183.length co19,.slice Ao23 t186.length co23,.slice none 0 0,.slice none 0 0] 40 (0,0)) (by (with_reducible repeat (first|refine qN ?_ _|refine qW ?_|refine qL ?_ _));refine qP (cs:=#[.slice Ao14 t180.length co14,.slice Ao19 t183.length co19,.slice none 0 0,.slice none 0 0,.slice none 0 0]) ?_ 2 _ rfl;(with_reducible repeat (first|refine qN ?_ _|refine qW ?_|refine qL ?_ _));exact BK179.out) hb);have n7_:=qK (qT (by repeat (with_reducible first|exact HB.out|apply qA|apply qD|apply qO|refine qS ?_ GE177.out|refine qS ?_ GE178.out|refine qS ?_ GE179.out)) hb);clear HO182;clear HO185;clear HO188;clear BK177;clear BK178;clear BK179;clear HB;have HO182:=n0_;have HO185:=n1_;have HO188:=n2_;have HO191:=n3_;have BK177:=n4_;have BK178:=n5_;have BK179:=n6_;have HB:=n7_;clear n0_ n1_ n2_ n3_ n4_ n5_ n6_ n7_;(try clear hb);(try clear hb2);(try clear hk);(try clear hi);(try clear ho0);obtain ⟨Ao27,co27,eo27⟩:=Kd.R_slice HO191.out;subst eo27;have hcz28_0:w26.cell? ⟨gb179,0,none⟩=some (.slice Ao14 t180.length co14):=(qC BK179.out 0).trans rfl;have hcz28_1:w26.cell? ⟨gb179,1,none⟩=some (.slice Ao19 t183.length co19):=(qC BK179.out 1).trans rfl;have hcz28_2:w26.cell? ⟨gb179,2,none⟩=some (.slice Ao23 t186.length co23):=(qC BK179.out 2).trans rfl;have hcz28_3:w26.cell? ⟨gb179,3,none⟩=some (.slice none 0 0):=(qC BK179.out 3).trans rfl;have hcz28_4:w26.cell? ⟨gb179,4,none⟩=some (.slice none 0 0):=(qC BK179.out 4).trans rfl;have hfz28_0:=qF BK179.out 0;have hfz28_1:=qF BK179.out 1;have hfz28_2:=qF BK179.out 2;have hfz28_3:=qF BK179.out 3;have hfz28_4:=qF BK179.out 4;have hcz29_0:w26.cell? ⟨gb177,0,none⟩=some (.slice A0_0 l0_0.length c0_0):=(qC BK177.out 0).trans rfl;have hcz29_1:w26.cell? ⟨gb177,1,none⟩=some (.slice A0_1 l0_1.length c0_1):=(qC BK177.out 1).trans rfl;have hcz29_2:w26.cell? ⟨gb177,2,none⟩=some (.slice A0_2 l0_2.length c0_2):=(qC BK177.out 2).trans rfl;have hcz29_3:w26.cell? ⟨gb177,3,none⟩=some (.slice A0_3 l0_3.length c0_3):=(qC BK177.out 3).trans rfl;have hcz29_4:w26.cell? ⟨gb177,4,none⟩=some (.slice A0_4 l0_4.length c0_4):=(qC BK177.out 4).trans rfl;have hfz29_0:=qF BK177.out 0;have hfz29_1:=qF BK177.out 1;have hfz29_2:=qF BK177.out 2;have hfz29_3:=qF BK177.out 3;have hfz29_4:=qF BK177.out 4)|((with_reducible refine gate_callee (f:=84) rfl ?_);refine goesL_ (some 22) rfl rfl Try.func84 (by kernel_rfl) rfl #[.slice A0_4 l0_4.length c0_4] rfl (by (try simp only [mT,mC,mN]);first|done|rfl|(simp only [lD,lT];rfl)) ?_;(with_reducible refine (laws_toIntS.calls k _ _ l0_4 t192 _ ?side1 ?side2 A6.out).mono ?_);(case side1=>exact cB HR0_4.out (by repeat (with_reducible first|exact HB.out|apply qA|apply qD|apply qO|refine qS ?_ GE177.out|refine qS ?_ GE178.out|refine qS ?_ GE179.out)));(case side2=>exact HC0_4.out);rintro e w30 ⟨v193,rfl,ho0,hb⟩;refine ⟨_,rfl,?_⟩;have n0_:=qK (rB (by (with_reducible repeat (first|apply rL|apply rN|apply rW));exact (Kd.R_mono (Kd.R_far (p:=⟨gb179,3,none⟩) (Kd.R_types HO182.out BK179.out (by decide)) (fun _ hk=>hk.2) (.slice Ao27 t189.length co27)) (fun _ h_=>h_.1))) hb);have n1_:=qK (rB (by (with_reducible repeat (first|apply rL|apply rN|apply rW));exact (Kd.R_mono (Kd.R_far (p:=⟨gb179,3,none⟩) (Kd.R_types HO185.out BK179.out (by decide)) (fun _ hk=>hk.2) (.slice Ao27 t189.length co27)) (fun _ h_=>h_.1))) hb);have n2_:=qK (rB (by (with_reducible repeat (first|apply rL|apply rN|apply rW));exact (Kd.R_mono (Kd.R_far (p:=⟨gb179,3,none⟩) (Kd.R_types HO188.out BK179.out (by decide)) (fun _ hk=>hk.2) (.slice Ao27 t189.length co27)) (fun _ h_=>h_.1))) hb);have n3_:=qK (Kd.R_elder' (by (with_reducible repeat (first|apply rL|apply rN|apply rW));exact (Kd.R_mono (Kd.R_far (p:=⟨gb179,3,none⟩) (Kd.R_types HO191.out BK179.out (by decide)) (fun _ hk=>hk.2) (.slice Ao27 t189.length co27)) (fun _ h_=>h_.1))) (Kd.R_base ho0) hb);have n4_:=qK (Kd.R_lower (Kd.R_new' ho0 (Kd.R_lt (by (with_reducible repeat (first|apply rL|apply rN|apply rW));exact (Kd.R_mono (Kd.R_far (p:=⟨gb179,3,none⟩) (Kd.R_types HO191.out BK179.out (by decide)) (fun _ hk=>hk.2) (.slice Ao27 t189.length co27)) (fun _ h_=>h_.1))))) (qZ (by repeat (with_reducible first|exact HB.out|apply qA|apply qD|apply qO|refine qS ?_ GE177.out|refine qS ?_ GE178.out|refine qS ?_ GE179.out))));have n5_:=qK (qB (g:=gb177) (o:=.cells #[.slice A0_0 l0_0.length c0_0,.slice A0_1 l0_1.length c0_1,.slice A0_2 l0_2.length c0_2,.slice A0_3 l0_3.length c0_3,.slice A0_4 l0_4.length c0_4] 35 (0,0)) (by (with_reducible repeat (first|refine qN ?_ _|refine qW ?_|refine qL ?_ _));refine qR ?_ NB177_179.out _;(with_reducible repeat (first|refine qN ?_ _|refine qW ?_|refine qL ?_ _));exact BK177.out) hb);have n6_:=qK (qB (g:=gb178) (o:=.cells #[.slice none 0 0,.slice none 0 0,.slice none 0 0,.slice none 0 0,.slice none 0 0] 40 (0,0)) (by (with_reducible repeat (first|refine qN ?_ _|refine qW ?_|refine qL ?_ _));refine qR ?_ NB178_179.out _;(with_reducible repeat (first|refine qN ?_ _|refine qW ?_|refine qL ?_ _));exact BK178.out) hb);have n7_:=qK (qB (g:=gb179) (o:=.cells #[.slice Ao14 t180.length co14,.slice Ao19 t183.length co19,.slice Ao23 t186.length co23,.slice Ao27 t189.length co27,.slice none 0 0] 40 (0,0)) (by (with_reducible repeat (first|refine qN ?_ _|refine qW ?_|refine qL ?_ _));refine qP (cs:=#[.slice Ao14 t180.length co14,.slice Ao19 t183.length co19,.slice Ao23 t186.length co23,.slice none 0 0,.slice none 0 0]) ?_ 3 _ rfl;(with_reducible repeat (first|refine qN ?_ _|refine qW ?_|refine qL ?_ _));exact BK179.out) hb);have n8_:=qK (qT (by repeat (with_reducible first|exact HB.out|apply qA|apply qD|apply qO|refine qS ?_ GE177.out|refine qS ?_ GE178.out|refine qS ?_ GE179.out)) hb);clear HO182;clear HO185;clear HO188;clear HO191;clear BK177;clear BK178;clear BK179;clear HB;have HO182:=n0_;have HO185:=n1_;have HO188:=n2_;have HO191:=n3_;have HO194:=n4_;have BK177:=n5_;have BK178:=n6_;have BK179:=n7_;have HB:=n8_;clear n0_ n1_ n2_ n3_ n4_ n5_ n6_ n7_ n8_;(try clear hb);(try clear hb2);(try clear hk);(try clear hi);(try clear ho0);obtain ⟨Ao31,co31,eo31⟩:=Kd.R_slice HO194.out;subst eo31;have hcz32_0:w30.cell? ⟨gb179,0,none⟩=some (.slice Ao14 t180.length co14):=(qC BK179.out 0).trans rfl;have hcz32_1:w30.cell? ⟨gb179,1,none⟩=some (.slice Ao19 t183.length co19):=(qC BK179.out 1).trans rfl;have hcz32_2:w30.cell? ⟨gb179,2,none⟩=some (.slice Ao23 t186.length co23):=(qC BK179.out 2).trans rfl;have hcz32_3:w30.cell? ⟨gb179,3,none⟩=some (.slice Ao27 t189.length co27):=(qC BK179.out 3).trans rfl;have hcz32_4:w30.cell? ⟨gb179,4,none⟩=some (.slice none 0 0):=(qC BK179.out 4).trans rfl;have hfz32_0:=qF BK179.out 0;have hfz32_1:=qF BK179.out 1;have hfz32_2:=qF BK179.out 2;have hfz32_3:=qF BK179.out 3;have hfz32_4:=qF BK179.out 4;have hcz33_0:w30.cell? ⟨gb178,0,none⟩=some (.slice none 0 0):=(qC BK178.out 0).trans rfl;have hcz33_1:w30.cell? ⟨gb178,1,none⟩=some (.slice none 0 0):=(qC BK178.out 1).trans rfl;have hcz33_2:w30.cell? ⟨gb178,2,none⟩=some (.slice none 0 0):=(qC BK178.out 2).trans rfl;have hcz33_3:w30.cell? ⟨gb178,3,none⟩=some (.slice none 0 0):=(qC BK178.out 3).trans rfl;have hcz33_4:w30.cell? ⟨gb178,4,none⟩=some (.slice none 0 0):=(qC BK178.out 4).trans rfl;have hfz33_0:=qF BK178.out 0;have hfz33_1:=qF BK178.out 1;have hfz33_2:=qF BK178.out 2;have hfz33_3:=qF BK178.out 3;have hfz33_4:=qF BK178.out 4))
 refine bodyPost_ret (results_cell_row rfl _ _ gb178 40 #[.slice Ao14 t180.length co14,.slice Ao19 t183.length co19,.slice Ao23 t186.length co23,.slice Ao27 t189.length co27,.slice Ao31 t192.length co31] (0,0) _ rfl (by (with_reducible repeat (first|refine qN ?_ _|refine qW ?_|refine qL ?_ _));refine qP (cs:=#[.slice Ao14 t180.length co14,.slice Ao19 t183.length co19,.slice Ao23 t186.length co23,.slice Ao27 t189.length co27,.slice none 0 0]) ?_ 4 _ rfl;(with_reducible repeat (first|refine qN ?_ _|refine qW ?_|refine qL ?_ _));refine qP (cs:=#[.slice Ao14 t180.length co14,.slice Ao19 t183.length co19,.slice Ao23 t186.length co23,.slice none 0 0,.slice none 0 0]) ?_ 3 _ rfl;(with_reducible repeat (first|refine qN ?_ _|refine qW ?_|refine qL ?_ _));refine qP (cs:=#[.slice Ao14 t180.length co14,.slice Ao19 t183.length co19,.slice none 0 0,.slice none 0 0,.slice none 0 0]) ?_ 2 _ rfl;(with_reducible repeat (first|refine qN ?_ _|refine qW ?_|refine qL ?_ _));refine qP (cs:=#[.slice Ao14 t180.length co14,.slice none 0 0,.slice none 0 0,.slice none 0 0,.slice none 0 0]) ?_ 1 _ rfl;(with_reducible repeat (first|refine qN ?_ _|refine qW ?_|refine qL ?_ _));refine qP (cs:=#[.slice none 0 0,.slice none 0 0,.slice none 0 0,.slice none 0 0,.slice none 0 0]) ?_ 0 _ rfl;(with_reducible repeat (first|refine qN ?_ _|refine qW ?_|refine qL ?_ _));refine qR ?_ NB178_179.out _;(with_reducible repeat (first|refine qN ?_ _|refine qW ?_|refine qL ?_ _));exact BK178.out) Try.underlying40 rfl (by kernel_rfl)) rfl ?_;exact ⟨_,_,_,_,_,by first|rfl|(simp [errW_none,errW_some] <;> rfl)|(simp [*,errW_none,errW_some] <;> rfl),by (with_reducible repeat (first|apply rL|apply rN|apply rW));exact Kd.R_mono (Kd.R_far (p:=⟨gb178,4,none⟩) (Kd.R_far (p:=⟨gb178,3,none⟩) (Kd.R_far (p:=⟨gb178,2,none⟩) (Kd.R_far (p:=⟨gb178,1,none⟩) (Kd.R_far (p:=⟨gb178,0,none⟩) (Kd.R_far (p:=⟨gb179,4,none⟩) (Kd.R_types (Kd.R_types HO182.out BK179.out (by decide)) BK178.out (by decide)) (fun _ hk=>hk.1.2) (.slice Ao31 t192.length co31)) (fun _ hk=>hk.2) (.slice Ao14 t180.length co14)) (fun _ hk=>hk.2) (.slice Ao19 t183.length co19)) (fun _ hk=>hk.2) (.slice Ao23 t186.length co23)) (fun _ hk=>hk.2) (.slice Ao27 t189.length co27)) (fun _ hk=>hk.2) (.slice Ao31 t192.length co31)) (fun _ hk=>⟨hk.1.1.1.2,hk.1.1.2⟩),by (with_reducible repeat (first|apply rL|apply rN|apply rW));exact Kd.R_mono (Kd.R_far (p:=⟨gb178,4,none⟩) (Kd.R_far (p:=⟨gb178,3,none⟩) (Kd.R_far (p:=⟨gb178,2,none⟩) (Kd.R_far (p:=⟨gb178,1,none⟩) (Kd.R_far (p:=⟨gb178,0,none⟩) (Kd.R_far (p:=⟨gb179,4,none⟩) (Kd.R_types (Kd.R_types HO185.out BK179.out (by decide)) BK178.out (by decide)) (fun _ hk=>hk.1.2) (.slice Ao31 t192.length co31)) (fun _ hk=>hk.2) (.slice Ao14 t180.length co14)) (fun _ hk=>hk.2) (.slice Ao19 t183.length co19)) (fun _ hk=>hk.2) (.slice Ao23 t186.length co23)) (fun _ hk=>hk.2) (.slice Ao27 t189.length co27)) (fun _ hk=>hk.2) (.slice Ao31 t192.length co31)) (fun _ hk=>⟨hk.1.1.1.2,hk.1.1.2⟩),by (with_reducible repeat (first|apply rL|apply rN|apply rW));exact Kd.R_mono (Kd.R_far (p:=⟨gb178,4,none⟩) (Kd.R_far (p:=⟨gb178,3,none⟩) (Kd.R_far (p:=⟨gb178,2,none⟩) (Kd.R_far (p:=⟨gb178,1,none⟩) (Kd.R_far (p:=⟨gb178,0,none⟩) (Kd.R_far (p:=⟨gb179,4,none⟩) (Kd.R_types (Kd.R_types HO188.out BK179.out (by decide)) BK178.out (by decide)) (fun _ hk=>hk.1.2) (.slice Ao31 t192.length co31)) (fun _ hk=>hk.2) (.slice Ao14 t180.length co14)) (fun _ hk=>hk.2) (.slice Ao19 t183.length co19)) (fun _ hk=>hk.2) (.slice Ao23 t186.length co23)) (fun _ hk=>hk.2) (.slice Ao27 t189.length co27)) (fun _ hk=>hk.2) (.slice Ao31 t192.length co31)) (fun _ hk=>⟨hk.1.1.1.2,hk.1.1.2⟩),by (with_reducible repeat (first|apply rL|apply rN|apply rW));exact Kd.R_mono (Kd.R_far (p:=⟨gb178,4,none⟩) (Kd.R_far (p:=⟨gb178,3,none⟩) (Kd.R_far (p:=⟨gb178,2,none⟩) (Kd.R_far (p:=⟨gb178,1,none⟩) (Kd.R_far (p:=⟨gb178,0,none⟩) (Kd.R_far (p:=⟨gb179,4,none⟩) (Kd.R_types (Kd.R_types HO191.out BK179.out (by decide)) BK178.out (by decide)) (fun _ hk=>hk.1.2) (.slice Ao31 t192.length co31)) (fun _ hk=>hk.2) (.slice Ao14 t180.length co14)) (fun _ hk=>hk.2) (.slice Ao19 t183.length co19)) (fun _ hk=>hk.2) (.slice Ao23 t186.length co23)) (fun _ hk=>hk.2) (.slice Ao27 t189.length co27)) (fun _ hk=>hk.2) (.slice Ao31 t192.length co31)) (fun _ hk=>hk.1.1.2),by (with_reducible repeat (first|apply rL|apply rN|apply rW));exact Kd.R_mono (Kd.R_far (p:=⟨gb178,4,none⟩) (Kd.R_far (p:=⟨gb178,3,none⟩) (Kd.R_far (p:=⟨gb178,2,none⟩) (Kd.R_far (p:=⟨gb178,1,none⟩) (Kd.R_far (p:=⟨gb178,0,none⟩) (Kd.R_far (p:=⟨gb179,4,none⟩) (Kd.R_types (Kd.R_types HO194.out BK179.out (by decide)) BK178.out (by decide)) (fun _ hk=>hk.1.2) (.slice Ao31 t192.length co31)) (fun _ hk=>hk.2) (.slice Ao14 t180.length co14)) (fun _ hk=>hk.2) (.slice Ao19 t183.length co19)) (fun _ hk=>hk.2) (.slice Ao23 t186.length co23)) (fun _ hk=>hk.2) (.slice Ao27 t189.length co27)) (fun _ hk=>hk.2) (.slice Ao31 t192.length co31)) (fun _ hk=>hk.1.1.2),by repeat (first|(with_reducible first|exact HB.out|apply qA|apply qD|apply qO|refine qS ?_ GE177.out|refine qS ?_ GE178.out|refine qS ?_ GE179.out)|exact HB.out)⟩

/-! ### impl_txnsOf: function 73 -/
def impl_txnsOf.l0 : Nat→Int→List (S84)→Int→Int→Option (Int)
 | 0,_,_,_,_=>none
 | k + 1,x3,x6,x7,x8=>if x8 < x7 then (if 0≤x8 then (if x8 < (x6.length:Int) then (if 0≤((rd_T84 x6 x8).f0) then (impl_txnsOf.l0 k (Go.bits .or .i64 x3 (shl .i64 1 ((rd_T84 x6 x8).f0))) x6 x7 (wrap64 (x8 + 1))) else (none)) else (none)) else (none)) else (some x3)
def impl_txnsOf.f (k:Nat) (l0:List (S84)):Option (Int):=impl_txnsOf.l0 k 0 l0 (l0.length:Int) 0
theorem impl_txnsOf.mono_l : ∀ k,(∀ y0 y1 y2 y3,LeO (impl_txnsOf.l0 k y0 y1 y2 y3) (impl_txnsOf.l0 (k + 1) y0 y1 y2 y3))
 | 0=>fun _ _ _ _ r h=>by simp [impl_txnsOf.l0] at h
 | k + 1=>by
  have ih0:=impl_txnsOf.mono_l k
  ·intro y0 y1 y2 y3;unfold impl_txnsOf.l0
   repeat' first
   | (with_reducible exact ih0 _ _ _ _)
   | (with_reducible exact LeO.refl _)
   | (with_reducible exact LeO.none _)
   | (with_reducible refine LeO.ite ?_ ?_)
   | (with_reducible refine LeO.bind ?_ (fun _=>?_))
   | exact ih0 _ _ _ _
   | exact LeO.none _
   | refine LeO.ite ?_ ?_
   | refine LeO.bind ?_ (fun _=>?_)
theorem impl_txnsOf.mono : ∀ a0 k,LeO (impl_txnsOf.f k a0) (impl_txnsOf.f (k + 1) a0):=by
 intro a0 k;have ih0:=impl_txnsOf.mono_l k;unfold impl_txnsOf.f
 repeat' first
   | (with_reducible exact ih0 _ _ _ _)
   | (with_reducible exact LeO.refl _)
   | (with_reducible exact LeO.none _)
   | (with_reducible refine LeO.ite ?_ ?_)
   | (with_reducible refine LeO.bind ?_ (fun _=>?_))
   | exact ih0 _ _ _ _
   | exact LeO.none _
   | refine LeO.ite ?_ ?_
   | refine LeO.bind ?_ (fun _=>?_)
set_option maxHeartbeats 8000000 in
set_option maxRecDepth 100000 in
theorem impl_txnsOf.calls (k:Nat) (A0:Option Addr) (c0:Nat) (l0:List (S84)) (r:Int) (w:World) (hr0:Kd.C k84 w A0 l0.length l0) (hc0:l0.length≤c0) (h:impl_txnsOf.f k l0=some r) :
  Calls Try.prog 73 #[.slice A0 l0.length c0] w fun e w'=>e=.returned (.int .i64 r)∧Below w.heap.size w w':=by
 have hu84:=Try.underlying84;have HR0:=qK hr0;have HC0:=qK hc0;clear hr0 hc0;have HB:=qK (Below.refl w.heap.size w);have H:(impl_txnsOf.l0 k 0 l0 (l0.length:Int) 0)=some r:=h;clear h;have H':=qK H;clear H;go_enter Try.func73,Try.ntmps73
 go_wp2
 go_loopg [3,8] k (fun kq v3 v8 w'=>∃ (x3_1:Int) (x8_1:Int),v3=.int .i64 x3_1∧v8=.int .i64 x8_1∧Aside0 (impl_txnsOf.l0 kq x3_1 l0 (l0.length:Int) x8_1=some r)∧Aside0 (kq≤k)∧Aside0 (Below w.heap.size w w'))
 case atStart=>exact ⟨(0),(0),(by first|rfl|(simp;done)|(simp [*];done)),(by first|rfl|(simp;done)|(simp [*];done)),H',⟨Nat.le_refl _⟩,⟨by repeat (first|(with_reducible first|exact HB.out|apply qA|apply qD|apply qO)|exact HB.out)⟩⟩
 case round =>
  clear H';obtain ⟨x3_1,x8_1,rfl,rfl,HA,HK1,HB⟩:=hrel;cases gk with
  | zero=>exact absurd HA.out (by simp [impl_txnsOf.l0])
  | succ k1 =>
   have H:=HA.out;clear HA;simp only [impl_txnsOf.l0] at H;by_cases c2:x8_1 < (l0.length:Int)
   ·rw [if_pos c2] at H;have c2b0:decide (x8_1 < (l0.length:Int))=true:=decide_eq_true c2;clear c2;by_cases c3:0≤x8_1
    ·rw [if_pos c3] at H;have c3b0:decide (0≤x8_1)=true:=decide_eq_true c3;clear c3;by_cases c4:x8_1 < (l0.length:Int)
     ·rw [if_pos c4] at H;have c4b0:decide (x8_1 < (l0.length:Int))=true:=decide_eq_true c4;clear c4;by_cases c5:0≤((rd_T84 l0 x8_1).f0)
      ·rw [if_pos c5] at H;have c5b0:=eq_true c5;have c5b1:decide (0≤((rd_T84 l0 x8_1).f0))=true:=decide_eq_true c5;clear c5;obtain ⟨ji6,hji6⟩:∃ j_:Int,(shl .i64 1 ((rd_T84 l0 x8_1).f0))=j_:=⟨_,rfl⟩;replace H:(impl_txnsOf.l0 k1 (Go.bits .or .i64 x3_1 (ji6)) l0 (l0.length:Int) (wrap64 (x8_1 + 1)))=some r:=by first|(rw [hji6] at H;exact H)|(simp only [hji6] at H ⊢;exact H)
       have hji6_:(IntKind.i64.wrap (1 * 2 ^ min ((rd_T84 l0 x8_1).f0).toNat 64))=ji6:=hji6;have hji6z:((rd_T84 l0 x8_1).f0)≤64→(IntKind.i64.wrap (1 * 2 ^ ((rd_T84 l0 x8_1).f0).toNat))=ji6:=shl_small hji6;have hji6u:(IntKind.i64.wrap (2 ^ min ((rd_T84 l0 x8_1).f0).toNat 64))=ji6:=by have h_:=hji6_;rw [Int.one_mul] at h_;exact h_
       have hji6v:((rd_T84 l0 x8_1).f0)≤64→(IntKind.i64.wrap (2 ^ ((rd_T84 l0 x8_1).f0).toNat))=ji6:=fun hle_=>by have h_:=hji6z hle_;rw [Int.one_mul] at h_;exact h_
       have hji6y:(wrap64 (1 * 2 ^ min ((rd_T84 l0 x8_1).f0).toNat 64))=ji6:=(i64_w _).symm.trans hji6_;have hji6x:((rd_T84 l0 x8_1).f0)≤64→(wrap64 (1 * 2 ^ ((rd_T84 l0 x8_1).f0).toNat))=ji6:=fun h_=>(i64_w _).symm.trans (hji6z h_)
       have H':=qK H;clear H;have p195:0≤(x8_1:Int):=of_decide_eq_true (by first|(with_reducible assumption)|assumption);have q195:x8_1 < (l0.length:Int):=of_decide_eq_true (by first|(with_reducible assumption)|assumption);obtain ⟨ad195,e195,hx195_0,hx195_1,hx195_2⟩:=at_T84 HR0.out x8_1 p195 q195;cases e195
       replace hx195_0:=(HB.out.cell (World.block_lt_of_cell? w _ hx195_0)).trans hx195_0;replace hx195_1:=(HB.out.cell (World.block_lt_of_cell? w _ hx195_1)).trans hx195_1;replace hx195_2:=(HB.out.cell (World.block_lt_of_cell? w _ hx195_2)).trans hx195_2;replace p195:=eq_true p195;replace q195:=eq_true q195;go_wp2_with (first|((with_reducible refine gate_dst (N:=5) rfl ?_);refine box_event ?hg (N:=5) ?hd (cs:=#[.int .i64 0,.int .i64 0,.int .i64 0]) (t:=84) ?hr ?_;(case hd=>rfl);(case hg=>rfl);(case hr=>(go_simp;try rfl));intro gb196 hg w7 hbox hb;have n0_:=qK (qT (by repeat (with_reducible first|exact HB.out|apply qA|apply qD|apply qO)) hb);have n1_:=qK (hbox);have n2_:=qK ((by rw [hg];exact (qZ (by repeat (with_reducible first|exact HB.out|apply qA|apply qD|apply qO))):w.heap.size≤gb196));have n3_:=qK ((by rw [hg];exact (qZ (by repeat (with_reducible first|exact HB.out|apply qA|apply qD|apply qO))):w.heap.size≤gb196));clear HB;have HB:=n0_;have BK196:=n1_;have GW196:=n2_;have GE196:=n3_;clear n0_ n1_ n2_ n3_;clear hb hbox hg;have hcz8_0:w7.cell? ⟨gb196,0,none⟩=some (.int .i64 0):=(qC BK196.out 0).trans rfl;have hcz8_1:w7.cell? ⟨gb196,1,none⟩=some (.int .i64 0):=(qC BK196.out 1).trans rfl;have hcz8_2:w7.cell? ⟨gb196,2,none⟩=some (.int .i64 0):=(qC BK196.out 2).trans rfl;have hfz8_0:=qF BK196.out 0;have hfz8_1:=qF BK196.out 1;have hfz8_2:=qF BK196.out 2))
       go_roundg k1
       case measure=>have:=HK1.out;omega
       case rel=>exact ⟨(Go.bits .or .i64 x3_1 (ji6)),(wrap64 (x8_1 + 1)),(by first|rfl|(simp;done)|(simp only [← hji6] <;> (first|rfl|simp))|(simp [*];done)),(by first|rfl|(simp;done)|(simp [*];done)),H',⟨by have:=HK1.out;omega⟩,⟨by repeat (first|(with_reducible first|exact HB.out|apply qA|apply qD|apply qO|refine qS ?_ GE196.out)|exact HB.out)⟩⟩
      ·rw [if_neg c5] at H;exact absurd H (by simp)
     ·rw [if_neg c4] at H;exact absurd H (by simp)
    ·rw [if_neg c3] at H;exact absurd H (by simp)
   ·rw [if_neg c2] at H;have c2b0:decide (x8_1 < (l0.length:Int))=false:=decide_eq_false c2;clear c2;obtain rfl:=Option.some.inj H;go_wp2
    go_ret
    exact ⟨by first|rfl|(simp [errW_none,errW_some] <;> rfl)|(simp [*,errW_none,errW_some] <;> rfl),by repeat (first|(with_reducible first|exact HB.out|apply qA|apply qD|apply qO)|exact HB.out)⟩

/-! ### impl_set_list: function 76 -/
def impl_set_list.l0 : Nat→Int→List Int→Int→Option (List Int)
 | 0,_,_,_=>none
 | k + 1,x0,x3,x4=>if 0≤x4 then (if (shr .i64 x0 x4)=0 then (some x3) else (if (Go.bits .and .i64 (shr .i64 x0 x4) 1)=1 then (if x3.length < 17592186044416 then (impl_set_list.l0 k x0 (x3 ++ [x4]) (wrap64 (x4 + 1))) else (none)) else (impl_set_list.l0 k x0 x3 (wrap64 (x4 + 1))))) else (none)
def impl_set_list.f (k:Nat) (a0:Int):Option (List Int):=impl_set_list.l0 k a0 ([]:List Int) 0
theorem impl_set_list.mono_l : ∀ k,(∀ y0 y1 y2,LeO (impl_set_list.l0 k y0 y1 y2) (impl_set_list.l0 (k + 1) y0 y1 y2))
 | 0=>fun _ _ _ r h=>by simp [impl_set_list.l0] at h
 | k + 1=>by
  have ih0:=impl_set_list.mono_l k
  ·intro y0 y1 y2;unfold impl_set_list.l0
   repeat' first
   | (with_reducible exact ih0 _ _ _)
   | (with_reducible exact LeO.refl _)
   | (with_reducible exact LeO.none _)
   | (with_reducible refine LeO.ite ?_ ?_)
   | (with_reducible refine LeO.bind ?_ (fun _=>?_))
   | exact ih0 _ _ _
   | exact LeO.none _
   | refine LeO.ite ?_ ?_
   | refine LeO.bind ?_ (fun _=>?_)
theorem impl_set_list.mono : ∀ a0 k,LeO (impl_set_list.f k a0) (impl_set_list.f (k + 1) a0):=by
 intro a0 k;have ih0:=impl_set_list.mono_l k;unfold impl_set_list.f
 repeat' first
   | (with_reducible exact ih0 _ _ _)
   | (with_reducible exact LeO.refl _)
   | (with_reducible exact LeO.none _)
   | (with_reducible refine LeO.ite ?_ ?_)
   | (with_reducible refine LeO.bind ?_ (fun _=>?_))
   | exact ih0 _ _ _
   | exact LeO.none _
   | refine LeO.ite ?_ ?_
   | refine LeO.bind ?_ (fun _=>?_)
set_option maxHeartbeats 8000000 in
set_option maxRecDepth 100000 in
theorem impl_set_list.calls (k:Nat) (a0:Int) (r:List Int) (w:World) (h:impl_set_list.f k a0=some r) :
  Calls Try.prog 76 #[.int .i64 a0] w fun e w'=>∃ v0_:Value,e=.returned (v0_)∧Kd.R (Kd.int .i64) 3 w' w.heap.size (fun _=>True) v0_ r∧Below w.heap.size w w':=by
 have HB:=qK (Below.refl w.heap.size w);have H:(impl_set_list.l0 k a0 ([]:List Int) 0)=some r:=h;clear h;have H':=qK H;clear H;go_enter Try.func76,Try.ntmps76
 go_wp2
 go_loopg [3,4] k (fun kq v3 v4 w'=>∃ (x3_1:List Int) (x4_1:Int),v4=.int .i64 x4_1∧Aside0 (impl_set_list.l0 kq a0 x3_1 x4_1=some r)∧Aside0 (kq≤k)∧Aside0 (Kd.R (Kd.int .i64) 3 w' w.heap.size (fun _=>True) v3 x3_1)∧Aside0 (Below w.heap.size w w'))
 case atStart=>exact ⟨(([]:List Int)),(0),(by first|rfl|(simp;done)|(simp [*];done)),H',⟨Nat.le_refl _⟩,⟨by first|exact Kd.R_nil _ _ _ _ _|exact Kd.N_nil _ _ _ _ _|exact Kd.V_nil _ _ _ _ _|exact Kd.Q_nil _ _ _ _ _|exact Kd.S_nil _ _ _ _ _⟩,⟨by repeat (first|(with_reducible first|exact HB.out|apply qA|apply qD|apply qO)|exact HB.out)⟩⟩
 case round =>
  clear H';obtain ⟨x3_1,x4_1,rfl,HA,HK1,HO_3,HB⟩:=hrel;cases gk with
  | zero=>exact absurd HA.out (by simp [impl_set_list.l0])
  | succ k1 =>
   have H:=HA.out;clear HA;simp only [impl_set_list.l0] at H;by_cases c2:0≤x4_1
   ·rw [if_pos c2] at H;have c2b0:=eq_true c2;have c2b1:decide (0≤x4_1)=true:=decide_eq_true c2;clear c2;obtain ⟨ji3,hji3⟩:∃ j_:Int,(shr .i64 a0 x4_1)=j_:=⟨_,rfl⟩;replace H:(if (ji3)=0 then (some x3_1) else (if (Go.bits .and .i64 (ji3) 1)=1 then (if x3_1.length < 17592186044416 then (impl_set_list.l0 k1 a0 (x3_1 ++ [x4_1]) (wrap64 (x4_1 + 1))) else (none)) else (impl_set_list.l0 k1 a0 x3_1 (wrap64 (x4_1 + 1)))))=some r:=by first|(rw [hji3] at H;exact H)|(simp only [hji3] at H ⊢;exact H)
    have hji3_:(a0 / 2 ^ min x4_1.toNat 64)=ji3:=hji3;have hji3z:x4_1≤64→(a0 / 2 ^ x4_1.toNat)=ji3:=shr_small hji3;by_cases c4:(ji3)=0
    ·rw [if_pos c4] at H;have c4b0:((ji3) == 0)=true:=beq_iff_eq.mpr c4;have c4b1:((ji3) != 0)=false:=bne_eq_false_iff_eq.mpr c4;clear c4;obtain rfl:=Option.some.inj H;go_wp2
     go_ret
     exact ⟨_,by first|rfl|(simp [errW_none,errW_some] <;> rfl)|(simp only [← hji3];first|rfl|(simp [errW_none,errW_some] <;> rfl))|(simp [*,errW_none,errW_some] <;> rfl),by (with_reducible repeat (first|apply rL|apply rN|apply rW));exact HO_3.out,by repeat (first|(with_reducible first|exact HB.out|apply qA|apply qD|apply qO)|exact HB.out)⟩
    ·rw [if_neg c4] at H;have c4b0:((ji3) == 0)=false:=beq_eq_false_iff_ne.mpr c4;have c4b1:((ji3) != 0)=true:=bne_iff_ne.mpr c4;have c5b0:=eq_true (of_decide_eq_true (by first|(with_reducible assumption)|assumption):0≤x4_1);by_cases c6:(Go.bits .and .i64 (ji3) 1)=1
     ·rw [if_pos c6] at H;have c6b0:((Go.bits .and .i64 (ji3) 1) == 1)=true:=beq_iff_eq.mpr c6;have c6b1:((Go.bits .and .i64 (ji3) 1) != 1)=false:=bne_eq_false_iff_eq.mpr c6;clear c6;by_cases c7:x3_1.length < 17592186044416
      ·rw [if_pos c7] at H;have LMc7:=qK c7;clear c7;obtain ⟨y197,hy197⟩:∃ y_:List Int,y_=(x3_1 ++ [x4_1]):=⟨_,rfl⟩;replace H:(impl_set_list.l0 k1 a0 y197 (wrap64 (x4_1 + 1)))=some r:=by first|(rw [hy197];with_reducible exact H)|(have H2_:=(Option.bind_some _ _).symm.trans H;rw [hy197];with_reducible exact H2_)|(have H2_:=(Option.bind_some _ _).symm.trans H;with_reducible exact H2_)|with_reducible exact H|(rw [hy197];exact H)|exact H
       have Ny197:=qK hy197;clear hy197;have H':=qK H;clear H;go_wp2_with (first|((with_reducible refine gate_builtin (b:=.append) (xs:=#[.tmp 16,.tmp 18]) rfl ?_);at_builtin;refine Kd.R_append (Kd.int .i64) (w0:=w) w.heap.size rfl (.tmp 16) (.tmp 18) 24 3 (.int .i64 0) 8 rfl Try.underlying24 info3 rfl (by decide) (by omega) u3 x3_1 x4_1 [.int .i64 x4_1] (fun _=>True) (fun _=>False) rfl rfl ?aP (fun _ hk=>hk.elim) ?aF ?aO ?aB ?aS ?aL ?_;(case aP=>exact rfl);(case aB=>exact (by repeat (with_reducible first|exact HB.out|apply qA|apply qD|apply qO)));(case aF=>exact (fun _ _=>trivial));(case aO=>exact (by (with_reducible repeat (first|apply rL|apply rN|apply rW));exact HO_3.out));(case aS=>exact (qZ (by repeat (with_reducible first|exact HB.out|apply qA|apply qD|apply qO))));(case aL=>have:=LMc7.out;omega);intro v198 w8 ho hb hg hat;rw [← Ny197.out] at ho;have n0_:=qK (hb);have n1_:=qK (ho);clear HB;clear HO_3;have HB:=n0_;have HO199:=n1_;clear n0_ n1_;clear ho hb hg hat))
       go_roundg k1
       case measure=>have:=HK1.out;omega
       case rel=>exact ⟨(y197),(wrap64 (x4_1 + 1)),(by first|rfl|(simp;done)|(simp [*];done)),H',⟨by have:=HK1.out;omega⟩,⟨by (with_reducible repeat (first|apply rL|apply rN|apply rW));exact HO199.out⟩,⟨by repeat (first|(with_reducible first|exact HB.out|apply qA|apply qD|apply qO)|exact HB.out)⟩⟩
      ·rw [if_neg c7] at H;exact absurd H (by simp)
     ·rw [if_neg c6] at H;have c6b0:((Go.bits .and .i64 (ji3) 1) == 1)=false:=beq_eq_false_iff_ne.mpr c6;have c6b1:((Go.bits .and .i64 (ji3) 1) != 1)=true:=bne_iff_ne.mpr c6;have H':=qK H;clear H;go_wp2
      go_roundg k1
      case measure=>have:=HK1.out;omega
      case rel=>exact ⟨(x3_1),(wrap64 (x4_1 + 1)),(by first|rfl|(simp;done)|(simp [*];done)),H',⟨by have:=HK1.out;omega⟩,⟨by (with_reducible repeat (first|apply rL|apply rN|apply rW));exact HO_3.out⟩,⟨by repeat (first|(with_reducible first|exact HB.out|apply qA|apply qD|apply qO)|exact HB.out)⟩⟩
   ·rw [if_neg c2] at H;exact absurd H (by simp)

/-! ### idxf_Int: function 75 -/
set_option maxHeartbeats 4000000 in
set_option maxRecDepth 100000 in
theorem idxf_Int.calls (A : Option Addr) (c : Nat) (l : List (Int)) (g : Nat) (lb : Array Value) (p : Int → Bool) (w : World) (eg : ∀ args w, (callFunc g args).run Try.prog w = .ok (.enter g args) w)
    (hr : Kd.C (Kd.int .i64) w A l.length l) (hp : PredOn Try.prog g lb (One (Kd.int .i64)) p l w) :
    Calls Try.prog 75 #[.slice A l.length c, .func (.func g) #[] lb] w fun e w' => e = .returned (.int .i64 (idxf p l)) ∧ Below w.heap.size w w' := by
  have hl : l.length ≤ 9223372036854775807 := hr.2.1
  have HR := Aside0.mk hr
  clear hr
  have HP := Aside0.mk hp
  clear hp
  go_enter Try.func75, Try.ntmps75
  go_wp2
  go_loopg [5, 8] l.length (fun gg _ s8 wr => ∃ kk : Nat, kk ≤ l.length ∧ l.length - kk ≤ gg ∧ s8 = .int .i64 kk ∧ Aside0 (Below w.heap.size w wr) ∧ Aside0 (∀ j, (hj : j < l.length) → j < kk → p l[j] = false))
  case atStart => exact ⟨0, Nat.zero_le _, by omega, rfl, ⟨Below.refl _ w⟩, ⟨fun j hj h => absurd h (Nat.not_lt_zero _)⟩⟩
  case round =>
    obtain ⟨kk, hkk, hg, rfl, BW, AA⟩ := hrel
    by_cases hlt : kk < l.length
    · have hltz : (kk : Int) < (l.length : Int) := by omega
      have hmem : l[kk] ∈ l := List.getElem_mem hlt
      obtain ⟨ad, cs, e1, hlen, hK, hcell⟩ := Kd.C_get (Kd.C_below HR.out BW.out) l[kk] (kk : Int) (by omega) (by omega)
      cases e1
      have hrd : l.getD (kk : Int).toNat l[kk] = l[kk] := by simp [hlt]
      rw [hrd] at hK
      replace hlen : cs.length = 1 := hlen
      obtain ⟨c0_, rfl⟩ : ∃ c0_ : Value, cs = [c0_] := list_len1 hlen
      replace hcell : ∀ j u, ([c0_] : List Value)[j]? = some u → wr.cell? (ad.add ((kk : Int).toNat * 1 + j)) = some u := hcell
      have h0_ : wr.cell? (ad.add kk) = some c0_ := by have := hcell 0 _ rfl; simpa using this
      have hcall := HP.out wr l[kk] (c0_) hmem BW.out hK
      clear hcell hK hlen hmem hrd
      have AY : Aside0 (∃ y, y = l[kk]) := ⟨⟨_, rfl⟩⟩
      obtain ⟨⟨y, hy⟩⟩ := AY
      rw [← hy] at hcall
      have HY := Aside0.mk hy
      clear hy
      cases hq : p y with
      | true =>
        rw [hq] at hcall
        have HQ := Aside0.mk hq
        clear hq
        go_wp2_with (go_at_fn g; refine hcall.mono ?_; rintro e w' ⟨rfl, hb'⟩)
        go_ret
        refine ⟨?_, below_step BW.out hb'⟩
        rw [idxf_hit hlt (by rw [← HY.out]; exact HQ.out) (fun j hj => AA.out j (by omega) hj)]
        rfl
      | false =>
        rw [hq] at hcall
        have HQ := Aside0.mk hq
        clear hq
        go_wp2_with (go_at_fn g; refine hcall.mono ?_; rintro e w' ⟨rfl, hb'⟩)
        go_roundg (l.length - (kk + 1))
        case measure => omega
        case rel =>
          refine ⟨kk + 1, by omega, by omega, by go_num, ⟨below_step BW.out hb'⟩, ⟨fun j hj hlt2 => ?_⟩⟩
          by_cases e : j = kk
          · subst e
            rw [← HY.out]; exact HQ.out
          · exact AA.out j hj (by omega)
    · have hltz : ¬ (kk : Int) < (l.length : Int) := by omega
      go_wp2
      go_ret
      refine ⟨?_, BW.out⟩
      rw [idxf_miss (fun j hj => AA.out j hj (by omega))]
      rfl

/-! ### anyf_Int: function 129 -/
set_option maxHeartbeats 4000000 in
set_option maxRecDepth 100000 in
theorem anyf_Int.calls (A : Option Addr) (c : Nat) (l : List (Int)) (g : Nat) (lb : Array Value) (p : Int → Bool) (w : World) (eg : ∀ args w, (callFunc g args).run Try.prog w = .ok (.enter g args) w)
    (hr : Kd.C (Kd.int .i64) w A l.length l) (hp : PredOn Try.prog g lb (One (Kd.int .i64)) p l w) :
    Calls Try.prog 129 #[.slice A l.length c, .func (.func g) #[] lb] w fun e w' => e = .returned (.bool (l.any p)) ∧ Below w.heap.size w w' := by
  rw [← idxf_any p l]
  have HR := Aside0.mk hr
  clear hr
  have HP := Aside0.mk hp
  clear hp
  obtain ⟨i, hi⟩ : ∃ i, i = idxf p l := ⟨_, rfl⟩
  rw [← hi]
  have HI := Aside0.mk hi
  clear hi
  go_enter Try.func129, Try.ntmps129
  go_wp2_with (go_at_call 75; refine (idxf_Int.calls A c l g lb p _ eg HR.out HP.out).mono ?_; rw [← HI.out]; rintro e w' ⟨rfl, hb'⟩)
  go_ret
  exact ⟨rfl, hb'⟩

/-! ### areAll1_Int: function 130 -/
set_option maxHeartbeats 4000000 in
set_option maxRecDepth 100000 in
theorem areAll1_Int.pred (B : Nat) (l : List (Int)) (g : Nat) (lb : Array Value) (p : Int → Bool) (w : World) (eg : ∀ args w, (callFunc g args).run Try.prog w = .ok (.enter g args) w)
    (hB : w.cell? ⟨B, 0, none⟩ = some (.func (.func g) #[] lb)) (hp : PredOn Try.prog g lb (One (Kd.int .i64)) p l w) :
    PredOn Try.prog 130 #[.pointer (some ⟨B, 0, none⟩)] (One (Kd.int .i64)) (fun x => !p x) l w := by
  intro W x v hx hW hv
  obtain ⟨c0_, rfl⟩ : ∃ c0_, c0_ = v := ⟨_, rfl⟩
  have hB' : W.cell? ⟨B, 0, none⟩ = some (.func (.func g) #[] lb) := pw_cell_below hW hB
  have HP := Aside0.mk hp
  clear hp hB
  obtain ⟨b, hb⟩ : ∃ b, b = p x := ⟨_, rfl⟩
  have hb0 := Aside0.mk hb
  have HV := Aside0.mk hv
  have HWW := Aside0.mk hW
  clear hv hW
  show Calls Try.prog 130 #[c0_, .pointer (some ⟨B, 0, none⟩)] W fun e W' => e = .returned (.bool (!p x)) ∧ Below W.heap.size W W'
  rw [← hb]
  clear hb
  cases b with
  | true =>
    go_enter Try.func130, Try.ntmps130
    go_wp2_with (go_at_fn g; refine (HP.out _ x _ hx HWW.out HV.out).mono ?_; rw [← hb0.out]; rintro e w' ⟨rfl, hb'⟩)
    go_ret
    exact ⟨rfl, hb'⟩
  | false =>
    go_enter Try.func130, Try.ntmps130
    go_wp2_with (go_at_fn g; refine (HP.out _ x _ hx HWW.out HV.out).mono ?_; rw [← hb0.out]; rintro e w' ⟨rfl, hb'⟩)
    go_ret
    exact ⟨rfl, hb'⟩

/-! ### areAll_Int: function 78 -/
set_option maxHeartbeats 4000000 in
set_option maxRecDepth 100000 in
theorem areAll_Int.calls (A : Option Addr) (c : Nat) (l : List (Int)) (g : Nat) (lb : Array Value) (p : Int → Bool) (w : World) (eg : ∀ args w, (callFunc g args).run Try.prog w = .ok (.enter g args) w)
    (hr : Kd.C (Kd.int .i64) w A l.length l) (hp : PredOn Try.prog g lb (One (Kd.int .i64)) p l w) :
    Calls Try.prog 78 #[.slice A l.length c, .func (.func g) #[] lb] w fun e w' => e = .returned (.bool (l.all p)) ∧ Below w.heap.size w w' := by
  have hb1 : Below w.heap.size w (w.alloc (.cells #[.func (.func g) #[] lb] 110)) := below_alloc (Below.refl _ _) _
  have hp1 := areAll1_Int.pred w.heap.size l g lb p (w.alloc (.cells #[.func (.func g) #[] lb] 110)) eg (by simp) (hp.grown hb1)
  have HR := Aside0.mk (Kd.C_below hr hb1)
  have HP := Aside0.mk hp1
  have HB1 := Aside0.mk hb1
  clear hr hp hp1 hb1
  obtain ⟨b, hb⟩ : ∃ b, b = l.any (fun x => !p x) := ⟨_, rfl⟩
  have hall : l.all p = !b := by rw [hb, List.all_eq_not_any_not]
  rw [hall]
  have hb0 := Aside0.mk hb
  clear hb hall
  have e1 := enters_of Try.func130 (by kernel_rfl) rfl
  cases b with
  | true =>
    go_enter Try.func78, Try.ntmps78
    go_wp2_with (go_at_call 129; refine (anyf_Int.calls A c l _ _ _ _ e1 HR.out HP.out).mono ?_; rw [← hb0.out]; rintro e w' ⟨rfl, hb'⟩)
    go_ret
    exact ⟨rfl, below_step HB1.out hb'⟩
  | false =>
    go_enter Try.func78, Try.ntmps78
    go_wp2_with (go_at_call 129; refine (anyf_Int.calls A c l _ _ _ _ e1 HR.out HP.out).mono ?_; rw [← hb0.out]; rintro e w' ⟨rfl, hb'⟩)
    go_ret
    exact ⟨rfl, below_step HB1.out hb'⟩

/-! ### idxf_Step: function 85 -/
set_option maxHeartbeats 4000000 in
set_option maxRecDepth 100000 in
theorem idxf_Step.calls (A : Option Addr) (c : Nat) (l : List (S84)) (g : Nat) (lb : Array Value) (p : S84 → Bool) (w : World) (eg : ∀ args w, (callFunc g args).run Try.prog w = .ok (.enter g args) w)
    (hr : Kd.C k84 w A l.length l) (hp : PredOn Try.prog g lb (Agg k84) p l w) :
    Calls Try.prog 85 #[.slice A l.length c, .func (.func g) #[] lb] w fun e w' => e = .returned (.int .i64 (idxf p l)) ∧ Below w.heap.size w w' := by
  have hl : l.length ≤ 9223372036854775807 := hr.2.1
  have HR := Aside0.mk hr
  clear hr
  have HP := Aside0.mk hp
  clear hp
  go_enter Try.func85, Try.ntmps85
  go_wp2
  go_loopg [5, 8] l.length (fun gg _ s8 wr => ∃ kk : Nat, kk ≤ l.length ∧ l.length - kk ≤ gg ∧ s8 = .int .i64 kk ∧ Aside0 (Below w.heap.size w wr) ∧ Aside0 (∀ j, (hj : j < l.length) → j < kk → p l[j] = false))
  case atStart => exact ⟨0, Nat.zero_le _, by omega, rfl, ⟨Below.refl _ w⟩, ⟨fun j hj h => absurd h (Nat.not_lt_zero _)⟩⟩
  case round =>
    obtain ⟨kk, hkk, hg, rfl, BW, AA⟩ := hrel
    by_cases hlt : kk < l.length
    · have hltz : (kk : Int) < (l.length : Int) := by omega
      have hmem : l[kk] ∈ l := List.getElem_mem hlt
      obtain ⟨ad, cs, e1, hlen, hK, hcell⟩ := Kd.C_get (Kd.C_below HR.out BW.out) l[kk] (kk : Int) (by omega) (by omega)
      cases e1
      have hrd : l.getD (kk : Int).toNat l[kk] = l[kk] := by simp [hlt]
      rw [hrd] at hK
      replace hlen : cs.length = 3 := hlen
      obtain ⟨c0_, c1_, c2_, rfl⟩ : ∃ c0_ c1_ c2_ : Value, cs = [c0_, c1_, c2_] := list_len3 hlen
      replace hcell : ∀ j u, ([c0_, c1_, c2_] : List Value)[j]? = some u → wr.cell? (ad.add ((kk : Int).toNat * 3 + j)) = some u := hcell
      have h0_ : wr.cell? (ad.add (kk * 3)) = some c0_ := by have := hcell 0 _ rfl; simpa using this
      have h1_ : wr.cell? ⟨(ad.add (kk * 3)).block, (ad.add (kk * 3)).off + 1, none⟩ = some c1_ := by have := hcell 1 _ rfl; rw [show (kk : Int).toNat = kk from by simp] at this; rw [← add_field _ _ 1 (by omega)]; exact this
      have h2_ : wr.cell? ⟨(ad.add (kk * 3)).block, (ad.add (kk * 3)).off + 2, none⟩ = some c2_ := by have := hcell 2 _ rfl; rw [show (kk : Int).toNat = kk from by simp] at this; rw [← add_field _ _ 2 (by omega)]; exact this
      have hcall := HP.out wr l[kk] (.agg #[c0_, c1_, c2_]) hmem BW.out ⟨_, rfl, hK⟩
      clear hcell hK hlen hmem hrd
      have AY : Aside0 (∃ y, y = l[kk]) := ⟨⟨_, rfl⟩⟩
      obtain ⟨⟨y, hy⟩⟩ := AY
      rw [← hy] at hcall
      have HY := Aside0.mk hy
      clear hy
      cases hq : p y with
      | true =>
        rw [hq] at hcall
        have HQ := Aside0.mk hq
        clear hq
        go_wp2_with (go_at_fn g; refine hcall.mono ?_; rintro e w' ⟨rfl, hb'⟩)
        go_ret
        refine ⟨?_, below_step BW.out hb'⟩
        rw [idxf_hit hlt (by rw [← HY.out]; exact HQ.out) (fun j hj => AA.out j (by omega) hj)]
        rfl
      | false =>
        rw [hq] at hcall
        have HQ := Aside0.mk hq
        clear hq
        go_wp2_with (go_at_fn g; refine hcall.mono ?_; rintro e w' ⟨rfl, hb'⟩)
        go_roundg (l.length - (kk + 1))
        case measure => omega
        case rel =>
          refine ⟨kk + 1, by omega, by omega, by go_num, ⟨below_step BW.out hb'⟩, ⟨fun j hj hlt2 => ?_⟩⟩
          by_cases e : j = kk
          · subst e
            rw [← HY.out]; exact HQ.out
          · exact AA.out j hj (by omega)
    · have hltz : ¬ (kk : Int) < (l.length : Int) := by omega
      go_wp2
      go_ret
      refine ⟨?_, BW.out⟩
      rw [idxf_miss (fun j hj => AA.out j hj (by omega))]
      rfl

/-! ### anyf_Step: function 125 -/
set_option maxHeartbeats 4000000 in
set_option maxRecDepth 100000 in
theorem anyf_Step.calls (A : Option Addr) (c : Nat) (l : List (S84)) (g : Nat) (lb : Array Value) (p : S84 → Bool) (w : World) (eg : ∀ args w, (callFunc g args).run Try.prog w = .ok (.enter g args) w)
    (hr : Kd.C k84 w A l.length l) (hp : PredOn Try.prog g lb (Agg k84) p l w) :
    Calls Try.prog 125 #[.slice A l.length c, .func (.func g) #[] lb] w fun e w' => e = .returned (.bool (l.any p)) ∧ Below w.heap.size w w' := by
  rw [← idxf_any p l]
  have HR := Aside0.mk hr
  clear hr
  have HP := Aside0.mk hp
  clear hp
  obtain ⟨i, hi⟩ : ∃ i, i = idxf p l := ⟨_, rfl⟩
  rw [← hi]
  have HI := Aside0.mk hi
  clear hi
  go_enter Try.func125, Try.ntmps125
  go_wp2_with (go_at_call 85; refine (idxf_Step.calls A c l g lb p _ eg HR.out HP.out).mono ?_; rw [← HI.out]; rintro e w' ⟨rfl, hb'⟩)
  go_ret
  exact ⟨rfl, hb'⟩

/-! ### areAll1_Step: function 134 -/
set_option maxHeartbeats 4000000 in
set_option maxRecDepth 100000 in
theorem areAll1_Step.pred (B : Nat) (l : List (S84)) (g : Nat) (lb : Array Value) (p : S84 → Bool) (w : World) (eg : ∀ args w, (callFunc g args).run Try.prog w = .ok (.enter g args) w)
    (hB : w.cell? ⟨B, 0, none⟩ = some (.func (.func g) #[] lb)) (hp : PredOn Try.prog g lb (Agg k84) p l w) :
    PredOn Try.prog 134 #[.pointer (some ⟨B, 0, none⟩)] (Agg k84) (fun x => !p x) l w := by
  intro W x v hx hW hv
  obtain ⟨cs, rfl, hK⟩ := hv
  have hlen : cs.length = 3 := Kd.K_len _ hK
  obtain ⟨c0_, c1_, c2_, rfl⟩ : ∃ c0_ c1_ c2_ : Value, cs = [c0_, c1_, c2_] := list_len3 hlen
  have hB' : W.cell? ⟨B, 0, none⟩ = some (.func (.func g) #[] lb) := pw_cell_below hW hB
  have HP := Aside0.mk hp
  clear hp hB
  obtain ⟨b, hb⟩ : ∃ b, b = p x := ⟨_, rfl⟩
  have hb0 := Aside0.mk hb
  have hK' := Kd.K_below _ (below_alloc (Below.refl W.heap.size W) (.cells #[c0_, c1_, c2_] 84)) hK
  have hgr := Aside0.mk (below_alloc (Below.refl W.heap.size W) (.cells #[c0_, c1_, c2_] 84))
  have HKK := Aside0.mk hK'
  have hB'' := pw_cell_below hgr.out hB'
  have HWW := Aside0.mk hW
  clear hK hK' hW
  show Calls Try.prog 134 #[.agg #[c0_, c1_, c2_], .pointer (some ⟨B, 0, none⟩)] W fun e W' => e = .returned (.bool (!p x)) ∧ Below W.heap.size W W'
  rw [← hb]
  clear hb
  cases b with
  | true =>
    go_enter Try.func134, Try.ntmps134
    go_wp2_with (go_at_fn g; refine (HP.out _ x _ hx (below_step HWW.out hgr.out) ⟨_, rfl, HKK.out⟩).mono ?_; rw [← hb0.out]; rintro e w' ⟨rfl, hb'⟩)
    go_ret
    exact ⟨rfl, below_step hgr.out hb'⟩
  | false =>
    go_enter Try.func134, Try.ntmps134
    go_wp2_with (go_at_fn g; refine (HP.out _ x _ hx (below_step HWW.out hgr.out) ⟨_, rfl, HKK.out⟩).mono ?_; rw [← hb0.out]; rintro e w' ⟨rfl, hb'⟩)
    go_ret
    exact ⟨rfl, below_step hgr.out hb'⟩

/-! ### areAll_Step: function 96 -/
set_option maxHeartbeats 4000000 in
set_option maxRecDepth 100000 in
theorem areAll_Step.calls (A : Option Addr) (c : Nat) (l : List (S84)) (g : Nat) (lb : Array Value) (p : S84 → Bool) (w : World) (eg : ∀ args w, (callFunc g args).run Try.prog w = .ok (.enter g args) w)
    (hr : Kd.C k84 w A l.length l) (hp : PredOn Try.prog g lb (Agg k84) p l w) :
    Calls Try.prog 96 #[.slice A l.length c, .func (.func g) #[] lb] w fun e w' => e = .returned (.bool (l.all p)) ∧ Below w.heap.size w w' := by
  have hb1 : Below w.heap.size w (w.alloc (.cells #[.func (.func g) #[] lb] 114)) := below_alloc (Below.refl _ _) _
  have hp1 := areAll1_Step.pred w.heap.size l g lb p (w.alloc (.cells #[.func (.func g) #[] lb] 114)) eg (by simp) (hp.grown hb1)
  have HR := Aside0.mk (Kd.C_below hr hb1)
  have HP := Aside0.mk hp1
  have HB1 := Aside0.mk hb1
  clear hr hp hp1 hb1
  obtain ⟨b, hb⟩ : ∃ b, b = l.any (fun x => !p x) := ⟨_, rfl⟩
  have hall : l.all p = !b := by rw [hb, List.all_eq_not_any_not]
  rw [hall]
  have hb0 := Aside0.mk hb
  clear hb hall
  have e1 := enters_of Try.func134 (by kernel_rfl) rfl
  cases b with
  | true =>
    go_enter Try.func96, Try.ntmps96
    go_wp2_with (go_at_call 125; refine (anyf_Step.calls A c l _ _ _ _ e1 HR.out HP.out).mono ?_; rw [← hb0.out]; rintro e w' ⟨rfl, hb'⟩)
    go_ret
    exact ⟨rfl, below_step HB1.out hb'⟩
  | false =>
    go_enter Try.func96, Try.ntmps96
    go_wp2_with (go_at_call 125; refine (anyf_Step.calls A c l _ _ _ _ e1 HR.out HP.out).mono ?_; rw [← hb0.out]; rintro e w' ⟨rfl, hb'⟩)
    go_ret
    exact ⟨rfl, below_step HB1.out hb'⟩

/-! ### impl_within: function 109 -/
def impl_within.f (a0:Int) (a1:Int) (a2:Int):Option (Bool):=if a1≤a0 then (some (decide (a0≤a2))) else (some false)
set_option maxHeartbeats 8000000 in
set_option maxRecDepth 100000 in
theorem impl_within.calls (a0:Int) (a1:Int) (a2:Int) (r:Bool) (w:World) (h:impl_within.f a0 a1 a2=some r) :
  Calls Try.prog 109 #[.int .i64 a0,.int .i64 a1,.int .i64 a2] w fun e w'=>e=.returned (.bool r)∧Drawn0 w w':=by
 have H:(if a1≤a0 then (some (decide (a0≤a2))) else (some false))=some r:=h;clear h;by_cases c4:a1≤a0
 ·rw [if_pos c4] at H;have c4b0:decide (a1≤a0)=true:=decide_eq_true c4;clear c4;obtain rfl:=Option.some.inj H;go_enter Try.func109,Try.ntmps109
  go_wp2
  go_ret
  exact ⟨by first|rfl|(simp;done)|(simp [*];done),by repeat (first|exact Drawn0.refl _|apply Drawn0.step)⟩
 ·rw [if_neg c4] at H;have c4b0:decide (a1≤a0)=false:=decide_eq_false c4;clear c4;obtain rfl:=Option.some.inj H;go_enter Try.func109,Try.ntmps109
  go_wp2
  go_ret
  exact ⟨by first|rfl|(simp;done)|(simp [*];done),by repeat (first|exact Drawn0.refl _|apply Drawn0.step)⟩

/-! ### impl_isTxn: function 98 -/
def impl_isTxn.f (a0:Int):Option (Bool):=(impl_within.f a0 0 5).bind fun t200=>(some t200)
set_option maxHeartbeats 8000000 in
set_option maxRecDepth 100000 in
theorem impl_isTxn.calls (a0:Int) (r:Bool) (w:World) (h:impl_isTxn.f a0=some r) :
  Calls Try.prog 98 #[.int .i64 a0] w fun e w'=>e=.returned (.bool r)∧Drawn0 w w':=by
 have H:((impl_within.f a0 0 5).bind fun t200=>(some t200))=some r:=h;clear h;replace H:=Option.bind_eq_some_iff.mp H;obtain ⟨t200,A20,H⟩:=H;replace H:(some t200)=some r:=H;have A2:=qK A20;clear A20;obtain rfl:=Option.some.inj H;go_enter Try.func98,Try.ntmps98
 go_wp2_with (first|((with_reducible refine gate_callee (f:=109) rfl ?_);refine goesL_ (some 4) rfl rfl Try.func109 (by kernel_rfl) rfl #[.int .i64 a0,.int .i64 0,.int .i64 5] rfl (by (try simp only [mT,mC,mN]);first|done|rfl|(simp only [lD,lT];rfl)) ?_;(with_reducible refine (impl_within.calls a0 0 5 t200 _ A2.out).mono ?_);rintro e w' ⟨rfl,⟨nd,rfl⟩⟩;refine ⟨_,rfl,?_⟩))
 go_ret
 exact ⟨by first|rfl|(simp;done)|(simp [*];done),by repeat (first|exact Drawn0.refl _|apply Drawn0.step)⟩

/-! ### areAll_isTxn: function 78, handed function 98 -/
def txnB (x : Int) : Bool := decide (0 ≤ x ∧ x ≤ 5)
theorem isTxn_some (x : Int) : impl_isTxn.f x = some (txnB x) := by
  unfold impl_isTxn.f impl_within.f txnB
  by_cases h1 : (0 : Int) ≤ x <;> by_cases h2 : x ≤ 5 <;> simp [h1, h2]
theorem isTxn_pred (l : List Int) (w : World) : PredOn Try.prog 98 #[] (One (Kd.int .i64)) txnB l w := by
  intro W x v _ _ hv
  obtain rfl : v = .int .i64 x := by simpa using (List.cons.inj hv).1
  exact (impl_isTxn.calls x (txnB x) W (isTxn_some x)).mono fun e W' ⟨he, hd⟩ => ⟨he, hd.below⟩
def areAll_isTxn.f (l : List Int) : Option Bool := some (l.all txnB)
theorem areAll_isTxn.calls (A : Option Addr) (c : Nat) (l : List Int) (r : Bool) (w : World) (hr : Kd.C (Kd.int .i64) w A l.length l) (hc : l.length ≤ c) (h : areAll_isTxn.f l = some r) :
    Calls Try.prog 78 #[.slice A l.length c, .func (.func 98) #[] #[]] w fun e w' => e = .returned (.bool r) ∧ Below w.heap.size w w' := by
  obtain rfl : l.all txnB = r := Option.some.inj h
  exact areAll_Int.calls A c l _ _ _ w (enters_of Try.func98 (by kernel_rfl) rfl) hr (isTxn_pred l w)

/-! ### impl_isStep: function 97 -/
def impl_isStep.f (a0_0:Int) (a0_1:Int) (a0_2:Int):Option (Bool):=(impl_isTxn.f a0_0).bind fun t202=>(if t202=true then ((impl_within.f a0_1 1 2).bind fun t203=>(if t203=true then ((impl_within.f a0_2 0 3).bind fun t204=>(some t204)) else (some false))) else (some false))
set_option maxHeartbeats 8000000 in
set_option maxRecDepth 100000 in
theorem impl_isStep.calls (a0_0:Int) (a0_1:Int) (a0_2:Int) (r:Bool) (w:World) (h:impl_isStep.f a0_0 a0_1 a0_2=some r) :
  Calls Try.prog 97 #[.agg #[.int .i64 a0_0,.int .i64 a0_1,.int .i64 a0_2]] w fun e w'=>e=.returned (.bool r)∧Below w.heap.size w w':=by
 have hu84:=Try.underlying84;have HB:=qK (Below.refl w.heap.size w);have H:((impl_isTxn.f a0_0).bind fun t202=>(if t202=true then ((impl_within.f a0_1 1 2).bind fun t203=>(if t203=true then ((impl_within.f a0_2 0 3).bind fun t204=>(some t204)) else (some false))) else (some false)))=some r:=h;clear h;replace H:=Option.bind_eq_some_iff.mp H;obtain ⟨t202,A20,H⟩:=H;replace H:(if t202=true then ((impl_within.f a0_1 1 2).bind fun t203=>(if t203=true then ((impl_within.f a0_2 0 3).bind fun t204=>(some t204)) else (some false))) else (some false))=some r:=H;have A2:=qK A20;clear A20;by_cases c3:t202=true
 ·subst c3;have H1:((impl_within.f a0_1 1 2).bind fun t203=>(if t203=true then ((impl_within.f a0_2 0 3).bind fun t204=>(some t204)) else (some false)))=some r:=by rw [if_pos rfl] at H;exact H
  clear H;have H:=H1;clear H1;replace H:=Option.bind_eq_some_iff.mp H;obtain ⟨t203,A40,H⟩:=H;replace H:(if t203=true then ((impl_within.f a0_2 0 3).bind fun t204=>(some t204)) else (some false))=some r:=H;have A4:=qK A40;clear A40;by_cases c5:t203=true
  ·subst c5;have H1:((impl_within.f a0_2 0 3).bind fun t204=>(some t204))=some r:=by rw [if_pos rfl] at H;exact H
   clear H;have H:=H1;clear H1;replace H:=Option.bind_eq_some_iff.mp H;obtain ⟨t204,A60,H⟩:=H;replace H:(some t204)=some r:=H;have A6:=qK A60;clear A60;obtain rfl:=Option.some.inj H;go_enter Try.func97,Try.ntmps97
   go_wp2_with (first|((with_reducible refine gate_dst (N:=1) rfl ?_);refine box_event ?hg (N:=1) ?hd (cs:=#[.int .i64 a0_0,.int .i64 a0_1,.int .i64 a0_2]) (t:=84) ?hr ?_;(case hd=>rfl);(case hg=>rfl);(case hr=>(go_simp;try rfl));intro gb201 hg w7 hbox hb;have n0_:=qK (qT (by repeat (with_reducible first|exact HB.out|apply qA|apply qD|apply qO)) hb);have n1_:=qK (hbox);have n2_:=qK ((by rw [hg];exact (qZ (by repeat (with_reducible first|exact HB.out|apply qA|apply qD|apply qO))):w.heap.size≤gb201));have n3_:=qK ((by rw [hg];exact (qZ (by repeat (with_reducible first|exact HB.out|apply qA|apply qD|apply qO))):w.heap.size≤gb201));clear HB;have HB:=n0_;have BK201:=n1_;have GW201:=n2_;have GE201:=n3_;clear n0_ n1_ n2_ n3_;clear hb hbox hg;have hcz8_0:w7.cell? ⟨gb201,0,none⟩=some (.int .i64 a0_0):=(qC BK201.out 0).trans rfl;have hcz8_1:w7.cell? ⟨gb201,1,none⟩=some (.int .i64 a0_1):=(qC BK201.out 1).trans rfl;have hcz8_2:w7.cell? ⟨gb201,2,none⟩=some (.int .i64 a0_2):=(qC BK201.out 2).trans rfl;have hfz8_0:=qF BK201.out 0;have hfz8_1:=qF BK201.out 1;have hfz8_2:=qF BK201.out 2)|((with_reducible refine gate_callee (f:=98) rfl ?_);refine goesL_ (some 5) rfl rfl Try.func98 (by kernel_rfl) rfl #[.int .i64 a0_0] rfl (by (try simp only [mT,mC,mN]);first|done|rfl|(simp only [lD,lT];rfl)) ?_;(with_reducible refine (impl_isTxn.calls a0_0 true _ A2.out).mono ?_);rintro e w' ⟨rfl,⟨nd,rfl⟩⟩;refine ⟨_,rfl,?_⟩)|(go_at_call 109;(with_reducible refine (impl_within.calls a0_1 1 2 true _ A4.out).mono ?_);rintro e w' ⟨rfl,⟨nd,rfl⟩⟩)|(go_at_call 109;(with_reducible refine (impl_within.calls a0_2 0 3 t204 _ A6.out).mono ?_);rintro e w' ⟨rfl,⟨nd,rfl⟩⟩))
   go_ret
   exact ⟨by first|rfl|(simp [errW_none,errW_some] <;> rfl)|(simp [*,errW_none,errW_some] <;> rfl),by repeat (first|(with_reducible first|exact HB.out|apply qA|apply qD|apply qO|refine qS ?_ GE201.out)|exact HB.out)⟩
  ·replace c5:=Bool.eq_false_iff.mpr c5;subst c5;have H1:(some false)=some r:=by rw [if_neg (show ¬ (false=true) by decide)] at H;exact H
   clear H;have H:=H1;clear H1;obtain rfl:=Option.some.inj H;go_enter Try.func97,Try.ntmps97
   go_wp2_with (first|((with_reducible refine gate_dst (N:=1) rfl ?_);refine box_event ?hg (N:=1) ?hd (cs:=#[.int .i64 a0_0,.int .i64 a0_1,.int .i64 a0_2]) (t:=84) ?hr ?_;(case hd=>rfl);(case hg=>rfl);(case hr=>(go_simp;try rfl));intro gb201 hg w9 hbox hb;have n0_:=qK (qT (by repeat (with_reducible first|exact HB.out|apply qA|apply qD|apply qO)) hb);have n1_:=qK (hbox);have n2_:=qK ((by rw [hg];exact (qZ (by repeat (with_reducible first|exact HB.out|apply qA|apply qD|apply qO))):w.heap.size≤gb201));have n3_:=qK ((by rw [hg];exact (qZ (by repeat (with_reducible first|exact HB.out|apply qA|apply qD|apply qO))):w.heap.size≤gb201));clear HB;have HB:=n0_;have BK201:=n1_;have GW201:=n2_;have GE201:=n3_;clear n0_ n1_ n2_ n3_;clear hb hbox hg;have hcz10_0:w9.cell? ⟨gb201,0,none⟩=some (.int .i64 a0_0):=(qC BK201.out 0).trans rfl;have hcz10_1:w9.cell? ⟨gb201,1,none⟩=some (.int .i64 a0_1):=(qC BK201.out 1).trans rfl;have hcz10_2:w9.cell? ⟨gb201,2,none⟩=some (.int .i64 a0_2):=(qC BK201.out 2).trans rfl;have hfz10_0:=qF BK201.out 0;have hfz10_1:=qF BK201.out 1;have hfz10_2:=qF BK201.out 2)|((with_reducible refine gate_callee (f:=98) rfl ?_);refine goesL_ (some 5) rfl rfl Try.func98 (by kernel_rfl) rfl #[.int .i64 a0_0] rfl (by (try simp only [mT,mC,mN]);first|done|rfl|(simp only [lD,lT];rfl)) ?_;(with_reducible refine (impl_isTxn.calls a0_0 true _ A2.out).mono ?_);rintro e w' ⟨rfl,⟨nd,rfl⟩⟩;refine ⟨_,rfl,?_⟩)|(go_at_call 109;(with_reducible refine (impl_within.calls a0_1 1 2 false _ A4.out).mono ?_);rintro e w' ⟨rfl,⟨nd,rfl⟩⟩))
   go_ret
   exact ⟨by first|rfl|(simp [errW_none,errW_some] <;> rfl)|(simp [*,errW_none,errW_some] <;> rfl),by repeat (first|(with_reducible first|exact HB.out|apply qA|apply qD|apply qO|refine qS ?_ GE201.out)|exact HB.out)⟩
 ·replace c3:=Bool.eq_false_iff.mpr c3;subst c3;have H1:(some false)=some r:=by rw [if_neg (show ¬ (false=true) by decide)] at H;exact H
  clear H;have H:=H1;clear H1;obtain rfl:=Option.some.inj H;go_enter Try.func97,Try.ntmps97
  go_wp2_with (first|((with_reducible refine gate_dst (N:=1) rfl ?_);refine box_event ?hg (N:=1) ?hd (cs:=#[.int .i64 a0_0,.int .i64 a0_1,.int .i64 a0_2]) (t:=84) ?hr ?_;(case hd=>rfl);(case hg=>rfl);(case hr=>(go_simp;try rfl));intro gb201 hg w11 hbox hb;have n0_:=qK (qT (by repeat (with_reducible first|exact HB.out|apply qA|apply qD|apply qO)) hb);have n1_:=qK (hbox);have n2_:=qK ((by rw [hg];exact (qZ (by repeat (with_reducible first|exact HB.out|apply qA|apply qD|apply qO))):w.heap.size≤gb201));have n3_:=qK ((by rw [hg];exact (qZ (by repeat (with_reducible first|exact HB.out|apply qA|apply qD|apply qO))):w.heap.size≤gb201));clear HB;have HB:=n0_;have BK201:=n1_;have GW201:=n2_;have GE201:=n3_;clear n0_ n1_ n2_ n3_;clear hb hbox hg;have hcz12_0:w11.cell? ⟨gb201,0,none⟩=some (.int .i64 a0_0):=(qC BK201.out 0).trans rfl;have hcz12_1:w11.cell? ⟨gb201,1,none⟩=some (.int .i64 a0_1):=(qC BK201.out 1).trans rfl;have hcz12_2:w11.cell? ⟨gb201,2,none⟩=some (.int .i64 a0_2):=(qC BK201.out 2).trans rfl;have hfz12_0:=qF BK201.out 0;have hfz12_1:=qF BK201.out 1;have hfz12_2:=qF BK201.out 2)|((with_reducible refine gate_callee (f:=98) rfl ?_);refine goesL_ (some 5) rfl rfl Try.func98 (by kernel_rfl) rfl #[.int .i64 a0_0] rfl (by (try simp only [mT,mC,mN]);first|done|rfl|(simp only [lD,lT];rfl)) ?_;(with_reducible refine (impl_isTxn.calls a0_0 false _ A2.out).mono ?_);rintro e w' ⟨rfl,⟨nd,rfl⟩⟩;refine ⟨_,rfl,?_⟩))
  go_ret
  exact ⟨by first|rfl|(simp [errW_none,errW_some] <;> rfl)|(simp [*,errW_none,errW_some] <;> rfl),by repeat (first|(with_reducible first|exact HB.out|apply qA|apply qD|apply qO|refine qS ?_ GE201.out)|exact HB.out)⟩

/-! ### behind function 97: stepB -/
/-- A good step. -/
def stepB (x : S84) : Bool := decide (0 ≤ x.f0 ∧ x.f0 ≤ 5 ∧ 1 ≤ x.f1 ∧ x.f1 ≤ 2 ∧ 0 ≤ x.f2 ∧ x.f2 ≤ 3)
theorem isStep_some (x : S84) : impl_isStep.f x.f0 x.f1 x.f2 = some (stepB x) := by
  unfold impl_isStep.f impl_isTxn.f impl_within.f stepB
  by_cases h1 : (0 : Int) ≤ x.f0 <;> by_cases h2 : x.f0 ≤ 5 <;> by_cases h3 : (1 : Int) ≤ x.f1 <;> by_cases h4 : x.f1 ≤ 2 <;> by_cases h5 : (0 : Int) ≤ x.f2 <;> simp [h1, h2, h3, h4, h5]
theorem isStep_pred (l : List (S84)) (w : World) : PredOn Try.prog 97 #[] (Agg k84) stepB l w := by
  rintro W x v _ _ ⟨cs, rfl, hK⟩
  obtain rfl := k84_open hK
  exact impl_isStep.calls x.f0 x.f1 x.f2 (stepB x) W (isStep_some x)

/-! ### areAll_isStep: function 96, handed function 97 -/
def areAll_isStep.f (l : List S84) : Option Bool := some (l.all stepB)
theorem areAll_isStep.calls (A : Option Addr) (c : Nat) (l : List S84) (r : Bool) (w : World) (hr : Kd.C k84 w A l.length l) (hc : l.length ≤ c) (h : areAll_isStep.f l = some r) :
    Calls Try.prog 96 #[.slice A l.length c, .func (.func 97) #[] #[]] w fun e w' => e = .returned (.bool r) ∧ Below w.heap.size w w' := by
  obtain rfl : l.all stepB = r := Option.some.inj h
  exact areAll_Step.calls A c l _ _ _ w (enters_of Try.func97 (by kernel_rfl) rfl) hr (isStep_pred l w)

/-! ### impl_setOf: function 99 -/
def impl_setOf.l0 : Nat→Int→List Int→Int→Int→Option (Int)
 | 0,_,_,_,_=>none
 | k + 1,x3,x6,x7,x8=>if x8 < x7 then (if 0≤x8 then (if x8 < (x6.length:Int) then (if 0≤(rd x6 x8) then (impl_setOf.l0 k (Go.bits .or .i64 x3 (shl .i64 1 (rd x6 x8))) x6 x7 (wrap64 (x8 + 1))) else (none)) else (none)) else (none)) else (some x3)
def impl_setOf.f (k:Nat) (l0:List Int):Option (Int):=impl_setOf.l0 k 0 l0 (l0.length:Int) 0
theorem impl_setOf.mono_l : ∀ k,(∀ y0 y1 y2 y3,LeO (impl_setOf.l0 k y0 y1 y2 y3) (impl_setOf.l0 (k + 1) y0 y1 y2 y3))
 | 0=>fun _ _ _ _ r h=>by simp [impl_setOf.l0] at h
 | k + 1=>by
  have ih0:=impl_setOf.mono_l k
  ·intro y0 y1 y2 y3;unfold impl_setOf.l0
   repeat' first
   | (with_reducible exact ih0 _ _ _ _)
   | (with_reducible exact LeO.refl _)
   | (with_reducible exact LeO.none _)
   | (with_reducible refine LeO.ite ?_ ?_)
   | (with_reducible refine LeO.bind ?_ (fun _=>?_))
   | exact ih0 _ _ _ _
   | exact LeO.none _
   | refine LeO.ite ?_ ?_
   | refine LeO.bind ?_ (fun _=>?_)
theorem impl_setOf.mono : ∀ a0 k,LeO (impl_setOf.f k a0) (impl_setOf.f (k + 1) a0):=by
 intro a0 k;have ih0:=impl_setOf.mono_l k;unfold impl_setOf.f
 repeat' first
   | (with_reducible exact ih0 _ _ _ _)
   | (with_reducible exact LeO.refl _)
   | (with_reducible exact LeO.none _)
   | (with_reducible refine LeO.ite ?_ ?_)
   | (with_reducible refine LeO.bind ?_ (fun _=>?_))
   | exact ih0 _ _ _ _
   | exact LeO.none _
   | refine LeO.ite ?_ ?_
   | refine LeO.bind ?_ (fun _=>?_)
set_option maxHeartbeats 8000000 in
set_option maxRecDepth 100000 in
theorem impl_setOf.calls (k:Nat) (A0:Option Addr) (c0:Nat) (l0:List Int) (r:Int) (w:World) (hr0:Kd.C (Kd.int .i64) w A0 l0.length l0) (hc0:l0.length≤c0) (h:impl_setOf.f k l0=some r) :
  Calls Try.prog 99 #[.slice A0 l0.length c0] w fun e w'=>e=.returned (.int .i64 r)∧Drawn0 w w':=by
 have HR0:=qK hr0;have HC0:=qK hc0;clear hr0 hc0;have H:(impl_setOf.l0 k 0 l0 (l0.length:Int) 0)=some r:=h;clear h;have H':=qK H;clear H;go_enter Try.func99,Try.ntmps99
 go_wp2
 go_loopg [3,8] k (fun kq v3 v8 w'=>∃ (x3_1:Int) (x8_1:Int),v3=.int .i64 x3_1∧v8=.int .i64 x8_1∧Aside0 (impl_setOf.l0 kq x3_1 l0 (l0.length:Int) x8_1=some r)∧Aside0 (kq≤k)∧Drawn0 w w')
 case atStart=>exact ⟨(0),(0),(by first|rfl|(simp;done)|(simp [*];done)),(by first|rfl|(simp;done)|(simp [*];done)),H',⟨Nat.le_refl _⟩,by repeat (first|exact Drawn0.refl _|apply Drawn0.step)⟩
 case round =>
  clear H';obtain ⟨x3_1,x8_1,rfl,rfl,HA,HK1,⟨m1,rfl⟩⟩:=hrel;cases gk with
  | zero=>exact absurd HA.out (by simp [impl_setOf.l0])
  | succ k1 =>
   have H:=HA.out;clear HA;simp only [impl_setOf.l0] at H;by_cases c2:x8_1 < (l0.length:Int)
   ·rw [if_pos c2] at H;have c2b0:decide (x8_1 < (l0.length:Int))=true:=decide_eq_true c2;clear c2;by_cases c3:0≤x8_1
    ·rw [if_pos c3] at H;have c3b0:decide (0≤x8_1)=true:=decide_eq_true c3;clear c3;by_cases c4:x8_1 < (l0.length:Int)
     ·rw [if_pos c4] at H;have c4b0:decide (x8_1 < (l0.length:Int))=true:=decide_eq_true c4;clear c4;by_cases c5:0≤(rd l0 x8_1)
      ·rw [if_pos c5] at H;have c5b0:=eq_true c5;have c5b1:decide (0≤(rd l0 x8_1))=true:=decide_eq_true c5;clear c5;obtain ⟨ji6,hji6⟩:∃ j_:Int,(shl .i64 1 (rd l0 x8_1))=j_:=⟨_,rfl⟩;replace H:(impl_setOf.l0 k1 (Go.bits .or .i64 x3_1 (ji6)) l0 (l0.length:Int) (wrap64 (x8_1 + 1)))=some r:=by first|(rw [hji6] at H;exact H)|(simp only [hji6] at H ⊢;exact H)
       have hji6_:(IntKind.i64.wrap (1 * 2 ^ min (rd l0 x8_1).toNat 64))=ji6:=hji6;have hji6z:(rd l0 x8_1)≤64→(IntKind.i64.wrap (1 * 2 ^ (rd l0 x8_1).toNat))=ji6:=shl_small hji6;have hji6u:(IntKind.i64.wrap (2 ^ min (rd l0 x8_1).toNat 64))=ji6:=by have h_:=hji6_;rw [Int.one_mul] at h_;exact h_
       have hji6v:(rd l0 x8_1)≤64→(IntKind.i64.wrap (2 ^ (rd l0 x8_1).toNat))=ji6:=fun hle_=>by have h_:=hji6z hle_;rw [Int.one_mul] at h_;exact h_
       have hji6y:(wrap64 (1 * 2 ^ min (rd l0 x8_1).toNat 64))=ji6:=(i64_w _).symm.trans hji6_;have hji6x:(rd l0 x8_1)≤64→(wrap64 (1 * 2 ^ (rd l0 x8_1).toNat))=ji6:=fun h_=>(i64_w _).symm.trans (hji6z h_)
       have H':=qK H;clear H;have p205:0≤(x8_1:Int):=of_decide_eq_true (by first|(with_reducible assumption)|assumption);have q205:x8_1 < (l0.length:Int):=of_decide_eq_true (by first|(with_reducible assumption)|assumption);obtain ⟨ad205,e205,hx205_0⟩:=Kd.at_int HR0.out x8_1 p205 q205;cases e205
       replace p205:=eq_true p205;replace q205:=eq_true q205;go_wp2
       go_roundg k1
       case measure=>have:=HK1.out;omega
       case rel=>exact ⟨(Go.bits .or .i64 x3_1 (ji6)),(wrap64 (x8_1 + 1)),(by first|rfl|(simp;done)|(simp only [← hji6] <;> (first|rfl|simp))|(simp [*];done)),(by first|rfl|(simp;done)|(simp [*];done)),H',⟨by have:=HK1.out;omega⟩,by repeat (first|exact Drawn0.refl _|apply Drawn0.step)⟩
      ·rw [if_neg c5] at H;exact absurd H (by simp)
     ·rw [if_neg c4] at H;exact absurd H (by simp)
    ·rw [if_neg c3] at H;exact absurd H (by simp)
   ·rw [if_neg c2] at H;have c2b0:decide (x8_1 < (l0.length:Int))=false:=decide_eq_false c2;clear c2;obtain rfl:=Option.some.inj H;go_wp2
    go_ret
    exact ⟨by first|rfl|(simp;done)|(simp [*];done),by repeat (first|exact Drawn0.refl _|apply Drawn0.step)⟩

-- NOT PRINTED: function 160 (slices_Grow_int_int)

/-! ### grow0_Int: function 160, handed function None -/
def grow0_Int.f (n : Int) : Option (List Int) := if 0 ≤ n ∧ n < 1000000000 then some [] else none
set_option maxHeartbeats 4000000 in
set_option maxRecDepth 100000 in
theorem grow0_Int.calls (n : Int) (r : List Int) (w : World) (h : grow0_Int.f n = some r) :
    Calls Try.prog 160 #[.slice none 0 0, .int .i64 n] w fun e w' => ∃ v0_ : Value, e = .returned (v0_) ∧ Kd.R (Kd.int .i64) 3 w' w.heap.size (fun _ => True) v0_ r ∧ Below w.heap.size w w' := by
  unfold grow0_Int.f at h
  split at h
  case isFalse => cases h
  case isTrue hn =>
    obtain ⟨hn0, hn1⟩ := hn
    obtain rfl : [] = r := Option.some.inj h
    clear h
    have HB := Aside0.mk (Below.refl w.heap.size w)
    have hlt : ¬ n < 0 := by omega
    by_cases hp : 0 < n
    · go_enter Try.func160, Try.ntmps160
      go_wp2_with (at_builtin; refine Kd.R_append_zeros (Kd.int .i64) (w0 := w) w.heap.size rfl (.tmp 20) (.tmp 21) 24 3 3 (.int .i64 0) 8 rfl Try.underlying24 Try.underlying3 info3 rfl (by decide) (by omega) (.slice none 0 0) [] 0 n (fun _ => True) rfl rfl rfl (fun _ _ => trivial) (Kd.R_nil _ _ _ _ _) hn0 HB.out (Nat.le_refl _) (by simp; omega) ?_; intro v1 w1 hR hb1 hg1 hat; obtain ⟨A1, c1, ev1⟩ := Kd.R_slice hR; subst ev1; have HR1 := Aside0.mk hR; have HB1 := Aside0.mk hb1; obtain ⟨i0_, hi0_, _, hsz_, _⟩ := info_parts info3; have hcut := cut_to (P := Try.prog) 24 3 .i64 Try.underlying24 hi0_ A1 _ c1 (0 : Int) (by omega) (Int.natCast_nonneg _) (Kd.R_reads' hR).2.1; clear hR hb1 hg1 hat)
      go_ret
      exact ⟨_, rfl, by have h_ := Kd.R_take (m := 0) HR1.out (Nat.zero_le _); simpa using h_, HB1.out⟩
    · obtain rfl : n = 0 := by omega
      go_enter Try.func160, Try.ntmps160
      go_wp2
      go_ret
      exact ⟨_, rfl, Kd.R_nil _ _ _ _ _, HB.out⟩

end Go.Proofs.Ytinjjpakpngaoaa.PFnExactHasLock
