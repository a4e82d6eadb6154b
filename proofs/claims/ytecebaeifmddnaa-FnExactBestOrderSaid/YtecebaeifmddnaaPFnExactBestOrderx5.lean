/-
  A text of this claim's own, printed by a program of the session (wip/tools/xprint.py): functions of the program as Lean functions, each with what its call comes to.
-/
import Derived.Test.YtecebaeifmddnaaPFnExactBestOrderx0
import Derived.Test.YtecebaeifmddnaaPFnExactBestOrderx2
import Derived.Test.YtecebaeifmddnaaPFnExactBestOrderx4
namespace Go.Proofs.Ytecebaeifmddnaa.PFnExactBestOrder
open Go.Proofs.YtecebaeifmddnaaW.PrintWords renaming pw_below_drewN → qD, blk_cell → qC, below_drew1 → qO, below_alloc → qA, blk_frozen → qF, below_set → qS, blk_drewN → qN, blk_alloc → qL, blk_drew → qW, below_size → qZ, below_step → qT, blk_below → qB, blk_far → qR, blk_put → qP
open Go.Proofs.YtecebaeifmddnaaW.PrintWords.Aside0 renaming mk → qK
open Bool renaming true → Y, false → Z
open List renaming setIfInBounds_toArray → sIb, set_cons_zero → sZ, set_cons_succ → sS, map_toArray → mT, map_cons → mC, map_nil → mN, length_drop → lD, length_take → lT
open Go.Proofs.YtecebaeifmddnaaW.PrintWords.Kd renaming C_alloc → cL, C_drewN → cN, C_drew → cW, C_below → cB, R_alloc → rL, R_drewN → rN, R_drew → rW, R_below → rB
open Go.RowKit Go.Proofs.YtecebaeifmddnaaW.PrintWords Go.Proofs.YtecebaeifmddnaaW.PrintLast Go.Proofs.YtecebaeifmddnaaW.PrintMore
attribute [local go_sem] max2_int min2_int max_two min_two max_three min_three max_four min_four   -- for this text's walks alone
set_option linter.unusedVariables false
set_option linter.unusedSimpArgs false

/-! ### spec_BestOf: function 7 -/
def spec_BestOf.j0 : Nat→List Int→Bool→List Int→List (List Int)→Option (List Int × Int × Bool)
 | 0,_,_,_,_=>none
 | k + 1,x1,x23,x237000,x237001=>if x23=true then (some (([]:List Int),0,false)) else ((spec_l12Best.f k x237000 x237001 x1).bind fun t239=>((spec_l12Cost.f k x237000 x237001 t239).bind fun t242=>(some (t239,t242,true))))
def spec_BestOf.f (k:Nat) (l0_0:List Int) (l0_1:List (List Int)) (l1:List Int):Option (List Int × Int × Bool):=(spec_GoodStats.f k l0_0 l0_1).bind fun t237=>(if t237=true then ((spec_l1Some.f k l1 (l0_0.length:Int)).bind fun t238=>(if t238=true then (spec_BestOf.j0 k l1 ((l1.length:Int) == 0) l0_0 l0_1) else (spec_BestOf.j0 k l1 true l0_0 l0_1))) else (spec_BestOf.j0 k l1 true l0_0 l0_1))
theorem spec_BestOf.mono_l : ∀ k,(∀ y0 y1 y2 y3,LeO (spec_BestOf.j0 k y0 y1 y2 y3) (spec_BestOf.j0 (k + 1) y0 y1 y2 y3))
 | 0=>fun _ _ _ _ r h=>by simp [spec_BestOf.j0] at h
 | k + 1=>by
  have ih0:=spec_BestOf.mono_l k
  ·intro y0 y1 y2 y3;unfold spec_BestOf.j0
   repeat' first
   | (with_reducible exact ih0 _ _ _ _)
   | (with_reducible exact spec_GoodStats.mono _ _ _)
   | (with_reducible exact spec_l12Best.mono _ _ _ _)
   | (with_reducible exact spec_l12Cost.mono _ _ _ _)
   | (with_reducible exact spec_l1Some.mono _ _ _)
   | (with_reducible exact LeO.refl _)
   | (with_reducible exact LeO.none _)
   | (with_reducible refine LeO.ite ?_ ?_)
   | (with_reducible refine LeO.bind ?_ (fun _=>?_))
   | exact ih0 _ _ _ _
   | exact spec_GoodStats.mono _ _ _
   | exact spec_l12Best.mono _ _ _ _
   | exact spec_l12Cost.mono _ _ _ _
   | exact spec_l1Some.mono _ _ _
   | exact LeO.none _
   | refine LeO.ite ?_ ?_
   | refine LeO.bind ?_ (fun _=>?_)
theorem spec_BestOf.mono : ∀ a0 a1 a2 k,LeO (spec_BestOf.f k a0 a1 a2) (spec_BestOf.f (k + 1) a0 a1 a2):=by
 intro a0 a1 a2 k;have ih0:=spec_BestOf.mono_l k;unfold spec_BestOf.f
 repeat' first
   | (with_reducible exact ih0 _ _ _ _)
   | (with_reducible exact spec_GoodStats.mono _ _ _)
   | (with_reducible exact spec_l12Best.mono _ _ _ _)
   | (with_reducible exact spec_l12Cost.mono _ _ _ _)
   | (with_reducible exact spec_l1Some.mono _ _ _)
   | (with_reducible exact LeO.refl _)
   | (with_reducible exact LeO.none _)
   | (with_reducible refine LeO.ite ?_ ?_)
   | (with_reducible refine LeO.bind ?_ (fun _=>?_))
   | exact ih0 _ _ _ _
   | exact spec_GoodStats.mono _ _ _
   | exact spec_l12Best.mono _ _ _ _
   | exact spec_l12Cost.mono _ _ _ _
   | exact spec_l1Some.mono _ _ _
   | exact LeO.none _
   | refine LeO.ite ?_ ?_
   | refine LeO.bind ?_ (fun _=>?_)
set_option maxHeartbeats 8000000 in
set_option maxRecDepth 100000 in
theorem spec_BestOf.calls (k:Nat) (A0_0:Option Addr) (c0_0:Nat) (l0_0:List Int) (A0_1:Option Addr) (c0_1:Nat) (l0_1:List (List Int)) (A1:Option Addr) (c1:Nat) (l1:List Int) (r1:List Int) (r2:Int) (r3:Bool) (w:World) (hr0_0:Kd.C (Kd.int .i64) w A0_0 l0_0.length l0_0) (hc0_0:l0_0.length≤c0_0) (hr0_1:Kd.C (Kd.slice 3 (Kd.int .i64)) w A0_1 l0_1.length l0_1) (hc0_1:l0_1.length≤c0_1) (hr1:Kd.C (Kd.int .i64) w A1 l1.length l1) (hc1:l1.length≤c1) (h:spec_BestOf.f k l0_0 l0_1 l1=some (r1,r2,r3)) :
  Calls Try.prog 7 #[.agg #[.slice A0_0 l0_0.length c0_0,.slice A0_1 l0_1.length c0_1],.slice A1 l1.length c1] w fun e w'=>∃ v0_:Value,e=.returned (.tuple #[v0_,.int .i64 r2,.bool r3])∧Kd.R (Kd.int .i64) 3 w' w.heap.size (fun _=>True) v0_ r1∧Below w.heap.size w w':=by
 have hu29:=Try.underlying29;have HR0_0:=qK hr0_0;have HC0_0:=qK hc0_0;clear hr0_0 hc0_0;have HR0_1:=qK hr0_1;have HC0_1:=qK hc0_1;clear hr0_1 hc0_1;have HR1:=qK hr1;have HC1:=qK hc1;clear hr1 hc1;have HB:=qK (Below.refl w.heap.size w);have H:((spec_GoodStats.f k l0_0 l0_1).bind fun t237=>(if t237=true then ((spec_l1Some.f k l1 (l0_0.length:Int)).bind fun t238=>(if t238=true then (spec_BestOf.j0 k l1 ((l1.length:Int) == 0) l0_0 l0_1) else (spec_BestOf.j0 k l1 true l0_0 l0_1))) else (spec_BestOf.j0 k l1 true l0_0 l0_1)))=some (r1,r2,r3):=h;clear h;have HC3:=qK H;clear H;go_enter Try.func7,Try.ntmps7
 go_upto_region 1 with (first|((with_reducible refine gate_dst (N:=2) rfl ?_);(try (refine gate_guard (by rfl) ?_;dsimp only));refine box_event ?hg (N:=2) ?hd (cs:=#[.slice A0_0 l0_0.length c0_0,.slice A0_1 l0_1.length c0_1]) (t:=29) ?hr ?_;(case hd=>rfl);(case hg=>rfl);(case hr=>(go_simp;try rfl));intro gb236 hg w4 hbox hb;have n0_:=qK (qT (by repeat (with_reducible first|exact HB.out|apply qA|apply qD|apply qO)) hb);have n1_:=qK (hbox);have n2_:=qK ((by rw [hg];exact (qZ (by repeat (with_reducible first|exact HB.out|apply qA|apply qD|apply qO))):w.heap.size≤gb236));have n3_:=qK ((by rw [hg];exact (qZ (by repeat (with_reducible first|exact HB.out|apply qA|apply qD|apply qO))):w.heap.size≤gb236));clear HB;have HB:=n0_;have BK236:=n1_;have GW236:=n2_;have GE236:=n3_;clear n0_ n1_ n2_ n3_;clear hb hbox hg))
 (try simp only [Act.put,List.setIfInBounds_toArray,List.set_cons_zero,List.set_cons_succ]);go_cut [23] (fun v23 wc=>∃ (kq:Nat) (x23_2:Bool),v23=.bool x23_2∧Aside0 (spec_BestOf.j0 kq l1 x23_2 l0_0 l0_1=some (r1,r2,r3))∧Aside0 (kq≤k)∧Aside0 (wc.heap[gb236]?=some (.cells #[(.slice A0_0 l0_0.length c0_0),(.slice A0_1 l0_1.length c0_1)] 29 (0,0)))∧Aside0 (Below w.heap.size w wc))
 case first =>
  have H:=HC3.out;clear HC3;replace H:=Option.bind_eq_some_iff.mp H;obtain ⟨t237,A50,H⟩:=H;replace H:(if t237=true then ((spec_l1Some.f k l1 (l0_0.length:Int)).bind fun t238=>(if t238=true then (spec_BestOf.j0 k l1 ((l1.length:Int) == 0) l0_0 l0_1) else (spec_BestOf.j0 k l1 true l0_0 l0_1))) else (spec_BestOf.j0 k l1 true l0_0 l0_1))=some (r1,r2,r3):=H;have A5:=qK A50;clear A50;by_cases c6:t237=true
  ·subst c6;have H1:((spec_l1Some.f k l1 (l0_0.length:Int)).bind fun t238=>(if t238=true then (spec_BestOf.j0 k l1 ((l1.length:Int) == 0) l0_0 l0_1) else (spec_BestOf.j0 k l1 true l0_0 l0_1)))=some (r1,r2,r3):=by rw [if_pos rfl] at H;exact H
   clear H;have H:=H1;clear H1;replace H:=Option.bind_eq_some_iff.mp H;obtain ⟨t238,A70,H⟩:=H;replace H:(if t238=true then (spec_BestOf.j0 k l1 ((l1.length:Int) == 0) l0_0 l0_1) else (spec_BestOf.j0 k l1 true l0_0 l0_1))=some (r1,r2,r3):=H;have A7:=qK A70;clear A70;by_cases c8:t238=true
   ·subst c8;have H1:(spec_BestOf.j0 k l1 ((l1.length:Int) == 0) l0_0 l0_1)=some (r1,r2,r3):=by rw [if_pos rfl] at H;exact H
    clear H;have H:=H1;clear H1;have H':=qK H;clear H;have hcz9_0:w4.cell? ⟨gb236,0,none⟩=some (.slice A0_0 l0_0.length c0_0):=(qC BK236.out 0).trans rfl;have hcz9_1:w4.cell? ⟨gb236,1,none⟩=some (.slice A0_1 l0_1.length c0_1):=(qC BK236.out 1).trans rfl;have hfz9_0:=qF BK236.out 0;have hfz9_1:=qF BK236.out 1;go_wp2_with (first|((with_reducible refine gate_callee (f:=23) rfl ?_);refine goesL_ (some 9) rfl rfl Try.func23 (by kernel_rfl) rfl #[.agg #[.slice A0_0 l0_0.length c0_0,.slice A0_1 l0_1.length c0_1]] rfl (by (try simp only [mT,mC,mN]);first|done|rfl|(simp only [lD,lT];rfl)) ?_;(with_reducible refine (spec_GoodStats.calls k _ _ l0_0 _ _ l0_1 true _ ?side1 ?side2 ?side3 ?side4 A5.out).mono ?_);(case side1=>repeat (first|exact (cB HR0_0.out HB.out)|(with_reducible first|refine cL ?_ _|refine cN ?_ _|refine cW ?_)));(case side2=>exact HC0_0.out);(case side3=>repeat (first|exact (cB HR0_1.out HB.out)|(with_reducible first|refine cL ?_ _|refine cN ?_ _|refine cW ?_)));(case side4=>exact HC0_1.out);rintro e w10 ⟨rfl,hb⟩;refine ⟨_,rfl,?_⟩;have n0_:=qK (qB (g:=gb236) (o:=_) (by (with_reducible repeat (first|refine qN ?_ _|refine qW ?_|refine qL ?_ _));exact BK236.out) hb);have n1_:=qK (qT (by repeat (with_reducible first|exact HB.out|apply qA|apply qD|apply qO|refine qS ?_ GE236.out)) hb);clear BK236;clear HB;have BK236:=n0_;have HB:=n1_;clear n0_ n1_;(try clear hb);have hcz11_0:w10.cell? ⟨gb236,0,none⟩=some (.slice A0_0 l0_0.length c0_0):=(qC BK236.out 0).trans rfl;have hcz11_1:w10.cell? ⟨gb236,1,none⟩=some (.slice A0_1 l0_1.length c0_1):=(qC BK236.out 1).trans rfl;have hfz11_0:=qF BK236.out 0;have hfz11_1:=qF BK236.out 1)|(go_at_call 30;(with_reducible refine (spec_l1Some.calls k _ _ l1 (l0_0.length:Int) true _ ?side1 ?side2 A7.out).mono ?_);(case side1=>repeat (first|exact (cB HR1.out HB.out)|(with_reducible first|refine cL ?_ _|refine cN ?_ _|refine cW ?_)));(case side2=>exact HC1.out);rintro e w' ⟨rfl,⟨nd,rfl⟩⟩))
    go_meet
    case rel=>exact ⟨_,(((l1.length:Int) == 0)),(by first|rfl|(simp;done)|(simp [*];done)),H',⟨by first|omega|exact Nat.le_refl _⟩,⟨by (with_reducible repeat (first|refine qN ?_ _|refine qW ?_|refine qL ?_ _));exact BK236.out⟩,⟨by repeat (first|(with_reducible first|exact HB.out|apply qA|apply qD|apply qO|refine qS ?_ GE236.out)|exact HB.out)⟩⟩
   ·replace c8:=Bool.eq_false_iff.mpr c8;subst c8;have H1:(spec_BestOf.j0 k l1 true l0_0 l0_1)=some (r1,r2,r3):=by rw [if_neg (show ¬ (false=true) by decide)] at H;exact H
    clear H;have H:=H1;clear H1;have H':=qK H;clear H;have hcz12_0:w4.cell? ⟨gb236,0,none⟩=some (.slice A0_0 l0_0.length c0_0):=(qC BK236.out 0).trans rfl;have hcz12_1:w4.cell? ⟨gb236,1,none⟩=some (.slice A0_1 l0_1.length c0_1):=(qC BK236.out 1).trans rfl;have hfz12_0:=qF BK236.out 0;have hfz12_1:=qF BK236.out 1;go_wp2_with (first|((with_reducible refine gate_callee (f:=23) rfl ?_);refine goesL_ (some 9) rfl rfl Try.func23 (by kernel_rfl) rfl #[.agg #[.slice A0_0 l0_0.length c0_0,.slice A0_1 l0_1.length c0_1]] rfl (by (try simp only [mT,mC,mN]);first|done|rfl|(simp only [lD,lT];rfl)) ?_;(with_reducible refine (spec_GoodStats.calls k _ _ l0_0 _ _ l0_1 true _ ?side1 ?side2 ?side3 ?side4 A5.out).mono ?_);(case side1=>repeat (first|exact (cB HR0_0.out HB.out)|(with_reducible first|refine cL ?_ _|refine cN ?_ _|refine cW ?_)));(case side2=>exact HC0_0.out);(case side3=>repeat (first|exact (cB HR0_1.out HB.out)|(with_reducible first|refine cL ?_ _|refine cN ?_ _|refine cW ?_)));(case side4=>exact HC0_1.out);rintro e w13 ⟨rfl,hb⟩;refine ⟨_,rfl,?_⟩;have n0_:=qK (qB (g:=gb236) (o:=_) (by (with_reducible repeat (first|refine qN ?_ _|refine qW ?_|refine qL ?_ _));exact BK236.out) hb);have n1_:=qK (qT (by repeat (with_reducible first|exact HB.out|apply qA|apply qD|apply qO|refine qS ?_ GE236.out)) hb);clear BK236;clear HB;have BK236:=n0_;have HB:=n1_;clear n0_ n1_;(try clear hb);have hcz14_0:w13.cell? ⟨gb236,0,none⟩=some (.slice A0_0 l0_0.length c0_0):=(qC BK236.out 0).trans rfl;have hcz14_1:w13.cell? ⟨gb236,1,none⟩=some (.slice A0_1 l0_1.length c0_1):=(qC BK236.out 1).trans rfl;have hfz14_0:=qF BK236.out 0;have hfz14_1:=qF BK236.out 1)|(go_at_call 30;(with_reducible refine (spec_l1Some.calls k _ _ l1 (l0_0.length:Int) false _ ?side1 ?side2 A7.out).mono ?_);(case side1=>repeat (first|exact (cB HR1.out HB.out)|(with_reducible first|refine cL ?_ _|refine cN ?_ _|refine cW ?_)));(case side2=>exact HC1.out);rintro e w' ⟨rfl,⟨nd,rfl⟩⟩))
    go_meet
    case rel=>exact ⟨_,(true),(by first|rfl|(simp;done)|(simp [*];done)),H',⟨by first|omega|exact Nat.le_refl _⟩,⟨by (with_reducible repeat (first|refine qN ?_ _|refine qW ?_|refine qL ?_ _));exact BK236.out⟩,⟨by repeat (first|(with_reducible first|exact HB.out|apply qA|apply qD|apply qO|refine qS ?_ GE236.out)|exact HB.out)⟩⟩
  ·replace c6:=Bool.eq_false_iff.mpr c6;subst c6;have H1:(spec_BestOf.j0 k l1 true l0_0 l0_1)=some (r1,r2,r3):=by rw [if_neg (show ¬ (false=true) by decide)] at H;exact H
   clear H;have H:=H1;clear H1;have H':=qK H;clear H;have hcz15_0:w4.cell? ⟨gb236,0,none⟩=some (.slice A0_0 l0_0.length c0_0):=(qC BK236.out 0).trans rfl;have hcz15_1:w4.cell? ⟨gb236,1,none⟩=some (.slice A0_1 l0_1.length c0_1):=(qC BK236.out 1).trans rfl;have hfz15_0:=qF BK236.out 0;have hfz15_1:=qF BK236.out 1;go_wp2_with (first|((with_reducible refine gate_callee (f:=23) rfl ?_);refine goesL_ (some 9) rfl rfl Try.func23 (by kernel_rfl) rfl #[.agg #[.slice A0_0 l0_0.length c0_0,.slice A0_1 l0_1.length c0_1]] rfl (by (try simp only [mT,mC,mN]);first|done|rfl|(simp only [lD,lT];rfl)) ?_;(with_reducible refine (spec_GoodStats.calls k _ _ l0_0 _ _ l0_1 false _ ?side1 ?side2 ?side3 ?side4 A5.out).mono ?_);(case side1=>repeat (first|exact (cB HR0_0.out HB.out)|(with_reducible first|refine cL ?_ _|refine cN ?_ _|refine cW ?_)));(case side2=>exact HC0_0.out);(case side3=>repeat (first|exact (cB HR0_1.out HB.out)|(with_reducible first|refine cL ?_ _|refine cN ?_ _|refine cW ?_)));(case side4=>exact HC0_1.out);rintro e w16 ⟨rfl,hb⟩;refine ⟨_,rfl,?_⟩;have n0_:=qK (qB (g:=gb236) (o:=_) (by (with_reducible repeat (first|refine qN ?_ _|refine qW ?_|refine qL ?_ _));exact BK236.out) hb);have n1_:=qK (qT (by repeat (with_reducible first|exact HB.out|apply qA|apply qD|apply qO|refine qS ?_ GE236.out)) hb);clear BK236;clear HB;have BK236:=n0_;have HB:=n1_;clear n0_ n1_;(try clear hb)))
   go_meet
   case rel=>exact ⟨_,(true),(by first|rfl|(simp;done)|(simp [*];done)),H',⟨by first|omega|exact Nat.le_refl _⟩,⟨by (with_reducible repeat (first|refine qN ?_ _|refine qW ?_|refine qL ?_ _));exact BK236.out⟩,⟨by repeat (first|(with_reducible first|exact HB.out|apply qA|apply qD|apply qO|refine qS ?_ GE236.out)|exact HB.out)⟩⟩
 case rest =>
  clear HC3;try clear c1
  try clear c2
  try clear p2
  try clear c6
  try clear c7
  try clear c8
  try clear hcz11_0
  try clear hcz11_1
  try clear hcz12_0
  try clear hcz12_1
  try clear hcz14_0
  try clear hcz14_1
  try clear hcz15_0
  try clear hcz15_1
  try clear hcz9_0
  try clear hcz9_1
  try clear hfz11_0
  try clear hfz11_1
  try clear hfz12_0
  try clear hfz12_1
  try clear hfz14_0
  try clear hfz14_1
  try clear hfz15_0
  try clear hfz15_1
  try clear hfz9_0
  try clear hfz9_1
  obtain ⟨kq,x23_2,rfl,HA,HJ2,BK236,HB⟩:=hcut;cases kq with
  | zero=>exact absurd HA.out (by simp [spec_BestOf.j0])
  | succ kj2 =>
   have H:=HA.out;clear HA;simp only [spec_BestOf.j0] at H;by_cases c17:x23_2=true
   ·subst c17;have H1:(some (([]:List Int),0,false))=some (r1,r2,r3):=by rw [if_pos rfl] at H;exact H
    clear H;have H:=H1;clear H1;simp only [Option.some.injEq,Prod.mk.injEq] at H;obtain ⟨rfl,rfl,rfl⟩:=H;go_wp2
    go_ret3
    exact ⟨_,by first|rfl|(simp [errW_none,errW_some] <;> rfl)|(simp [*,errW_none,errW_some] <;> rfl),by first|exact Kd.R_nil _ _ _ _ _|exact Kd.N_nil _ _ _ _ _|exact Kd.V_nil _ _ _ _ _|exact Kd.Q_nil _ _ _ _ _|exact Kd.S_nil _ _ _ _ _,by repeat (first|(with_reducible first|exact HB.out|apply qA|apply qD|apply qO|refine qS ?_ GE236.out)|exact HB.out)⟩
   ·replace c17:=Bool.eq_false_iff.mpr c17;subst c17;have H1:((spec_l12Best.f kj2 l0_0 l0_1 l1).bind fun t239=>((spec_l12Cost.f kj2 l0_0 l0_1 t239).bind fun t242=>(some (t239,t242,true))))=some (r1,r2,r3):=by rw [if_neg (show ¬ (false=true) by decide)] at H;exact H
    clear H;have H:=H1;clear H1;replace H:=Option.bind_eq_some_iff.mp H;obtain ⟨t239,A180,H⟩:=H;replace H:((spec_l12Cost.f kj2 l0_0 l0_1 t239).bind fun t242=>(some (t239,t242,true)))=some (r1,r2,r3):=H;have A18:=qK A180;clear A180;replace H:=Option.bind_eq_some_iff.mp H;obtain ⟨t242,A190,H⟩:=H;replace H:(some (t239,t242,true))=some (r1,r2,r3):=H;have A19:=qK A190;clear A190;simp only [Option.some.injEq,Prod.mk.injEq] at H;obtain ⟨rfl,rfl,rfl⟩:=H;have hcz20_0:wc.cell? ⟨gb236,0,none⟩=some (.slice A0_0 l0_0.length c0_0):=(qC BK236.out 0).trans rfl;have hcz20_1:wc.cell? ⟨gb236,1,none⟩=some (.slice A0_1 l0_1.length c0_1):=(qC BK236.out 1).trans rfl;have hfz20_0:=qF BK236.out 0;have hfz20_1:=qF BK236.out 1;go_wp2_with (first|((with_reducible refine gate_callee (f:=31) rfl ?_);refine goesL_ (some 26) rfl rfl Try.func31 (by kernel_rfl) rfl #[.agg #[.slice A0_0 l0_0.length c0_0,.slice A0_1 l0_1.length c0_1],.slice A1 l1.length c1] rfl (by (try simp only [mT,mC,mN]);first|done|rfl|(simp only [lD,lT];rfl)) ?_;(with_reducible refine (spec_l12Best.calls kj2 _ _ l0_0 _ _ l0_1 _ _ l1 t239 _ ?side1 ?side2 ?side3 ?side4 ?side5 ?side6 A18.out).mono ?_);(case side1=>repeat (first|exact (cB HR0_0.out HB.out)|(with_reducible first|refine cL ?_ _|refine cN ?_ _|refine cW ?_)));(case side2=>exact HC0_0.out);(case side3=>repeat (first|exact (cB HR0_1.out HB.out)|(with_reducible first|refine cL ?_ _|refine cN ?_ _|refine cW ?_)));(case side4=>exact HC0_1.out);(case side5=>repeat (first|exact (cB HR1.out HB.out)|(with_reducible first|refine cL ?_ _|refine cN ?_ _|refine cW ?_)));(case side6=>exact HC1.out);rintro e w21 ⟨v240,rfl,ho0,hb⟩;refine ⟨_,rfl,?_⟩;have n0_:=qK (Kd.R_lower ho0 (qZ (by repeat (with_reducible first|exact HB.out|apply qA|apply qD|apply qO|refine qS ?_ GE236.out))));have n1_:=qK (qB (g:=gb236) (o:=_) (by (with_reducible repeat (first|refine qN ?_ _|refine qW ?_|refine qL ?_ _));exact BK236.out) hb);have n2_:=qK (qT (by repeat (with_reducible first|exact HB.out|apply qA|apply qD|apply qO|refine qS ?_ GE236.out)) hb);clear BK236;clear HB;have HO241:=n0_;have BK236:=n1_;have HB:=n2_;clear n0_ n1_ n2_;(try clear hb);(try clear ho0);have hcz22_0:w21.cell? ⟨gb236,0,none⟩=some (.slice A0_0 l0_0.length c0_0):=(qC BK236.out 0).trans rfl;have hcz22_1:w21.cell? ⟨gb236,1,none⟩=some (.slice A0_1 l0_1.length c0_1):=(qC BK236.out 1).trans rfl;have hfz22_0:=qF BK236.out 0;have hfz22_1:=qF BK236.out 1;obtain ⟨Ao23,co23,eo23⟩:=Kd.R_slice HO241.out;subst eo23)|((with_reducible refine gate_callee (f:=32) rfl ?_);refine goesL_ (some 30) rfl rfl Try.func32 (by kernel_rfl) rfl #[.agg #[.slice A0_0 l0_0.length c0_0,.slice A0_1 l0_1.length c0_1],.slice Ao23 t239.length co23] rfl (by (try simp only [mT,mC,mN]);first|done|rfl|(simp only [lD,lT];rfl)) ?_;(with_reducible refine (spec_l12Cost.calls kj2 _ _ l0_0 _ _ l0_1 _ _ t239 t242 _ ?side1 ?side2 ?side3 ?side4 ?side5 ?side6 A19.out).mono ?_);(case side1=>repeat (first|exact (cB HR0_0.out HB.out)|(with_reducible first|refine cL ?_ _|refine cN ?_ _|refine cW ?_)));(case side2=>exact HC0_0.out);(case side3=>repeat (first|exact (cB HR0_1.out HB.out)|(with_reducible first|refine cL ?_ _|refine cN ?_ _|refine cW ?_)));(case side4=>exact HC0_1.out);(case side5=>repeat (first|exact (Kd.R_reads' HO241.out).2.2|(with_reducible first|refine cL ?_ _|refine cN ?_ _|refine cW ?_)));(case side6=>exact (Kd.R_reads' HO241.out).2.1);rintro e w24 ⟨rfl,hb⟩;refine ⟨_,rfl,?_⟩;have n0_:=qK (rB (by (with_reducible repeat (first|apply rL|apply rN|apply rW));exact HO241.out) hb);have n1_:=qK (qB (g:=gb236) (o:=_) (by (with_reducible repeat (first|refine qN ?_ _|refine qW ?_|refine qL ?_ _));exact BK236.out) hb);have n2_:=qK (qT (by repeat (with_reducible first|exact HB.out|apply qA|apply qD|apply qO|refine qS ?_ GE236.out)) hb);clear HO241;clear BK236;clear HB;have HO241:=n0_;have BK236:=n1_;have HB:=n2_;clear n0_ n1_ n2_;(try clear hb)))
    go_ret3
    exact ⟨_,by first|rfl|(simp [errW_none,errW_some] <;> rfl)|(simp [*,errW_none,errW_some] <;> rfl),by (with_reducible repeat (first|apply rL|apply rN|apply rW));exact HO241.out,by repeat (first|(with_reducible first|exact HB.out|apply qA|apply qD|apply qO|refine qS ?_ GE236.out)|exact HB.out)⟩

/-! ### spec_BestOrder: function 16 -/
def spec_BestOrder.l0 : Nat→List Int→Int→Int→List Int→List (List Int)→Option (List Int × Int × Bool)
 | 0,_,_,_,_,_=>none
 | k + 1,x5,x12,x13,x244000,x244001=>if x13 < x12 then (if x5.length < 17592186044416 then (spec_BestOrder.l0 k (x5 ++ [x13]) x12 (wrap64 (x13 + 1)) x244000 x244001) else (none)) else ((spec_BestOf.f k x244000 x244001 x5).bind fun bt248=>(some (bt248.1,bt248.2.1,bt248.2.2)))
def spec_BestOrder.f (k:Nat) (l0_0:List Int) (l0_1:List (List Int)):Option (List Int × Int × Bool):=(spec_GoodStats.f k l0_0 l0_1).bind fun t244=>(if t244=true then (spec_BestOrder.l0 k ([]:List Int) (l0_0.length:Int) 0 l0_0 l0_1) else (some (([]:List Int),0,false)))
theorem spec_BestOrder.mono_l : ∀ k,(∀ y0 y1 y2 y3 y4,LeO (spec_BestOrder.l0 k y0 y1 y2 y3 y4) (spec_BestOrder.l0 (k + 1) y0 y1 y2 y3 y4))
 | 0=>fun _ _ _ _ _ r h=>by simp [spec_BestOrder.l0] at h
 | k + 1=>by
  have ih0:=spec_BestOrder.mono_l k
  ·intro y0 y1 y2 y3 y4;unfold spec_BestOrder.l0
   repeat' first
   | (with_reducible exact ih0 _ _ _ _ _)
   | (with_reducible exact spec_BestOf.mono _ _ _ _)
   | (with_reducible exact spec_GoodStats.mono _ _ _)
   | (with_reducible exact LeO.refl _)
   | (with_reducible exact LeO.none _)
   | (with_reducible refine LeO.ite ?_ ?_)
   | (with_reducible refine LeO.bind ?_ (fun _=>?_))
   | exact ih0 _ _ _ _ _
   | exact spec_BestOf.mono _ _ _ _
   | exact spec_GoodStats.mono _ _ _
   | exact LeO.none _
   | refine LeO.ite ?_ ?_
   | refine LeO.bind ?_ (fun _=>?_)
theorem spec_BestOrder.mono : ∀ a0 a1 k,LeO (spec_BestOrder.f k a0 a1) (spec_BestOrder.f (k + 1) a0 a1):=by
 intro a0 a1 k;have ih0:=spec_BestOrder.mono_l k;unfold spec_BestOrder.f
 repeat' first
   | (with_reducible exact ih0 _ _ _ _ _)
   | (with_reducible exact spec_BestOf.mono _ _ _ _)
   | (with_reducible exact spec_GoodStats.mono _ _ _)
   | (with_reducible exact LeO.refl _)
   | (with_reducible exact LeO.none _)
   | (with_reducible refine LeO.ite ?_ ?_)
   | (with_reducible refine LeO.bind ?_ (fun _=>?_))
   | exact ih0 _ _ _ _ _
   | exact spec_BestOf.mono _ _ _ _
   | exact spec_GoodStats.mono _ _ _
   | exact LeO.none _
   | refine LeO.ite ?_ ?_
   | refine LeO.bind ?_ (fun _=>?_)
set_option maxHeartbeats 8000000 in
set_option maxRecDepth 100000 in
theorem spec_BestOrder.calls (k:Nat) (A0_0:Option Addr) (c0_0:Nat) (l0_0:List Int) (A0_1:Option Addr) (c0_1:Nat) (l0_1:List (List Int)) (r1:List Int) (r2:Int) (r3:Bool) (w:World) (hr0_0:Kd.C (Kd.int .i64) w A0_0 l0_0.length l0_0) (hc0_0:l0_0.length≤c0_0) (hr0_1:Kd.C (Kd.slice 3 (Kd.int .i64)) w A0_1 l0_1.length l0_1) (hc0_1:l0_1.length≤c0_1) (h:spec_BestOrder.f k l0_0 l0_1=some (r1,r2,r3)) :
  Calls Try.prog 16 #[.agg #[.slice A0_0 l0_0.length c0_0,.slice A0_1 l0_1.length c0_1]] w fun e w'=>∃ v0_:Value,e=.returned (.tuple #[v0_,.int .i64 r2,.bool r3])∧Kd.R (Kd.int .i64) 3 w' w.heap.size (fun _=>True) v0_ r1∧Below w.heap.size w w':=by
 have hu29:=Try.underlying29;have HR0_0:=qK hr0_0;have HC0_0:=qK hc0_0;clear hr0_0 hc0_0;have HR0_1:=qK hr0_1;have HC0_1:=qK hc0_1;clear hr0_1 hc0_1;have HB:=qK (Below.refl w.heap.size w);have H:((spec_GoodStats.f k l0_0 l0_1).bind fun t244=>(if t244=true then (spec_BestOrder.l0 k ([]:List Int) (l0_0.length:Int) 0 l0_0 l0_1) else (some (([]:List Int),0,false))))=some (r1,r2,r3):=h;clear h;replace H:=Option.bind_eq_some_iff.mp H;obtain ⟨t244,A20,H⟩:=H;replace H:(if t244=true then (spec_BestOrder.l0 k ([]:List Int) (l0_0.length:Int) 0 l0_0 l0_1) else (some (([]:List Int),0,false)))=some (r1,r2,r3):=H;have A2:=qK A20;clear A20;by_cases c3:t244=true
 ·subst c3;have H1:(spec_BestOrder.l0 k ([]:List Int) (l0_0.length:Int) 0 l0_0 l0_1)=some (r1,r2,r3):=by rw [if_pos rfl] at H;exact H
  clear H;have H:=H1;clear H1;have H':=qK H;clear H;go_enter Try.func16,Try.ntmps16
  go_wp2_with (first|((with_reducible refine gate_dst (N:=1) rfl ?_);refine box_event ?hg (N:=1) ?hd (cs:=#[.slice A0_0 l0_0.length c0_0,.slice A0_1 l0_1.length c0_1]) (t:=29) ?hr ?_;(case hd=>rfl);(case hg=>rfl);(case hr=>(go_simp;try rfl));intro gb243 hg w4 hbox hb;have n0_:=qK (qT (by repeat (with_reducible first|exact HB.out|apply qA|apply qD|apply qO)) hb);have n1_:=qK (hbox);have n2_:=qK ((by rw [hg];exact (qZ (by repeat (with_reducible first|exact HB.out|apply qA|apply qD|apply qO))):w.heap.size≤gb243));have n3_:=qK ((by rw [hg];exact (qZ (by repeat (with_reducible first|exact HB.out|apply qA|apply qD|apply qO))):w.heap.size≤gb243));clear HB;have HB:=n0_;have BK243:=n1_;have GW243:=n2_;have GE243:=n3_;clear n0_ n1_ n2_ n3_;clear hb hbox hg;have hcz5_0:w4.cell? ⟨gb243,0,none⟩=some (.slice A0_0 l0_0.length c0_0):=(qC BK243.out 0).trans rfl;have hcz5_1:w4.cell? ⟨gb243,1,none⟩=some (.slice A0_1 l0_1.length c0_1):=(qC BK243.out 1).trans rfl;have hfz5_0:=qF BK243.out 0;have hfz5_1:=qF BK243.out 1)|((with_reducible refine gate_callee (f:=23) rfl ?_);refine goesL_ (some 8) rfl rfl Try.func23 (by kernel_rfl) rfl #[.agg #[.slice A0_0 l0_0.length c0_0,.slice A0_1 l0_1.length c0_1]] rfl (by (try simp only [mT,mC,mN]);first|done|rfl|(simp only [lD,lT];rfl)) ?_;(with_reducible refine (spec_GoodStats.calls k _ _ l0_0 _ _ l0_1 true _ ?side1 ?side2 ?side3 ?side4 A2.out).mono ?_);(case side1=>repeat (first|exact (cB HR0_0.out HB.out)|(with_reducible first|refine cL ?_ _|refine cN ?_ _|refine cW ?_)));(case side2=>exact HC0_0.out);(case side3=>repeat (first|exact (cB HR0_1.out HB.out)|(with_reducible first|refine cL ?_ _|refine cN ?_ _|refine cW ?_)));(case side4=>exact HC0_1.out);rintro e w6 ⟨rfl,hb⟩;refine ⟨_,rfl,?_⟩;have n0_:=qK (qB (g:=gb243) (o:=_) (by (with_reducible repeat (first|refine qN ?_ _|refine qW ?_|refine qL ?_ _));exact BK243.out) hb);have n1_:=qK (qT (by repeat (with_reducible first|exact HB.out|apply qA|apply qD|apply qO|refine qS ?_ GE243.out)) hb);clear BK243;clear HB;have BK243:=n0_;have HB:=n1_;clear n0_ n1_;(try clear hb);have hcz7_0:w6.cell? ⟨gb243,0,none⟩=some (.slice A0_0 l0_0.length c0_0):=(qC BK243.out 0).trans rfl;have hcz7_1:w6.cell? ⟨gb243,1,none⟩=some (.slice A0_1 l0_1.length c0_1):=(qC BK243.out 1).trans rfl;have hfz7_0:=qF BK243.out 0;have hfz7_1:=qF BK243.out 1))
  go_loopg [5,13] k (fun kq v5 v13 w'=>∃ (x5_1:List Int) (x13_1:Int),v13=.int .i64 x13_1∧Aside0 (spec_BestOrder.l0 kq x5_1 (l0_0.length:Int) x13_1 l0_0 l0_1=some (r1,r2,r3))∧Aside0 (kq≤k)∧Aside0 (Kd.R (Kd.int .i64) 3 w' w.heap.size (fun _=>True) v5 x5_1)∧Aside0 (w'.heap[gb243]?=some (.cells #[(.slice A0_0 l0_0.length c0_0),(.slice A0_1 l0_1.length c0_1)] 29 (0,0)))∧Aside0 (Below w.heap.size w w'))
  case atStart=>exact ⟨(([]:List Int)),(0),(by first|rfl|(simp;done)|(simp [*];done)),H',⟨Nat.le_refl _⟩,⟨by first|exact Kd.R_nil _ _ _ _ _|exact Kd.N_nil _ _ _ _ _|exact Kd.V_nil _ _ _ _ _|exact Kd.Q_nil _ _ _ _ _|exact Kd.S_nil _ _ _ _ _⟩,⟨by (with_reducible repeat (first|refine qN ?_ _|refine qW ?_|refine qL ?_ _));exact BK243.out⟩,⟨by repeat (first|(with_reducible first|exact HB.out|apply qA|apply qD|apply qO|refine qS ?_ GE243.out)|exact HB.out)⟩⟩
  case round =>
   clear H';try clear c1
   try clear c2
   try clear p2
   try clear c3
   try clear hcz5_0
   try clear hcz5_1
   try clear hcz7_0
   try clear hcz7_1
   try clear hfz5_0
   try clear hfz5_1
   try clear hfz7_0
   try clear hfz7_1
   obtain ⟨x5_1,x13_1,rfl,HA,HK1,HO_5,BK243,HB⟩:=hrel;cases gk with
   | zero=>exact absurd HA.out (by simp [spec_BestOrder.l0])
   | succ k1 =>
    have H:=HA.out;clear HA;simp only [spec_BestOrder.l0] at H;by_cases c8:x13_1 < (l0_0.length:Int)
    ·rw [if_pos c8] at H;have c8b0:decide (x13_1 < (l0_0.length:Int))=true:=decide_eq_true c8;clear c8;by_cases c9:x5_1.length < 17592186044416
     ·rw [if_pos c9] at H;have LMc9:=qK c9;clear c9;obtain ⟨y245,hy245⟩:∃ y_:List Int,y_=(x5_1 ++ [x13_1]):=⟨_,rfl⟩;replace H:(spec_BestOrder.l0 k1 y245 (l0_0.length:Int) (wrap64 (x13_1 + 1)) l0_0 l0_1)=some (r1,r2,r3):=by first|(rw [hy245];with_reducible exact H)|(have H2_:=(Option.bind_some _ _).symm.trans H;rw [hy245];with_reducible exact H2_)|(have H2_:=(Option.bind_some _ _).symm.trans H;with_reducible exact H2_)|with_reducible exact H|(rw [hy245];exact H)|exact H
      have Ny245:=qK hy245;clear hy245;have H':=qK H;clear H;go_wp2_with (first|((with_reducible refine gate_builtin (b:=.append) (xs:=#[.tmp 16,.tmp 18]) rfl ?_);at_builtin;refine Kd.R_append (Kd.int .i64) (w0:=w) w.heap.size rfl (.tmp 16) (.tmp 18) 22 3 (.int .i64 0) 8 rfl Try.underlying22 info3 rfl (by decide) (by omega) u5 x5_1 x13_1 [.int .i64 x13_1] (fun _=>True) (fun _=>False) rfl rfl ?aP (fun _ hk=>hk.elim) ?aF ?aO ?aB ?aS ?aL ?_;(case aP=>exact rfl);(case aB=>exact (by repeat (with_reducible first|exact HB.out|apply qA|apply qD|apply qO|refine qS ?_ GE243.out)));(case aF=>exact (fun _ _=>trivial));(case aO=>exact (by (with_reducible repeat (first|apply rL|apply rN|apply rW));exact HO_5.out));(case aS=>exact (qZ (by repeat (with_reducible first|exact HB.out|apply qA|apply qD|apply qO|refine qS ?_ GE243.out))));(case aL=>have:=LMc9.out;omega);intro v246 w10 ho hb hg hat;rw [← Ny245.out] at ho;have n0_:=qK (blk_grown (g:=gb243) (o:=_) (by (with_reducible repeat (first|refine qN ?_ _|refine qW ?_|refine qL ?_ _));exact BK243.out) hg (Kd.R_ne HO_5.out BK243.out (by decide)));have n1_:=qK (hb);have n2_:=qK (ho);clear BK243;clear HB;clear HO_5;have BK243:=n0_;have HB:=n1_;have HO247:=n2_;clear n0_ n1_ n2_;clear ho hb hg hat))
      go_roundg k1
      case measure=>have:=HK1.out;omega
      case rel=>exact ⟨(y245),(wrap64 (x13_1 + 1)),(by first|rfl|(simp;done)|(simp [*];done)),H',⟨by have:=HK1.out;omega⟩,⟨by (with_reducible repeat (first|apply rL|apply rN|apply rW));exact HO247.out⟩,⟨by (with_reducible repeat (first|refine qN ?_ _|refine qW ?_|refine qL ?_ _));exact BK243.out⟩,⟨by repeat (first|(with_reducible first|exact HB.out|apply qA|apply qD|apply qO|refine qS ?_ GE243.out)|exact HB.out)⟩⟩
     ·rw [if_neg c9] at H;exact absurd H (by simp)
    ·rw [if_neg c8] at H;have c8b0:decide (x13_1 < (l0_0.length:Int))=false:=decide_eq_false c8;clear c8;replace H:=Option.bind_eq_some_iff.mp H;obtain ⟨⟨t248,t251,t252⟩,A110,H⟩:=H;replace H:(some (t248,t251,t252))=some (r1,r2,r3):=H;have A11:=qK A110;clear A110;simp only [Option.some.injEq,Prod.mk.injEq] at H;obtain ⟨rfl,rfl,rfl⟩:=H;have hcz12_0:wr.cell? ⟨gb243,0,none⟩=some (.slice A0_0 l0_0.length c0_0):=(qC BK243.out 0).trans rfl;have hcz12_1:wr.cell? ⟨gb243,1,none⟩=some (.slice A0_1 l0_1.length c0_1):=(qC BK243.out 1).trans rfl;have hfz12_0:=qF BK243.out 0;have hfz12_1:=qF BK243.out 1;obtain ⟨Ao13,co13,eo13⟩:=Kd.R_slice HO_5.out;subst eo13;go_wp2_with (first|((with_reducible refine gate_callee (f:=7) rfl ?_);refine goesL_ (some 23) rfl rfl Try.func7 (by kernel_rfl) rfl #[.agg #[.slice A0_0 l0_0.length c0_0,.slice A0_1 l0_1.length c0_1],.slice Ao13 x5_1.length co13] rfl (by (try simp only [mT,mC,mN]);first|done|rfl|(simp only [lD,lT];rfl)) ?_;(with_reducible refine (spec_BestOf.calls k1 _ _ l0_0 _ _ l0_1 _ _ x5_1 t248 t251 t252 _ ?side1 ?side2 ?side3 ?side4 ?side5 ?side6 A11.out).mono ?_);(case side1=>repeat (first|exact (cB HR0_0.out HB.out)|(with_reducible first|refine cL ?_ _|refine cN ?_ _|refine cW ?_)));(case side2=>exact HC0_0.out);(case side3=>repeat (first|exact (cB HR0_1.out HB.out)|(with_reducible first|refine cL ?_ _|refine cN ?_ _|refine cW ?_)));(case side4=>exact HC0_1.out);(case side5=>repeat (first|exact (Kd.R_reads' HO_5.out).2.2|(with_reducible first|refine cL ?_ _|refine cN ?_ _|refine cW ?_)));(case side6=>exact (Kd.R_reads' HO_5.out).2.1);rintro e w14 ⟨v249,rfl,ho0,hb⟩;refine ⟨_,rfl,?_⟩;have n0_:=qK (Kd.R_elder' (by (with_reducible repeat (first|apply rL|apply rN|apply rW));exact HO_5.out) (Kd.R_base ho0) hb);have n1_:=qK (Kd.R_lower (Kd.R_new' ho0 (Kd.R_lt (by (with_reducible repeat (first|apply rL|apply rN|apply rW));exact HO_5.out))) (qZ (by repeat (with_reducible first|exact HB.out|apply qA|apply qD|apply qO|refine qS ?_ GE243.out))));have n2_:=qK (qB (g:=gb243) (o:=_) (by (with_reducible repeat (first|refine qN ?_ _|refine qW ?_|refine qL ?_ _));exact BK243.out) hb);have n3_:=qK (qT (by repeat (with_reducible first|exact HB.out|apply qA|apply qD|apply qO|refine qS ?_ GE243.out)) hb);clear HO_5;clear BK243;clear HB;have HO_5:=n0_;have HO250:=n1_;have BK243:=n2_;have HB:=n3_;clear n0_ n1_ n2_ n3_;(try clear hb);(try clear ho0)))
     go_ret3
     exact ⟨_,by first|rfl|(simp [errW_none,errW_some] <;> rfl)|(simp [*,errW_none,errW_some] <;> rfl),by (with_reducible repeat (first|apply rL|apply rN|apply rW));exact Kd.R_mono HO250.out (fun _ hk=>trivial),by repeat (first|(with_reducible first|exact HB.out|apply qA|apply qD|apply qO|refine qS ?_ GE243.out)|exact HB.out)⟩
 ·replace c3:=Bool.eq_false_iff.mpr c3;subst c3;have H1:(some (([]:List Int),0,false))=some (r1,r2,r3):=by rw [if_neg (show ¬ (false=true) by decide)] at H;exact H
  clear H;have H:=H1;clear H1;simp only [Option.some.injEq,Prod.mk.injEq] at H;obtain ⟨rfl,rfl,rfl⟩:=H;go_enter Try.func16,Try.ntmps16
  go_wp2_with (first|((with_reducible refine gate_dst (N:=1) rfl ?_);refine box_event ?hg (N:=1) ?hd (cs:=#[.slice A0_0 l0_0.length c0_0,.slice A0_1 l0_1.length c0_1]) (t:=29) ?hr ?_;(case hd=>rfl);(case hg=>rfl);(case hr=>(go_simp;try rfl));intro gb243 hg w15 hbox hb;have n0_:=qK (qT (by repeat (with_reducible first|exact HB.out|apply qA|apply qD|apply qO)) hb);have n1_:=qK (hbox);have n2_:=qK ((by rw [hg];exact (qZ (by repeat (with_reducible first|exact HB.out|apply qA|apply qD|apply qO))):w.heap.size≤gb243));have n3_:=qK ((by rw [hg];exact (qZ (by repeat (with_reducible first|exact HB.out|apply qA|apply qD|apply qO))):w.heap.size≤gb243));clear HB;have HB:=n0_;have BK243:=n1_;have GW243:=n2_;have GE243:=n3_;clear n0_ n1_ n2_ n3_;clear hb hbox hg;have hcz16_0:w15.cell? ⟨gb243,0,none⟩=some (.slice A0_0 l0_0.length c0_0):=(qC BK243.out 0).trans rfl;have hcz16_1:w15.cell? ⟨gb243,1,none⟩=some (.slice A0_1 l0_1.length c0_1):=(qC BK243.out 1).trans rfl;have hfz16_0:=qF BK243.out 0;have hfz16_1:=qF BK243.out 1)|((with_reducible refine gate_callee (f:=23) rfl ?_);refine goesL_ (some 8) rfl rfl Try.func23 (by kernel_rfl) rfl #[.agg #[.slice A0_0 l0_0.length c0_0,.slice A0_1 l0_1.length c0_1]] rfl (by (try simp only [mT,mC,mN]);first|done|rfl|(simp only [lD,lT];rfl)) ?_;(with_reducible refine (spec_GoodStats.calls k _ _ l0_0 _ _ l0_1 false _ ?side1 ?side2 ?side3 ?side4 A2.out).mono ?_);(case side1=>repeat (first|exact (cB HR0_0.out HB.out)|(with_reducible first|refine cL ?_ _|refine cN ?_ _|refine cW ?_)));(case side2=>exact HC0_0.out);(case side3=>repeat (first|exact (cB HR0_1.out HB.out)|(with_reducible first|refine cL ?_ _|refine cN ?_ _|refine cW ?_)));(case side4=>exact HC0_1.out);rintro e w17 ⟨rfl,hb⟩;refine ⟨_,rfl,?_⟩;have n0_:=qK (qB (g:=gb243) (o:=_) (by (with_reducible repeat (first|refine qN ?_ _|refine qW ?_|refine qL ?_ _));exact BK243.out) hb);have n1_:=qK (qT (by repeat (with_reducible first|exact HB.out|apply qA|apply qD|apply qO|refine qS ?_ GE243.out)) hb);clear BK243;clear HB;have BK243:=n0_;have HB:=n1_;clear n0_ n1_;(try clear hb)))
  go_ret3
  exact ⟨_,by first|rfl|(simp [errW_none,errW_some] <;> rfl)|(simp [*,errW_none,errW_some] <;> rfl),by first|exact Kd.R_nil _ _ _ _ _|exact Kd.N_nil _ _ _ _ _|exact Kd.V_nil _ _ _ _ _|exact Kd.Q_nil _ _ _ _ _|exact Kd.S_nil _ _ _ _ _,by repeat (first|(with_reducible first|exact HB.out|apply qA|apply qD|apply qO|refine qS ?_ GE243.out)|exact HB.out)⟩

/-! ### idxf_Int: function 70 -/
set_option maxHeartbeats 4000000 in
set_option maxRecDepth 100000 in
theorem idxf_Int.calls (A : Option Addr) (c : Nat) (l : List (Int)) (g : Nat) (lb : Array Value) (p : Int → Bool) (w : World) (eg : ∀ args w, (callFunc g args).run Try.prog w = .ok (.enter g args) w)
    (hr : Kd.C (Kd.int .i64) w A l.length l) (hp : PredOn Try.prog g lb (One (Kd.int .i64)) p l w) :
    Calls Try.prog 70 #[.slice A l.length c, .func (.func g) #[] lb] w fun e w' => e = .returned (.int .i64 (idxf p l)) ∧ Below w.heap.size w w' := by
  have hl : l.length ≤ 9223372036854775807 := hr.2.1
  have HR := Aside0.mk hr
  clear hr
  have HP := Aside0.mk hp
  clear hp
  go_enter Try.func70, Try.ntmps70
  go_wp2
  go_loopg [5, 8] l.length (fun gg _ s8 wr => ∃ kk : Nat, kk ≤ l.length ∧ l.length - kk ≤ gg ∧ s8 = .int .i64 kk ∧ Aside0 (Below w.heap.size w wr) ∧ Aside0 (∀ j, (hj : j < l.length) → j < kk → p l[j] = false))
  case atStart => exact ⟨0, Nat.zero_le _, by omega, rfl, ⟨Below.refl _ w⟩, ⟨fun j hj h => absurd h (Nat.not_lt_zero _)⟩⟩
  case round =>
    obtain ⟨kk, hkk, hg, rfl, BW, AA⟩ := hrel
    by_cases hlt : kk < l.length
    · have hltz : (kk : Int) < (l.length : Int) := by omega
      have hmem : l[kk] ∈ l := List.getElem_mem hlt
      obtain ⟨ad, cs, e1, hlen, hK, hcell⟩ := Kd.C_get (Kd.C_below HR.out BW.out) l[kk] (kk : Int) (by omega) (by omega)
      cases e1
      have hrd : l.getD (kk : Int).toNat l[kk] = l[kk] := by simp [hlt]
      rw [hrd] at hK
      replace hlen : cs.length = 1 := hlen
      obtain ⟨c0_, rfl⟩ : ∃ c0_ : Value, cs = [c0_] := list_len1 hlen
      replace hcell : ∀ j u, ([c0_] : List Value)[j]? = some u → wr.cell? (ad.add ((kk : Int).toNat * 1 + j)) = some u := hcell
      have h0_ : wr.cell? (ad.add kk) = some c0_ := by have := hcell 0 _ rfl; simpa using this
      have hcall := HP.out wr l[kk] (c0_) hmem BW.out hK
      clear hcell hK hlen hmem hrd
      have AY : Aside0 (∃ y, y = l[kk]) := ⟨⟨_, rfl⟩⟩
      obtain ⟨⟨y, hy⟩⟩ := AY
      rw [← hy] at hcall
      have HY := Aside0.mk hy
      clear hy
      cases hq : p y with
      | true =>
        rw [hq] at hcall
        have HQ := Aside0.mk hq
        clear hq
        go_wp2_with (go_at_fn g; refine hcall.mono ?_; rintro e w' ⟨rfl, hb'⟩)
        go_ret
        refine ⟨?_, below_step BW.out hb'⟩
        rw [idxf_hit hlt (by rw [← HY.out]; exact HQ.out) (fun j hj => AA.out j (by omega) hj)]
        rfl
      | false =>
        rw [hq] at hcall
        have HQ := Aside0.mk hq
        clear hq
        go_wp2_with (go_at_fn g; refine hcall.mono ?_; rintro e w' ⟨rfl, hb'⟩)
        go_roundg (l.length - (kk + 1))
        case measure => omega
        case rel =>
          refine ⟨kk + 1, by omega, by omega, by go_num, ⟨below_step BW.out hb'⟩, ⟨fun j hj hlt2 => ?_⟩⟩
          by_cases e : j = kk
          · subst e
            rw [← HY.out]; exact HQ.out
          · exact AA.out j hj (by omega)
    · have hltz : ¬ (kk : Int) < (l.length : Int) := by omega
      go_wp2
      go_ret
      refine ⟨?_, BW.out⟩
      rw [idxf_miss (fun j hj => AA.out j hj (by omega))]
      rfl

/-! ### anyf_Int: function 62 -/
set_option maxHeartbeats 4000000 in
set_option maxRecDepth 100000 in
theorem anyf_Int.calls (A : Option Addr) (c : Nat) (l : List (Int)) (g : Nat) (lb : Array Value) (p : Int → Bool) (w : World) (eg : ∀ args w, (callFunc g args).run Try.prog w = .ok (.enter g args) w)
    (hr : Kd.C (Kd.int .i64) w A l.length l) (hp : PredOn Try.prog g lb (One (Kd.int .i64)) p l w) :
    Calls Try.prog 62 #[.slice A l.length c, .func (.func g) #[] lb] w fun e w' => e = .returned (.bool (l.any p)) ∧ Below w.heap.size w w' := by
  rw [← idxf_any p l]
  have HR := Aside0.mk hr
  clear hr
  have HP := Aside0.mk hp
  clear hp
  obtain ⟨i, hi⟩ : ∃ i, i = idxf p l := ⟨_, rfl⟩
  rw [← hi]
  have HI := Aside0.mk hi
  clear hi
  go_enter Try.func62, Try.ntmps62
  go_wp2_with (go_at_call 70; refine (idxf_Int.calls A c l g lb p _ eg HR.out HP.out).mono ?_; rw [← HI.out]; rintro e w' ⟨rfl, hb'⟩)
  go_ret
  exact ⟨rfl, hb'⟩

/-! ### areAll1_Int: function 63 -/
set_option maxHeartbeats 4000000 in
set_option maxRecDepth 100000 in
theorem areAll1_Int.pred (B : Nat) (l : List (Int)) (g : Nat) (lb : Array Value) (p : Int → Bool) (w : World) (eg : ∀ args w, (callFunc g args).run Try.prog w = .ok (.enter g args) w)
    (hB : w.cell? ⟨B, 0, none⟩ = some (.func (.func g) #[] lb)) (hp : PredOn Try.prog g lb (One (Kd.int .i64)) p l w) :
    PredOn Try.prog 63 #[.pointer (some ⟨B, 0, none⟩)] (One (Kd.int .i64)) (fun x => !p x) l w := by
  intro W x v hx hW hv
  obtain ⟨c0_, rfl⟩ : ∃ c0_, c0_ = v := ⟨_, rfl⟩
  have hB' : W.cell? ⟨B, 0, none⟩ = some (.func (.func g) #[] lb) := pw_cell_below hW hB
  have HP := Aside0.mk hp
  clear hp hB
  obtain ⟨b, hb⟩ : ∃ b, b = p x := ⟨_, rfl⟩
  have hb0 := Aside0.mk hb
  have HV := Aside0.mk hv
  have HWW := Aside0.mk hW
  clear hv hW
  show Calls Try.prog 63 #[c0_, .pointer (some ⟨B, 0, none⟩)] W fun e W' => e = .returned (.bool (!p x)) ∧ Below W.heap.size W W'
  rw [← hb]
  clear hb
  cases b with
  | true =>
    go_enter Try.func63, Try.ntmps63
    go_wp2_with (go_at_fn g; refine (HP.out _ x _ hx HWW.out HV.out).mono ?_; rw [← hb0.out]; rintro e w' ⟨rfl, hb'⟩)
    go_ret
    exact ⟨rfl, hb'⟩
  | false =>
    go_enter Try.func63, Try.ntmps63
    go_wp2_with (go_at_fn g; refine (HP.out _ x _ hx HWW.out HV.out).mono ?_; rw [← hb0.out]; rintro e w' ⟨rfl, hb'⟩)
    go_ret
    exact ⟨rfl, hb'⟩

/-! ### areAll_Int: function 46 -/
set_option maxHeartbeats 4000000 in
set_option maxRecDepth 100000 in
theorem areAll_Int.calls (A : Option Addr) (c : Nat) (l : List (Int)) (g : Nat) (lb : Array Value) (p : Int → Bool) (w : World) (eg : ∀ args w, (callFunc g args).run Try.prog w = .ok (.enter g args) w)
    (hr : Kd.C (Kd.int .i64) w A l.length l) (hp : PredOn Try.prog g lb (One (Kd.int .i64)) p l w) :
    Calls Try.prog 46 #[.slice A l.length c, .func (.func g) #[] lb] w fun e w' => e = .returned (.bool (l.all p)) ∧ Below w.heap.size w w' := by
  have hb1 : Below w.heap.size w (w.alloc (.cells #[.func (.func g) #[] lb] 71)) := below_alloc (Below.refl _ _) _
  have hp1 := areAll1_Int.pred w.heap.size l g lb p (w.alloc (.cells #[.func (.func g) #[] lb] 71)) eg (by simp) (hp.grown hb1)
  have HR := Aside0.mk (Kd.C_below hr hb1)
  have HP := Aside0.mk hp1
  have HB1 := Aside0.mk hb1
  clear hr hp hp1 hb1
  obtain ⟨b, hb⟩ : ∃ b, b = l.any (fun x => !p x) := ⟨_, rfl⟩
  have hall : l.all p = !b := by rw [hb, List.all_eq_not_any_not]
  rw [hall]
  have hb0 := Aside0.mk hb
  clear hb hall
  have e1 := enters_of Try.func63 (by kernel_rfl) rfl
  cases b with
  | true =>
    go_enter Try.func46, Try.ntmps46
    go_wp2_with (go_at_call 62; refine (anyf_Int.calls A c l _ _ _ _ e1 HR.out HP.out).mono ?_; rw [← hb0.out]; rintro e w' ⟨rfl, hb'⟩)
    go_ret
    exact ⟨rfl, below_step HB1.out hb'⟩
  | false =>
    go_enter Try.func46, Try.ntmps46
    go_wp2_with (go_at_call 62; refine (anyf_Int.calls A c l _ _ _ _ e1 HR.out HP.out).mono ?_; rw [← hb0.out]; rintro e w' ⟨rfl, hb'⟩)
    go_ret
    exact ⟨rfl, below_step HB1.out hb'⟩

/-! ### impl_within: function 45 -/
def impl_within.f (a0:Int) (a1:Int) (a2:Int):Option (Bool):=if a1≤a0 then (some (decide (a0≤a2))) else (some false)
set_option maxHeartbeats 8000000 in
set_option maxRecDepth 100000 in
theorem impl_within.calls (a0:Int) (a1:Int) (a2:Int) (r:Bool) (w:World) (h:impl_within.f a0 a1 a2=some r) :
  Calls Try.prog 45 #[.int .i64 a0,.int .i64 a1,.int .i64 a2] w fun e w'=>e=.returned (.bool r)∧Drawn0 w w':=by
 have H:(if a1≤a0 then (some (decide (a0≤a2))) else (some false))=some r:=h;clear h;by_cases c4:a1≤a0
 ·rw [if_pos c4] at H;have c4b0:decide (a1≤a0)=true:=decide_eq_true c4;clear c4;obtain rfl:=Option.some.inj H;go_enter Try.func45,Try.ntmps45
  go_wp2
  go_ret
  exact ⟨by first|rfl|(simp;done)|(simp [*];done),by repeat (first|exact Drawn0.refl _|apply Drawn0.step)⟩
 ·rw [if_neg c4] at H;have c4b0:decide (a1≤a0)=false:=decide_eq_false c4;clear c4;obtain rfl:=Option.some.inj H;go_enter Try.func45,Try.ntmps45
  go_wp2
  go_ret
  exact ⟨by first|rfl|(simp;done)|(simp [*];done),by repeat (first|exact Drawn0.refl _|apply Drawn0.step)⟩

/-! ### impl_GoodStats_1: function 47 -/
def impl_GoodStats_1.f (a0:Int):Option (Bool):=(impl_within.f a0 1 50).bind fun t253=>(some t253)
set_option maxHeartbeats 8000000 in
set_option maxRecDepth 100000 in
theorem impl_GoodStats_1.calls (a0:Int) (r:Bool) (w:World) (h:impl_GoodStats_1.f a0=some r) :
  Calls Try.prog 47 #[.int .i64 a0] w fun e w'=>e=.returned (.bool r)∧Drawn0 w w':=by
 have H:((impl_within.f a0 1 50).bind fun t253=>(some t253))=some r:=h;clear h;replace H:=Option.bind_eq_some_iff.mp H;obtain ⟨t253,A20,H⟩:=H;replace H:(some t253)=some r:=H;have A2:=qK A20;clear A20;obtain rfl:=Option.some.inj H;go_enter Try.func47,Try.ntmps47
 go_wp2_with (first|((with_reducible refine gate_callee (f:=45) rfl ?_);refine goesL_ (some 4) rfl rfl Try.func45 (by kernel_rfl) rfl #[.int .i64 a0,.int .i64 1,.int .i64 50] rfl (by (try simp only [mT,mC,mN]);first|done|rfl|(simp only [lD,lT];rfl)) ?_;(with_reducible refine (impl_within.calls a0 1 50 t253 _ A2.out).mono ?_);rintro e w' ⟨rfl,⟨nd,rfl⟩⟩;refine ⟨_,rfl,?_⟩))
 go_ret
 exact ⟨by first|rfl|(simp;done)|(simp [*];done),by repeat (first|exact Drawn0.refl _|apply Drawn0.step)⟩

/-! ### areAll_impl_GoodStats_1: function 46, handed function 47 -/
def areAll_impl_GoodStats_1.f (l : List Int) : Option Bool := if l.all (fun d => (impl_GoodStats_1.f d).isSome) = true then some (l.all (fun d => (impl_GoodStats_1.f d).getD false)) else none
theorem areAll_impl_GoodStats_1.calls (A : Option Addr) (c : Nat) (l : List Int) (r : Bool) (w : World) (hr : Kd.C (Kd.int .i64) w A l.length l) (hc : l.length ≤ c) (h : areAll_impl_GoodStats_1.f l = some r) :
    Calls Try.prog 46 #[.slice A l.length c, .func (.func 47) #[] #[]] w fun e w' => e = .returned (.bool r) ∧ Below w.heap.size w w' := by
  unfold areAll_impl_GoodStats_1.f at h
  by_cases hs : l.all (fun d => (impl_GoodStats_1.f d).isSome) = true
  case neg => rw [if_neg hs] at h; cases h
  rw [if_pos hs] at h
  obtain rfl : l.all (fun d => (impl_GoodStats_1.f d).getD false) = r := Option.some.inj h
  refine areAll_Int.calls A c l 47 _ _ w (enters_of Try.func47 (by kernel_rfl) rfl) hr ?_
  intro W d v hd hW hv
  obtain ⟨r_, hr_⟩ := Option.isSome_iff_exists.1 (List.all_eq_true.1 hs d hd)
  obtain rfl : v = .int .i64 d := by simpa using (List.cons.inj hv).1
  refine (impl_GoodStats_1.calls (w := W) (h := hr_)).mono ?_
  rintro e w' ⟨rfl, hb⟩
  exact ⟨by show _ = Ending.returned (Value.bool ((impl_GoodStats_1.f d).getD false)); rw [hr_]; rfl, hb.below⟩

/-! ### impl_GoodStats_2: function 48 -/
def impl_GoodStats_2.f (a0:Int):Option (Bool):=(impl_within.f a0 1 10).bind fun t254=>(some t254)
set_option maxHeartbeats 8000000 in
set_option maxRecDepth 100000 in
theorem impl_GoodStats_2.calls (a0:Int) (r:Bool) (w:World) (h:impl_GoodStats_2.f a0=some r) :
  Calls Try.prog 48 #[.int .i64 a0] w fun e w'=>e=.returned (.bool r)∧Drawn0 w w':=by
 have H:((impl_within.f a0 1 10).bind fun t254=>(some t254))=some r:=h;clear h;replace H:=Option.bind_eq_some_iff.mp H;obtain ⟨t254,A20,H⟩:=H;replace H:(some t254)=some r:=H;have A2:=qK A20;clear A20;obtain rfl:=Option.some.inj H;go_enter Try.func48,Try.ntmps48
 go_wp2_with (first|((with_reducible refine gate_callee (f:=45) rfl ?_);refine goesL_ (some 4) rfl rfl Try.func45 (by kernel_rfl) rfl #[.int .i64 a0,.int .i64 1,.int .i64 10] rfl (by (try simp only [mT,mC,mN]);first|done|rfl|(simp only [lD,lT];rfl)) ?_;(with_reducible refine (impl_within.calls a0 1 10 t254 _ A2.out).mono ?_);rintro e w' ⟨rfl,⟨nd,rfl⟩⟩;refine ⟨_,rfl,?_⟩))
 go_ret
 exact ⟨by first|rfl|(simp;done)|(simp [*];done),by repeat (first|exact Drawn0.refl _|apply Drawn0.step)⟩

/-! ### areAll_impl_GoodStats_2: function 46, handed function 48 -/
def areAll_impl_GoodStats_2.f (l : List Int) : Option Bool := if l.all (fun d => (impl_GoodStats_2.f d).isSome) = true then some (l.all (fun d => (impl_GoodStats_2.f d).getD false)) else none
theorem areAll_impl_GoodStats_2.calls (A : Option Addr) (c : Nat) (l : List Int) (r : Bool) (w : World) (hr : Kd.C (Kd.int .i64) w A l.length l) (hc : l.length ≤ c) (h : areAll_impl_GoodStats_2.f l = some r) :
    Calls Try.prog 46 #[.slice A l.length c, .func (.func 48) #[] #[]] w fun e w' => e = .returned (.bool r) ∧ Below w.heap.size w w' := by
  unfold areAll_impl_GoodStats_2.f at h
  by_cases hs : l.all (fun d => (impl_GoodStats_2.f d).isSome) = true
  case neg => rw [if_neg hs] at h; cases h
  rw [if_pos hs] at h
  obtain rfl : l.all (fun d => (impl_GoodStats_2.f d).getD false) = r := Option.some.inj h
  refine areAll_Int.calls A c l 48 _ _ w (enters_of Try.func48 (by kernel_rfl) rfl) hr ?_
  intro W d v hd hW hv
  obtain ⟨r_, hr_⟩ := Option.isSome_iff_exists.1 (List.all_eq_true.1 hs d hd)
  obtain rfl : v = .int .i64 d := by simpa using (List.cons.inj hv).1
  refine (impl_GoodStats_2.calls (w := W) (h := hr_)).mono ?_
  rintro e w' ⟨rfl, hb⟩
  exact ⟨by show _ = Ending.returned (Value.bool ((impl_GoodStats_2.f d).getD false)); rw [hr_]; rfl, hb.below⟩

/-! ### impl_GoodStats: function 22 -/
mutual
def impl_GoodStats.j0 : Nat→Bool→List Int→List (List Int)→Option (Bool)
 | 0,_,_,_=>none
 | k + 1,x24,x256000,x256001=>if x24=true then (some false) else (impl_GoodStats.l0 k x256001 (x256001.length:Int) 0)
def impl_GoodStats.l0 : Nat→List (List Int)→Int→Int→Option (Bool)
 | 0,_,_,_=>none
 | k + 1,x26,x27,x28=>if x28 < x27 then (if 0≤x28 then (if x28 < (x26.length:Int) then (if ((rd_L1 x26 x28).length:Int)=x28 then ((areAll_impl_GoodStats_2.f (rd_L1 x26 x28)).bind fun t259=>(if t259=true then (impl_GoodStats.l0 k x26 x27 (wrap64 (x28 + 1))) else (some false))) else (some false)) else (none)) else (none)) else (some true)
end
def impl_GoodStats.f (k:Nat) (l0_0:List Int) (l0_1:List (List Int)):Option (Bool):=(impl_within.f (l0_0.length:Int) 1 6).bind fun t256=>(if t256=true then (if (l0_1.length:Int)=(l0_0.length:Int) then ((areAll_impl_GoodStats_1.f l0_0).bind fun t257=>(impl_GoodStats.j0 k (!t257) l0_0 l0_1)) else (impl_GoodStats.j0 k true l0_0 l0_1)) else (impl_GoodStats.j0 k true l0_0 l0_1))
theorem impl_GoodStats.mono_l : ∀ k,(∀ y0 y1 y2,LeO (impl_GoodStats.j0 k y0 y1 y2) (impl_GoodStats.j0 (k + 1) y0 y1 y2))∧(∀ y0 y1 y2,LeO (impl_GoodStats.l0 k y0 y1 y2) (impl_GoodStats.l0 (k + 1) y0 y1 y2))
 | 0=>⟨fun _ _ _ r h=>by simp [impl_GoodStats.j0] at h,fun _ _ _ r h=>by simp [impl_GoodStats.l0] at h⟩
 | k + 1=>by
  obtain ⟨ih0,ih1⟩:=impl_GoodStats.mono_l k;refine ⟨?_,?_⟩
  ·intro y0 y1 y2;unfold impl_GoodStats.j0
   repeat' first
   | (with_reducible exact ih0 _ _ _)
   | (with_reducible exact ih1 _ _ _)
   | (with_reducible exact LeO.refl _)
   | (with_reducible exact LeO.none _)
   | (with_reducible refine LeO.ite ?_ ?_)
   | (with_reducible refine LeO.bind ?_ (fun _=>?_))
   | exact ih0 _ _ _
   | exact ih1 _ _ _
   | exact LeO.none _
   | refine LeO.ite ?_ ?_
   | refine LeO.bind ?_ (fun _=>?_)
  ·intro y0 y1 y2;unfold impl_GoodStats.l0
   repeat' first
   | (with_reducible exact ih0 _ _ _)
   | (with_reducible exact ih1 _ _ _)
   | (with_reducible exact LeO.refl _)
   | (with_reducible exact LeO.none _)
   | (with_reducible refine LeO.ite ?_ ?_)
   | (with_reducible refine LeO.bind ?_ (fun _=>?_))
   | exact ih0 _ _ _
   | exact ih1 _ _ _
   | exact LeO.none _
   | refine LeO.ite ?_ ?_
   | refine LeO.bind ?_ (fun _=>?_)
theorem impl_GoodStats.mono : ∀ a0 a1 k,LeO (impl_GoodStats.f k a0 a1) (impl_GoodStats.f (k + 1) a0 a1):=by
 intro a0 a1 k;obtain ⟨ih0,ih1⟩:=impl_GoodStats.mono_l k;unfold impl_GoodStats.f
 repeat' first
   | (with_reducible exact ih0 _ _ _)
   | (with_reducible exact ih1 _ _ _)
   | (with_reducible exact LeO.refl _)
   | (with_reducible exact LeO.none _)
   | (with_reducible refine LeO.ite ?_ ?_)
   | (with_reducible refine LeO.bind ?_ (fun _=>?_))
   | exact ih0 _ _ _
   | exact ih1 _ _ _
   | exact LeO.none _
   | refine LeO.ite ?_ ?_
   | refine LeO.bind ?_ (fun _=>?_)
set_option maxHeartbeats 8000000 in
set_option maxRecDepth 100000 in
theorem impl_GoodStats.calls (k:Nat) (A0_0:Option Addr) (c0_0:Nat) (l0_0:List Int) (A0_1:Option Addr) (c0_1:Nat) (l0_1:List (List Int)) (r:Bool) (w:World) (hr0_0:Kd.C (Kd.int .i64) w A0_0 l0_0.length l0_0) (hc0_0:l0_0.length≤c0_0) (hr0_1:Kd.C (Kd.slice 3 (Kd.int .i64)) w A0_1 l0_1.length l0_1) (hc0_1:l0_1.length≤c0_1) (h:impl_GoodStats.f k l0_0 l0_1=some r) :
  Calls Try.prog 22 #[.agg #[.slice A0_0 l0_0.length c0_0,.slice A0_1 l0_1.length c0_1]] w fun e w'=>e=.returned (.bool r)∧Below w.heap.size w w':=by
 have hu29:=Try.underlying29;have HR0_0:=qK hr0_0;have HC0_0:=qK hc0_0;clear hr0_0 hc0_0;have HR0_1:=qK hr0_1;have HC0_1:=qK hc0_1;clear hr0_1 hc0_1;have HB:=qK (Below.refl w.heap.size w);have H:((impl_within.f (l0_0.length:Int) 1 6).bind fun t256=>(if t256=true then (if (l0_1.length:Int)=(l0_0.length:Int) then ((areAll_impl_GoodStats_1.f l0_0).bind fun t257=>(impl_GoodStats.j0 k (!t257) l0_0 l0_1)) else (impl_GoodStats.j0 k true l0_0 l0_1)) else (impl_GoodStats.j0 k true l0_0 l0_1)))=some r:=h;clear h;have HC2:=qK H;clear H;go_enter Try.func22,Try.ntmps22
 go_upto_region 1 with (first|((with_reducible refine gate_dst (N:=1) rfl ?_);(try (refine gate_guard (by rfl) ?_;dsimp only));refine box_event ?hg (N:=1) ?hd (cs:=#[.slice A0_0 l0_0.length c0_0,.slice A0_1 l0_1.length c0_1]) (t:=29) ?hr ?_;(case hd=>rfl);(case hg=>rfl);(case hr=>(go_simp;try rfl));intro gb255 hg w3 hbox hb;have n0_:=qK (qT (by repeat (with_reducible first|exact HB.out|apply qA|apply qD|apply qO)) hb);have n1_:=qK (hbox);have n2_:=qK ((by rw [hg];exact (qZ (by repeat (with_reducible first|exact HB.out|apply qA|apply qD|apply qO))):w.heap.size≤gb255));have n3_:=qK ((by rw [hg];exact (qZ (by repeat (with_reducible first|exact HB.out|apply qA|apply qD|apply qO))):w.heap.size≤gb255));clear HB;have HB:=n0_;have BK255:=n1_;have GW255:=n2_;have GE255:=n3_;clear n0_ n1_ n2_ n3_;clear hb hbox hg))
 (try simp only [Act.put,List.setIfInBounds_toArray,List.set_cons_zero,List.set_cons_succ]);go_cut [24] (fun v24 wc=>∃ (kq:Nat) (x24_1:Bool),v24=.bool x24_1∧Aside0 (impl_GoodStats.j0 kq x24_1 l0_0 l0_1=some r)∧Aside0 (kq≤k)∧Aside0 (wc.heap[gb255]?=some (.cells #[(.slice A0_0 l0_0.length c0_0),(.slice A0_1 l0_1.length c0_1)] 29 (0,0)))∧Aside0 (Below w.heap.size w wc))
 case first =>
  have H:=HC2.out;clear HC2;replace H:=Option.bind_eq_some_iff.mp H;obtain ⟨t256,A40,H⟩:=H;replace H:(if t256=true then (if (l0_1.length:Int)=(l0_0.length:Int) then ((areAll_impl_GoodStats_1.f l0_0).bind fun t257=>(impl_GoodStats.j0 k (!t257) l0_0 l0_1)) else (impl_GoodStats.j0 k true l0_0 l0_1)) else (impl_GoodStats.j0 k true l0_0 l0_1))=some r:=H;have A4:=qK A40;clear A40;by_cases c5:t256=true
  ·subst c5;have H1:(if (l0_1.length:Int)=(l0_0.length:Int) then ((areAll_impl_GoodStats_1.f l0_0).bind fun t257=>(impl_GoodStats.j0 k (!t257) l0_0 l0_1)) else (impl_GoodStats.j0 k true l0_0 l0_1))=some r:=by rw [if_pos rfl] at H;exact H
   clear H;have H:=H1;clear H1;by_cases c6:(l0_1.length:Int)=(l0_0.length:Int)
   ·rw [if_pos c6] at H;have c6b0:((l0_1.length:Int) == (l0_0.length:Int))=true:=beq_iff_eq.mpr c6;have c6b1:((l0_1.length:Int) != (l0_0.length:Int))=false:=bne_eq_false_iff_eq.mpr c6;have c6b2:(l0_1.length == l0_0.length)=true:=by first|simpa using c6|(simp at c6 ⊢;omega)
    clear c6;(first|rw [c6b0]|(simp only [i64_w,i32_w];rw [c6b0])|skip);replace H:=Option.bind_eq_some_iff.mp H;obtain ⟨t257,A70,H⟩:=H;replace H:(impl_GoodStats.j0 k (!t257) l0_0 l0_1)=some r:=H;have A7:=qK A70;clear A70;have H':=qK H;clear H;have hcz8_0:w3.cell? ⟨gb255,0,none⟩=some (.slice A0_0 l0_0.length c0_0):=(qC BK255.out 0).trans rfl;have hcz8_1:w3.cell? ⟨gb255,1,none⟩=some (.slice A0_1 l0_1.length c0_1):=(qC BK255.out 1).trans rfl;have hfz8_0:=qF BK255.out 0;have hfz8_1:=qF BK255.out 1;go_wp2_with (first|((with_reducible refine gate_callee (f:=45) rfl ?_);refine goesL_ (some 8) rfl rfl Try.func45 (by kernel_rfl) rfl #[.int .i64 (l0_0.length:Int),.int .i64 1,.int .i64 6] rfl (by (try simp only [mT,mC,mN]);first|done|rfl|(simp only [lD,lT];rfl)) ?_;(with_reducible refine (impl_within.calls (l0_0.length:Int) 1 6 true _ A4.out).mono ?_);rintro e w' ⟨rfl,⟨nd,rfl⟩⟩;refine ⟨_,rfl,?_⟩)|(go_at_call 46;(with_reducible refine (areAll_impl_GoodStats_1.calls _ _ l0_0  t257 _ ?side1 ?side2 A7.out).mono ?_);(case side1=>repeat (first|exact (cB HR0_0.out (by repeat (with_reducible first|exact HB.out|apply qA|apply qD|apply qO|refine qS ?_ GE255.out)))|(with_reducible first|refine cL ?_ _|refine cN ?_ _|refine cW ?_)));(case side2=>exact HC0_0.out);rintro e w9 ⟨rfl,hb⟩;have n0_:=qK (qB (g:=gb255) (o:=_) (by (with_reducible repeat (first|refine qN ?_ _|refine qW ?_|refine qL ?_ _));exact BK255.out) hb);have n1_:=qK (qT (by repeat (with_reducible first|exact HB.out|apply qA|apply qD|apply qO|refine qS ?_ GE255.out)) hb);clear BK255;clear HB;have BK255:=n0_;have HB:=n1_;clear n0_ n1_;(try clear hb)))
    go_meet
    case rel=>exact ⟨_,(!t257),(by first|rfl|(simp;done)|(simp [*];done)),H',⟨by first|omega|exact Nat.le_refl _⟩,⟨by (with_reducible repeat (first|refine qN ?_ _|refine qW ?_|refine qL ?_ _));exact BK255.out⟩,⟨by repeat (first|(with_reducible first|exact HB.out|apply qA|apply qD|apply qO|refine qS ?_ GE255.out)|exact HB.out)⟩⟩
   ·rw [if_neg c6] at H;have c6b0:((l0_1.length:Int) == (l0_0.length:Int))=false:=beq_eq_false_iff_ne.mpr c6;have c6b1:((l0_1.length:Int) != (l0_0.length:Int))=true:=bne_iff_ne.mpr c6;have c6b2:(l0_1.length == l0_0.length)=false:=by first|simpa using c6|(simp at c6 ⊢;omega)
    (first|rw [c6b0]|(simp only [i64_w,i32_w];rw [c6b0])|skip);have H':=qK H;clear H;have hcz10_0:w3.cell? ⟨gb255,0,none⟩=some (.slice A0_0 l0_0.length c0_0):=(qC BK255.out 0).trans rfl;have hcz10_1:w3.cell? ⟨gb255,1,none⟩=some (.slice A0_1 l0_1.length c0_1):=(qC BK255.out 1).trans rfl;have hfz10_0:=qF BK255.out 0;have hfz10_1:=qF BK255.out 1;go_wp2_with (first|((with_reducible refine gate_callee (f:=45) rfl ?_);refine goesL_ (some 8) rfl rfl Try.func45 (by kernel_rfl) rfl #[.int .i64 (l0_0.length:Int),.int .i64 1,.int .i64 6] rfl (by (try simp only [mT,mC,mN]);first|done|rfl|(simp only [lD,lT];rfl)) ?_;(with_reducible refine (impl_within.calls (l0_0.length:Int) 1 6 true _ A4.out).mono ?_);rintro e w' ⟨rfl,⟨nd,rfl⟩⟩;refine ⟨_,rfl,?_⟩))
    go_meet
    case rel=>exact ⟨_,(true),(by first|rfl|(simp;done)|(simp [*];done)),H',⟨by first|omega|exact Nat.le_refl _⟩,⟨by (with_reducible repeat (first|refine qN ?_ _|refine qW ?_|refine qL ?_ _));exact BK255.out⟩,⟨by repeat (first|(with_reducible first|exact HB.out|apply qA|apply qD|apply qO|refine qS ?_ GE255.out)|exact HB.out)⟩⟩
  ·replace c5:=Bool.eq_false_iff.mpr c5;subst c5;have H1:(impl_GoodStats.j0 k true l0_0 l0_1)=some r:=by rw [if_neg (show ¬ (false=true) by decide)] at H;exact H
   clear H;have H:=H1;clear H1;have H':=qK H;clear H;have hcz11_0:w3.cell? ⟨gb255,0,none⟩=some (.slice A0_0 l0_0.length c0_0):=(qC BK255.out 0).trans rfl;have hcz11_1:w3.cell? ⟨gb255,1,none⟩=some (.slice A0_1 l0_1.length c0_1):=(qC BK255.out 1).trans rfl;have hfz11_0:=qF BK255.out 0;have hfz11_1:=qF BK255.out 1;go_wp2_with (first|((with_reducible refine gate_callee (f:=45) rfl ?_);refine goesL_ (some 8) rfl rfl Try.func45 (by kernel_rfl) rfl #[.int .i64 (l0_0.length:Int),.int .i64 1,.int .i64 6] rfl (by (try simp only [mT,mC,mN]);first|done|rfl|(simp only [lD,lT];rfl)) ?_;(with_reducible refine (impl_within.calls (l0_0.length:Int) 1 6 false _ A4.out).mono ?_);rintro e w' ⟨rfl,⟨nd,rfl⟩⟩;refine ⟨_,rfl,?_⟩))
   go_meet
   case rel=>exact ⟨_,(true),(by first|rfl|(simp;done)|(simp [*];done)),H',⟨by first|omega|exact Nat.le_refl _⟩,⟨by (with_reducible repeat (first|refine qN ?_ _|refine qW ?_|refine qL ?_ _));exact BK255.out⟩,⟨by repeat (first|(with_reducible first|exact HB.out|apply qA|apply qD|apply qO|refine qS ?_ GE255.out)|exact HB.out)⟩⟩
 case rest =>
  clear HC2;try clear c2
  try clear p2
  try clear c4
  try clear c5
  try clear c6
  try clear c6b0
  try clear c6b1
  try clear c6b2
  try clear hcz10_0
  try clear hcz10_1
  try clear hcz11_0
  try clear hcz11_1
  try clear hcz8_0
  try clear hcz8_1
  try clear hfz10_0
  try clear hfz10_1
  try clear hfz11_0
  try clear hfz11_1
  try clear hfz8_0
  try clear hfz8_1
  obtain ⟨kq,x24_1,rfl,HA,HJ1,BK255,HB⟩:=hcut;cases kq with
  | zero=>exact absurd HA.out (by simp [impl_GoodStats.j0])
  | succ kj1 =>
   have H:=HA.out;clear HA;simp only [impl_GoodStats.j0] at H;by_cases c12:x24_1=true
   ·subst c12;have H1:(some false)=some r:=by rw [if_pos rfl] at H;exact H
    clear H;have H:=H1;clear H1;obtain rfl:=Option.some.inj H;go_wp2
    go_ret
    exact ⟨by first|rfl|(simp [errW_none,errW_some] <;> rfl)|(simp [*,errW_none,errW_some] <;> rfl),by repeat (first|(with_reducible first|exact HB.out|apply qA|apply qD|apply qO|refine qS ?_ GE255.out)|exact HB.out)⟩
   ·replace c12:=Bool.eq_false_iff.mpr c12;subst c12;have H1:(impl_GoodStats.l0 kj1 l0_1 (l0_1.length:Int) 0)=some r:=by rw [if_neg (show ¬ (false=true) by decide)] at H;exact H
    clear H;have H:=H1;clear H1;have H':=qK H;clear H;have hcz13_0:wc.cell? ⟨gb255,0,none⟩=some (.slice A0_0 l0_0.length c0_0):=(qC BK255.out 0).trans rfl;have hcz13_1:wc.cell? ⟨gb255,1,none⟩=some (.slice A0_1 l0_1.length c0_1):=(qC BK255.out 1).trans rfl;have hfz13_0:=qF BK255.out 0;have hfz13_1:=qF BK255.out 1;go_wp2
    go_loopg [28] kj1 (fun kq v28 w'=>∃ (x28_2:Int),v28=.int .i64 x28_2∧Aside0 (impl_GoodStats.l0 kq l0_1 (l0_1.length:Int) x28_2=some r)∧Aside0 (kq≤kj1)∧Aside0 (w'.heap[gb255]?=some (.cells #[(.slice A0_0 l0_0.length c0_0),(.slice A0_1 l0_1.length c0_1)] 29 (0,0)))∧Aside0 (Below w.heap.size w w'))
    case atStart=>exact ⟨(0),(by first|rfl|(simp;done)|(simp [*];done)),H',⟨Nat.le_refl _⟩,⟨by (with_reducible repeat (first|refine qN ?_ _|refine qW ?_|refine qL ?_ _));exact BK255.out⟩,⟨by repeat (first|(with_reducible first|exact HB.out|apply qA|apply qD|apply qO|refine qS ?_ GE255.out)|exact HB.out)⟩⟩
    case round =>
     clear H';try clear c1
     try clear c2
     try clear p2
     try clear c4
     try clear c5
     try clear c6
     try clear c6b0
     try clear c6b1
     try clear c6b2
     try clear c12
     try clear hcz10_0
     try clear hcz10_1
     try clear hcz11_0
     try clear hcz11_1
     try clear hcz13_0
     try clear hcz13_1
     try clear hcz8_0
     try clear hcz8_1
     try clear hfz10_0
     try clear hfz10_1
     try clear hfz11_0
     try clear hfz11_1
     try clear hfz13_0
     try clear hfz13_1
     try clear hfz8_0
     try clear hfz8_1
     try clear p2
     obtain ⟨x28_2,rfl,HA,HK2,BK255,HB⟩:=hrel;cases gk with
     | zero=>exact absurd HA.out (by simp [impl_GoodStats.l0])
     | succ k2 =>
      have H:=HA.out;clear HA;simp only [impl_GoodStats.l0] at H;by_cases c14:x28_2 < (l0_1.length:Int)
      ·rw [if_pos c14] at H;have c14b0:decide (x28_2 < (l0_1.length:Int))=true:=decide_eq_true c14;clear c14;by_cases c15:0≤x28_2
       ·rw [if_pos c15] at H;have c15b0:decide (0≤x28_2)=true:=decide_eq_true c15;clear c15;by_cases c16:x28_2 < (l0_1.length:Int)
        ·rw [if_pos c16] at H;have c16b0:decide (x28_2 < (l0_1.length:Int))=true:=decide_eq_true c16;clear c16;by_cases c17:((rd_L1 l0_1 x28_2).length:Int)=x28_2
         ·rw [if_pos c17] at H;have c17b0:(((rd_L1 l0_1 x28_2).length:Int) == x28_2)=true:=beq_iff_eq.mpr c17;have c17b1:(((rd_L1 l0_1 x28_2).length:Int) != x28_2)=false:=bne_eq_false_iff_eq.mpr c17;clear c17;replace H:=Option.bind_eq_some_iff.mp H;obtain ⟨t259,A180,H⟩:=H;replace H:(if t259=true then (impl_GoodStats.l0 k2 l0_1 (l0_1.length:Int) (wrap64 (x28_2 + 1))) else (some false))=some r:=H;have A18:=qK A180;clear A180;by_cases c19:t259=true
          ·subst c19;have H1:(impl_GoodStats.l0 k2 l0_1 (l0_1.length:Int) (wrap64 (x28_2 + 1)))=some r:=by rw [if_pos rfl] at H;exact H
           clear H;have H:=H1;clear H1;have H':=qK H;clear H;have p258:0≤(x28_2:Int):=of_decide_eq_true (by first|(with_reducible assumption)|assumption);have q258:x28_2 < (l0_1.length:Int):=of_decide_eq_true (by first|(with_reducible assumption)|assumption);obtain ⟨ad258,A258_0,c258_0,e258,hx258_0,hl258_0,hi258_0⟩:=at_L1 HR0_1.out x28_2 p258 q258;cases e258
           replace hx258_0:=(HB.out.cell (World.block_lt_of_cell? w _ hx258_0)).trans hx258_0;have HR258_0:=qK hi258_0;have HC258_0:=qK hl258_0;clear hi258_0 hl258_0;replace p258:=eq_true p258;replace q258:=eq_true q258;go_wp2_with (first|(go_at_call 46;(with_reducible refine (areAll_impl_GoodStats_2.calls _ _ (rd_L1 l0_1 x28_2)  true _ ?side1 ?side2 A18.out).mono ?_);(case side1=>repeat (first|exact (cB HR258_0.out HB.out)|(with_reducible first|refine cL ?_ _|refine cN ?_ _|refine cW ?_)));(case side2=>exact HC258_0.out);rintro e w20 ⟨rfl,hb⟩;have n0_:=qK (qB (g:=gb255) (o:=_) (by (with_reducible repeat (first|refine qN ?_ _|refine qW ?_|refine qL ?_ _));exact BK255.out) hb);have n1_:=qK (qT (by repeat (with_reducible first|exact HB.out|apply qA|apply qD|apply qO|refine qS ?_ GE255.out)) hb);clear BK255;clear HB;have BK255:=n0_;have HB:=n1_;clear n0_ n1_;(try clear hb)))
           go_roundg k2
           case measure=>have:=HJ1.out;have:=HK2.out;omega
           case rel=>exact ⟨(wrap64 (x28_2 + 1)),(by first|rfl|(simp;done)|(simp [*];done)),H',⟨by have:=HJ1.out;have:=HK2.out;omega⟩,⟨by (with_reducible repeat (first|refine qN ?_ _|refine qW ?_|refine qL ?_ _));exact BK255.out⟩,⟨by repeat (first|(with_reducible first|exact HB.out|apply qA|apply qD|apply qO|refine qS ?_ GE255.out)|exact HB.out)⟩⟩
          ·replace c19:=Bool.eq_false_iff.mpr c19;subst c19;have H1:(some false)=some r:=by rw [if_neg (show ¬ (false=true) by decide)] at H;exact H
           clear H;have H:=H1;clear H1;obtain rfl:=Option.some.inj H;have p258:0≤(x28_2:Int):=of_decide_eq_true (by first|(with_reducible assumption)|assumption);have q258:x28_2 < (l0_1.length:Int):=of_decide_eq_true (by first|(with_reducible assumption)|assumption);obtain ⟨ad258,A258_0,c258_0,e258,hx258_0,hl258_0,hi258_0⟩:=at_L1 HR0_1.out x28_2 p258 q258;cases e258
           replace hx258_0:=(HB.out.cell (World.block_lt_of_cell? w _ hx258_0)).trans hx258_0;have HR258_0:=qK hi258_0;have HC258_0:=qK hl258_0;clear hi258_0 hl258_0;replace p258:=eq_true p258;replace q258:=eq_true q258;go_wp2_with (first|(go_at_call 46;(with_reducible refine (areAll_impl_GoodStats_2.calls _ _ (rd_L1 l0_1 x28_2)  false _ ?side1 ?side2 A18.out).mono ?_);(case side1=>repeat (first|exact (cB HR258_0.out HB.out)|(with_reducible first|refine cL ?_ _|refine cN ?_ _|refine cW ?_)));(case side2=>exact HC258_0.out);rintro e w21 ⟨rfl,hb⟩;have n0_:=qK (qB (g:=gb255) (o:=_) (by (with_reducible repeat (first|refine qN ?_ _|refine qW ?_|refine qL ?_ _));exact BK255.out) hb);have n1_:=qK (qT (by repeat (with_reducible first|exact HB.out|apply qA|apply qD|apply qO|refine qS ?_ GE255.out)) hb);clear BK255;clear HB;have BK255:=n0_;have HB:=n1_;clear n0_ n1_;(try clear hb)))
           go_ret
           exact ⟨by first|rfl|(simp [errW_none,errW_some] <;> rfl)|(simp [*,errW_none,errW_some] <;> rfl),by repeat (first|(with_reducible first|exact HB.out|apply qA|apply qD|apply qO|refine qS ?_ GE255.out)|exact HB.out)⟩
         ·rw [if_neg c17] at H;have c17b0:(((rd_L1 l0_1 x28_2).length:Int) == x28_2)=false:=beq_eq_false_iff_ne.mpr c17;have c17b1:(((rd_L1 l0_1 x28_2).length:Int) != x28_2)=true:=bne_iff_ne.mpr c17;obtain rfl:=Option.some.inj H;have p258:0≤(x28_2:Int):=of_decide_eq_true (by first|(with_reducible assumption)|assumption);have q258:x28_2 < (l0_1.length:Int):=of_decide_eq_true (by first|(with_reducible assumption)|assumption);obtain ⟨ad258,A258_0,c258_0,e258,hx258_0,hl258_0,hi258_0⟩:=at_L1 HR0_1.out x28_2 p258 q258;cases e258
          replace hx258_0:=(HB.out.cell (World.block_lt_of_cell? w _ hx258_0)).trans hx258_0;have HR258_0:=qK hi258_0;have HC258_0:=qK hl258_0;clear hi258_0 hl258_0;replace p258:=eq_true p258;replace q258:=eq_true q258;go_wp2
          go_ret
          exact ⟨by first|rfl|(simp [errW_none,errW_some] <;> rfl)|(simp [*,errW_none,errW_some] <;> rfl),by repeat (first|(with_reducible first|exact HB.out|apply qA|apply qD|apply qO|refine qS ?_ GE255.out)|exact HB.out)⟩
        ·rw [if_neg c16] at H;exact absurd H (by simp)
       ·rw [if_neg c15] at H;exact absurd H (by simp)
      ·rw [if_neg c14] at H;have c14b0:decide (x28_2 < (l0_1.length:Int))=false:=decide_eq_false c14;clear c14;obtain rfl:=Option.some.inj H;go_wp2
       go_ret
       exact ⟨by first|rfl|(simp [errW_none,errW_some] <;> rfl)|(simp [*,errW_none,errW_some] <;> rfl),by repeat (first|(with_reducible first|exact HB.out|apply qA|apply qD|apply qO|refine qS ?_ GE255.out)|exact HB.out)⟩

/-! ### impl_isPlace: function 71 -/
def impl_isPlace.f (a0:Int) (a1:Int):Option (Bool):=if a0 ≥ 0 then (some (decide (a0 < a1))) else (some false)
set_option maxHeartbeats 8000000 in
set_option maxRecDepth 100000 in
theorem impl_isPlace.calls (a0:Int) (a1:Int) (r:Bool) (w:World) (h:impl_isPlace.f a0 a1=some r) :
  Calls Try.prog 71 #[.int .i64 a0,.int .i64 a1] w fun e w'=>e=.returned (.bool r)∧Drawn0 w w':=by
 have H:(if a0 ≥ 0 then (some (decide (a0 < a1))) else (some false))=some r:=h;clear h;by_cases c3:a0 ≥ 0
 ·rw [if_pos c3] at H;have c3b0:decide (0≤a0)=true:=decide_eq_true c3;clear c3;obtain rfl:=Option.some.inj H;go_enter Try.func71,Try.ntmps71
  go_wp2
  go_ret
  exact ⟨by first|rfl|(simp;done)|(simp [*];done),by repeat (first|exact Drawn0.refl _|apply Drawn0.step)⟩
 ·rw [if_neg c3] at H;have c3b0:decide (0≤a0)=false:=decide_eq_false c3;clear c3;obtain rfl:=Option.some.inj H;go_enter Try.func71,Try.ntmps71
  go_wp2
  go_ret
  exact ⟨by first|rfl|(simp;done)|(simp [*];done),by repeat (first|exact Drawn0.refl _|apply Drawn0.step)⟩

/-! ### impl_areRising: function 67 -/
def impl_areRising.l0 : Nat→List Int→Int→List Int→Int→Int→Option (Bool)
 | 0,_,_,_,_,_=>none
 | k + 1,x0,x1,x7,x8,x9=>if x9 < x8 then (if 0≤x9 then (if x9 < (x7.length:Int) then ((impl_isPlace.f (rd x7 x9) x1).bind fun t261=>(if t261=true then (if x9 > 0 then (if 0≤(wrap64 (x9 - 1)) then (if (wrap64 (x9 - 1)) < (x0.length:Int) then (if (rd x7 x9)≤(rd x0 (wrap64 (x9 - 1))) then (some false) else (impl_areRising.l0 k x0 x1 x7 x8 (wrap64 (x9 + 1)))) else (none)) else (none)) else (impl_areRising.l0 k x0 x1 x7 x8 (wrap64 (x9 + 1)))) else (some false))) else (none)) else (none)) else (some true)
def impl_areRising.f (k:Nat) (l0:List Int) (a1:Int):Option (Bool):=impl_areRising.l0 k l0 a1 l0 (l0.length:Int) 0
theorem impl_areRising.mono_l : ∀ k,(∀ y0 y1 y2 y3 y4,LeO (impl_areRising.l0 k y0 y1 y2 y3 y4) (impl_areRising.l0 (k + 1) y0 y1 y2 y3 y4))
 | 0=>fun _ _ _ _ _ r h=>by simp [impl_areRising.l0] at h
 | k + 1=>by
  have ih0:=impl_areRising.mono_l k
  ·intro y0 y1 y2 y3 y4;unfold impl_areRising.l0
   repeat' first
   | (with_reducible exact ih0 _ _ _ _ _)
   | (with_reducible exact LeO.refl _)
   | (with_reducible exact LeO.none _)
   | (with_reducible refine LeO.ite ?_ ?_)
   | (with_reducible refine LeO.bind ?_ (fun _=>?_))
   | exact ih0 _ _ _ _ _
   | exact LeO.none _
   | refine LeO.ite ?_ ?_
   | refine LeO.bind ?_ (fun _=>?_)
theorem impl_areRising.mono : ∀ a0 a1 k,LeO (impl_areRising.f k a0 a1) (impl_areRising.f (k + 1) a0 a1):=by
 intro a0 a1 k;have ih0:=impl_areRising.mono_l k;unfold impl_areRising.f
 repeat' first
   | (with_reducible exact ih0 _ _ _ _ _)
   | (with_reducible exact LeO.refl _)
   | (with_reducible exact LeO.none _)
   | (with_reducible refine LeO.ite ?_ ?_)
   | (with_reducible refine LeO.bind ?_ (fun _=>?_))
   | exact ih0 _ _ _ _ _
   | exact LeO.none _
   | refine LeO.ite ?_ ?_
   | refine LeO.bind ?_ (fun _=>?_)
set_option maxHeartbeats 8000000 in
set_option maxRecDepth 100000 in
theorem impl_areRising.calls (k:Nat) (A0:Option Addr) (c0:Nat) (l0:List Int) (a1:Int) (r:Bool) (w:World) (hr0:Kd.C (Kd.int .i64) w A0 l0.length l0) (hc0:l0.length≤c0) (h:impl_areRising.f k l0 a1=some r) :
  Calls Try.prog 67 #[.slice A0 l0.length c0,.int .i64 a1] w fun e w'=>e=.returned (.bool r)∧Drawn0 w w':=by
 have HR0:=qK hr0;have HC0:=qK hc0;clear hr0 hc0;have H:(impl_areRising.l0 k l0 a1 l0 (l0.length:Int) 0)=some r:=h;clear h;have H':=qK H;clear H;go_enter Try.func67,Try.ntmps67
 go_wp2
 go_loopg [9] k (fun kq v9 w'=>∃ (x9_1:Int),v9=.int .i64 x9_1∧Aside0 (impl_areRising.l0 kq l0 a1 l0 (l0.length:Int) x9_1=some r)∧Aside0 (kq≤k)∧Drawn0 w w')
 case atStart=>exact ⟨(0),(by first|rfl|(simp;done)|(simp [*];done)),H',⟨Nat.le_refl _⟩,by repeat (first|exact Drawn0.refl _|apply Drawn0.step)⟩
 case round =>
  clear H';try clear p2
  obtain ⟨x9_1,rfl,HA,HK1,⟨m1,rfl⟩⟩:=hrel;cases gk with
  | zero=>exact absurd HA.out (by simp [impl_areRising.l0])
  | succ k1 =>
   have H:=HA.out;clear HA;simp only [impl_areRising.l0] at H;by_cases c3:x9_1 < (l0.length:Int)
   ·rw [if_pos c3] at H;have c3b0:decide (x9_1 < (l0.length:Int))=true:=decide_eq_true c3;clear c3;by_cases c4:0≤x9_1
    ·rw [if_pos c4] at H;have c4b0:decide (0≤x9_1)=true:=decide_eq_true c4;clear c4;by_cases c5:x9_1 < (l0.length:Int)
     ·rw [if_pos c5] at H;have c5b0:decide (x9_1 < (l0.length:Int))=true:=decide_eq_true c5;clear c5;replace H:=Option.bind_eq_some_iff.mp H;obtain ⟨t261,A60,H⟩:=H;replace H:(if t261=true then (if x9_1 > 0 then (if 0≤(wrap64 (x9_1 - 1)) then (if (wrap64 (x9_1 - 1)) < (l0.length:Int) then (if (rd l0 x9_1)≤(rd l0 (wrap64 (x9_1 - 1))) then (some false) else (impl_areRising.l0 k1 l0 a1 l0 (l0.length:Int) (wrap64 (x9_1 + 1)))) else (none)) else (none)) else (impl_areRising.l0 k1 l0 a1 l0 (l0.length:Int) (wrap64 (x9_1 + 1)))) else (some false))=some r:=H;have A6:=qK A60;clear A60;by_cases c7:t261=true
      ·subst c7;have H1:(if x9_1 > 0 then (if 0≤(wrap64 (x9_1 - 1)) then (if (wrap64 (x9_1 - 1)) < (l0.length:Int) then (if (rd l0 x9_1)≤(rd l0 (wrap64 (x9_1 - 1))) then (some false) else (impl_areRising.l0 k1 l0 a1 l0 (l0.length:Int) (wrap64 (x9_1 + 1)))) else (none)) else (none)) else (impl_areRising.l0 k1 l0 a1 l0 (l0.length:Int) (wrap64 (x9_1 + 1))))=some r:=by rw [if_pos rfl] at H;exact H
       clear H;have H:=H1;clear H1;by_cases c8:x9_1 > 0
       ·rw [if_pos c8] at H;have c8b0:decide (0 < x9_1)=true:=decide_eq_true c8;clear c8;obtain ⟨ji9,hji9⟩:∃ j_:Int,(wrap64 (x9_1 - 1))=j_:=⟨_,rfl⟩;replace H:(if 0≤(ji9) then (if (ji9) < (l0.length:Int) then (if (rd l0 x9_1)≤(rd l0 (ji9)) then (some false) else (impl_areRising.l0 k1 l0 a1 l0 (l0.length:Int) (wrap64 (x9_1 + 1)))) else (none)) else (none))=some r:=by first|(rw [hji9] at H;exact H)|(simp only [hji9] at H ⊢;exact H)
        (try rw [hji9] at A6);have hji9w:(IntKind.i64.wrap (x9_1 - 1))=ji9:=(i64_w _).trans hji9;by_cases c10:0≤(ji9)
        ·rw [if_pos c10] at H;have c10b0:decide (0≤(ji9))=true:=decide_eq_true c10;clear c10;by_cases c11:(ji9) < (l0.length:Int)
         ·rw [if_pos c11] at H;have c11b0:decide ((ji9) < (l0.length:Int))=true:=decide_eq_true c11;clear c11;by_cases c12:(rd l0 x9_1)≤(rd l0 (ji9))
          ·rw [if_pos c12] at H;have c12b0:decide ((rd l0 x9_1)≤(rd l0 (ji9)))=true:=decide_eq_true c12;clear c12;obtain rfl:=Option.some.inj H;have p260:0≤(x9_1:Int):=of_decide_eq_true (by first|(with_reducible assumption)|assumption);have q260:x9_1 < (l0.length:Int):=of_decide_eq_true (by first|(with_reducible assumption)|assumption);obtain ⟨ad260,e260,hx260_0⟩:=Kd.at_int HR0.out x9_1 p260 q260;cases e260
           replace p260:=eq_true p260;replace q260:=eq_true q260;go_wp2_with (first|((with_reducible refine gate_callee (f:=71) rfl ?_);refine goesL_ (some 16) rfl rfl Try.func71 (by kernel_rfl) rfl #[.int .i64 (rd l0 x9_1),.int .i64 a1] rfl (by (try simp only [mT,mC,mN]);first|done|rfl|(simp only [lD,lT];rfl)) ?_;(with_reducible refine (impl_isPlace.calls (rd l0 x9_1) a1 true _ A6.out).mono ?_);rintro e w' ⟨rfl,⟨nd,rfl⟩⟩;refine ⟨_,rfl,?_⟩;have p262:0≤((ji9):Int):=of_decide_eq_true (by first|(with_reducible assumption)|assumption);have q262:(ji9) < (l0.length:Int):=of_decide_eq_true (by first|(with_reducible assumption)|assumption);obtain ⟨ad262,e262,hx262_0⟩:=Kd.at_int HR0.out (ji9) p262 q262;obtain rfl:ad260=ad262:=(by injection e262);replace p262:=eq_true p262;replace q262:=eq_true q262))
           go_ret
           exact ⟨by first|rfl|(simp;done)|(simp only [← hji9] <;> (first|rfl|simp))|(simp [*];done),by repeat (first|exact Drawn0.refl _|apply Drawn0.step)⟩
          ·rw [if_neg c12] at H;have c12b0:decide ((rd l0 x9_1)≤(rd l0 (ji9)))=false:=decide_eq_false c12;clear c12;have H':=qK H;clear H;have p260:0≤(x9_1:Int):=of_decide_eq_true (by first|(with_reducible assumption)|assumption);have q260:x9_1 < (l0.length:Int):=of_decide_eq_true (by first|(with_reducible assumption)|assumption);obtain ⟨ad260,e260,hx260_0⟩:=Kd.at_int HR0.out x9_1 p260 q260;cases e260
           replace p260:=eq_true p260;replace q260:=eq_true q260;go_wp2_with (first|((with_reducible refine gate_callee (f:=71) rfl ?_);refine goesL_ (some 16) rfl rfl Try.func71 (by kernel_rfl) rfl #[.int .i64 (rd l0 x9_1),.int .i64 a1] rfl (by (try simp only [mT,mC,mN]);first|done|rfl|(simp only [lD,lT];rfl)) ?_;(with_reducible refine (impl_isPlace.calls (rd l0 x9_1) a1 true _ A6.out).mono ?_);rintro e w' ⟨rfl,⟨nd,rfl⟩⟩;refine ⟨_,rfl,?_⟩;have p262:0≤((ji9):Int):=of_decide_eq_true (by first|(with_reducible assumption)|assumption);have q262:(ji9) < (l0.length:Int):=of_decide_eq_true (by first|(with_reducible assumption)|assumption);obtain ⟨ad262,e262,hx262_0⟩:=Kd.at_int HR0.out (ji9) p262 q262;obtain rfl:ad260=ad262:=(by injection e262);replace p262:=eq_true p262;replace q262:=eq_true q262))
           go_roundg k1
           case measure=>have:=HK1.out;omega
           case rel=>exact ⟨(wrap64 (x9_1 + 1)),(by first|rfl|(simp;done)|(simp [*];done)),H',⟨by have:=HK1.out;omega⟩,by repeat (first|exact Drawn0.refl _|apply Drawn0.step)⟩
         ·rw [if_neg c11] at H;exact absurd H (by simp)
        ·rw [if_neg c10] at H;exact absurd H (by simp)
       ·rw [if_neg c8] at H;have c8b0:decide (0 < x9_1)=false:=decide_eq_false c8;clear c8;have H':=qK H;clear H;have p260:0≤(x9_1:Int):=of_decide_eq_true (by first|(with_reducible assumption)|assumption);have q260:x9_1 < (l0.length:Int):=of_decide_eq_true (by first|(with_reducible assumption)|assumption);obtain ⟨ad260,e260,hx260_0⟩:=Kd.at_int HR0.out x9_1 p260 q260;cases e260
        replace p260:=eq_true p260;replace q260:=eq_true q260;go_wp2_with (first|((with_reducible refine gate_callee (f:=71) rfl ?_);refine goesL_ (some 16) rfl rfl Try.func71 (by kernel_rfl) rfl #[.int .i64 (rd l0 x9_1),.int .i64 a1] rfl (by (try simp only [mT,mC,mN]);first|done|rfl|(simp only [lD,lT];rfl)) ?_;(with_reducible refine (impl_isPlace.calls (rd l0 x9_1) a1 true _ A6.out).mono ?_);rintro e w' ⟨rfl,⟨nd,rfl⟩⟩;refine ⟨_,rfl,?_⟩))
        go_roundg k1
        case measure=>have:=HK1.out;omega
        case rel=>exact ⟨(wrap64 (x9_1 + 1)),(by first|rfl|(simp;done)|(simp [*];done)),H',⟨by have:=HK1.out;omega⟩,by repeat (first|exact Drawn0.refl _|apply Drawn0.step)⟩
      ·replace c7:=Bool.eq_false_iff.mpr c7;subst c7;have H1:(some false)=some r:=by rw [if_neg (show ¬ (false=true) by decide)] at H;exact H
       clear H;have H:=H1;clear H1;obtain rfl:=Option.some.inj H;have p260:0≤(x9_1:Int):=of_decide_eq_true (by first|(with_reducible assumption)|assumption);have q260:x9_1 < (l0.length:Int):=of_decide_eq_true (by first|(with_reducible assumption)|assumption);obtain ⟨ad260,e260,hx260_0⟩:=Kd.at_int HR0.out x9_1 p260 q260;cases e260
       replace p260:=eq_true p260;replace q260:=eq_true q260;go_wp2_with (first|((with_reducible refine gate_callee (f:=71) rfl ?_);refine goesL_ (some 16) rfl rfl Try.func71 (by kernel_rfl) rfl #[.int .i64 (rd l0 x9_1),.int .i64 a1] rfl (by (try simp only [mT,mC,mN]);first|done|rfl|(simp only [lD,lT];rfl)) ?_;(with_reducible refine (impl_isPlace.calls (rd l0 x9_1) a1 false _ A6.out).mono ?_);rintro e w' ⟨rfl,⟨nd,rfl⟩⟩;refine ⟨_,rfl,?_⟩))
       go_ret
       exact ⟨by first|rfl|(simp;done)|(simp [*];done),by repeat (first|exact Drawn0.refl _|apply Drawn0.step)⟩
     ·rw [if_neg c5] at H;exact absurd H (by simp)
    ·rw [if_neg c4] at H;exact absurd H (by simp)
   ·rw [if_neg c3] at H;have c3b0:decide (x9_1 < (l0.length:Int))=false:=decide_eq_false c3;clear c3;obtain rfl:=Option.some.inj H;go_wp2
    go_ret
    exact ⟨by first|rfl|(simp;done)|(simp [*];done),by repeat (first|exact Drawn0.refl _|apply Drawn0.step)⟩

/-! ### impl_isPart: function 56 -/
def impl_isPart.f (k:Nat) (l0:List Int) (a1:Int):Option (Bool):=if (l0.length:Int) > 0 then ((impl_areRising.f k l0 a1).bind fun t263=>(some t263)) else (some false)
theorem impl_isPart.mono : ∀ a0 a1 k,LeO (impl_isPart.f k a0 a1) (impl_isPart.f (k + 1) a0 a1):=by
 intro a0 a1 k;unfold impl_isPart.f
 repeat' first
   | (with_reducible exact impl_areRising.mono _ _ _)
   | (with_reducible exact LeO.refl _)
   | (with_reducible exact LeO.none _)
   | (with_reducible refine LeO.ite ?_ ?_)
   | (with_reducible refine LeO.bind ?_ (fun _=>?_))
   | exact impl_areRising.mono _ _ _
   | exact LeO.none _
   | refine LeO.ite ?_ ?_
   | refine LeO.bind ?_ (fun _=>?_)
set_option maxHeartbeats 8000000 in
set_option maxRecDepth 100000 in
theorem impl_isPart.calls (k:Nat) (A0:Option Addr) (c0:Nat) (l0:List Int) (a1:Int) (r:Bool) (w:World) (hr0:Kd.C (Kd.int .i64) w A0 l0.length l0) (hc0:l0.length≤c0) (h:impl_isPart.f k l0 a1=some r) :
  Calls Try.prog 56 #[.slice A0 l0.length c0,.int .i64 a1] w fun e w'=>e=.returned (.bool r)∧Drawn0 w w':=by
 have HR0:=qK hr0;have HC0:=qK hc0;clear hr0 hc0;have H:(if (l0.length:Int) > 0 then ((impl_areRising.f k l0 a1).bind fun t263=>(some t263)) else (some false))=some r:=h;clear h;by_cases c3:(l0.length:Int) > 0
 ·rw [if_pos c3] at H;have c3b0:decide (0 < (l0.length:Int))=true:=decide_eq_true c3;have c3b1:decide (0 < l0.length)=true:=decide_eq_true (by omega);clear c3;replace H:=Option.bind_eq_some_iff.mp H;obtain ⟨t263,A40,H⟩:=H;replace H:(some t263)=some r:=H;have A4:=qK A40;clear A40;obtain rfl:=Option.some.inj H;go_enter Try.func56,Try.ntmps56
  go_wp2_with (first|(go_at_call 67;(with_reducible refine (impl_areRising.calls k _ _ l0 a1 t263 _ ?side1 ?side2 A4.out).mono ?_);(case side1=>repeat (first|exact HR0.out|(with_reducible first|refine cL ?_ _|refine cN ?_ _|refine cW ?_)));(case side2=>exact HC0.out);rintro e w' ⟨rfl,⟨nd,rfl⟩⟩))
  go_ret
  exact ⟨by first|rfl|(simp;done)|(simp [*];done),by repeat (first|exact Drawn0.refl _|apply Drawn0.step)⟩
 ·rw [if_neg c3] at H;have c3b0:decide (0 < (l0.length:Int))=false:=decide_eq_false c3;have c3b1:decide (0 < l0.length)=false:=decide_eq_false (by omega);clear c3;obtain rfl:=Option.some.inj H;go_enter Try.func56,Try.ntmps56
  go_wp2
  go_ret
  exact ⟨by first|rfl|(simp;done)|(simp [*];done),by repeat (first|exact Drawn0.refl _|apply Drawn0.step)⟩

/-! ### impl_Stats_areSome: function 34 -/
def impl_Stats_areSome.f (k:Nat) (l0_0:List Int) (l0_1:List (List Int)) (l1:List Int):Option (Bool):=(impl_isPart.f k l1 (l0_0.length:Int)).bind fun t265=>(some t265)
theorem impl_Stats_areSome.mono : ∀ a0 a1 a2 k,LeO (impl_Stats_areSome.f k a0 a1 a2) (impl_Stats_areSome.f (k + 1) a0 a1 a2):=by
 intro a0 a1 a2 k;unfold impl_Stats_areSome.f
 repeat' first
   | (with_reducible exact impl_isPart.mono _ _ _)
   | (with_reducible exact LeO.refl _)
   | (with_reducible exact LeO.none _)
   | (with_reducible refine LeO.ite ?_ ?_)
   | (with_reducible refine LeO.bind ?_ (fun _=>?_))
   | exact impl_isPart.mono _ _ _
   | exact LeO.none _
   | refine LeO.ite ?_ ?_
   | refine LeO.bind ?_ (fun _=>?_)
set_option maxHeartbeats 8000000 in
set_option maxRecDepth 100000 in
theorem impl_Stats_areSome.calls (k:Nat) (A0_0:Option Addr) (c0_0:Nat) (l0_0:List Int) (A0_1:Option Addr) (c0_1:Nat) (l0_1:List (List Int)) (A1:Option Addr) (c1:Nat) (l1:List Int) (r:Bool) (w:World) (hr0_0:Kd.C (Kd.int .i64) w A0_0 l0_0.length l0_0) (hc0_0:l0_0.length≤c0_0) (hr0_1:Kd.C (Kd.slice 3 (Kd.int .i64)) w A0_1 l0_1.length l0_1) (hc0_1:l0_1.length≤c0_1) (hr1:Kd.C (Kd.int .i64) w A1 l1.length l1) (hc1:l1.length≤c1) (h:impl_Stats_areSome.f k l0_0 l0_1 l1=some r) :
  Calls Try.prog 34 #[.agg #[.slice A0_0 l0_0.length c0_0,.slice A0_1 l0_1.length c0_1],.slice A1 l1.length c1] w fun e w'=>e=.returned (.bool r)∧Below w.heap.size w w':=by
 have hu29:=Try.underlying29;have HR0_0:=qK hr0_0;have HC0_0:=qK hc0_0;clear hr0_0 hc0_0;have HR0_1:=qK hr0_1;have HC0_1:=qK hc0_1;clear hr0_1 hc0_1;have HR1:=qK hr1;have HC1:=qK hc1;clear hr1 hc1;have HB:=qK (Below.refl w.heap.size w);have H:((impl_isPart.f k l1 (l0_0.length:Int)).bind fun t265=>(some t265))=some r:=h;clear h;replace H:=Option.bind_eq_some_iff.mp H;obtain ⟨t265,A30,H⟩:=H;replace H:(some t265)=some r:=H;have A3:=qK A30;clear A30;obtain rfl:=Option.some.inj H;go_enter Try.func34,Try.ntmps34
 go_wp2_with (first|((with_reducible refine gate_dst (N:=2) rfl ?_);refine box_event ?hg (N:=2) ?hd (cs:=#[.slice A0_0 l0_0.length c0_0,.slice A0_1 l0_1.length c0_1]) (t:=29) ?hr ?_;(case hd=>rfl);(case hg=>rfl);(case hr=>(go_simp;try rfl));intro gb264 hg w4 hbox hb;have n0_:=qK (qT (by repeat (with_reducible first|exact HB.out|apply qA|apply qD|apply qO)) hb);have n1_:=qK (hbox);have n2_:=qK ((by rw [hg];exact (qZ (by repeat (with_reducible first|exact HB.out|apply qA|apply qD|apply qO))):w.heap.size≤gb264));have n3_:=qK ((by rw [hg];exact (qZ (by repeat (with_reducible first|exact HB.out|apply qA|apply qD|apply qO))):w.heap.size≤gb264));clear HB;have HB:=n0_;have BK264:=n1_;have GW264:=n2_;have GE264:=n3_;clear n0_ n1_ n2_ n3_;clear hb hbox hg;have hcz5_0:w4.cell? ⟨gb264,0,none⟩=some (.slice A0_0 l0_0.length c0_0):=(qC BK264.out 0).trans rfl;have hcz5_1:w4.cell? ⟨gb264,1,none⟩=some (.slice A0_1 l0_1.length c0_1):=(qC BK264.out 1).trans rfl;have hfz5_0:=qF BK264.out 0;have hfz5_1:=qF BK264.out 1)|((with_reducible refine gate_callee (f:=56) rfl ?_);refine goesL_ (some 9) rfl rfl Try.func56 (by kernel_rfl) rfl #[.slice A1 l1.length c1,.int .i64 (l0_0.length:Int)] rfl (by (try simp only [mT,mC,mN]);first|done|rfl|(simp only [lD,lT];rfl)) ?_;(with_reducible refine (impl_isPart.calls k _ _ l1 (l0_0.length:Int) t265 _ ?side1 ?side2 A3.out).mono ?_);(case side1=>repeat (first|exact (cB HR1.out HB.out)|(with_reducible first|refine cL ?_ _|refine cN ?_ _|refine cW ?_)));(case side2=>exact HC1.out);rintro e w' ⟨rfl,⟨nd,rfl⟩⟩;refine ⟨_,rfl,?_⟩))
 go_ret
 exact ⟨by first|rfl|(simp [errW_none,errW_some] <;> rfl)|(simp [*,errW_none,errW_some] <;> rfl),by repeat (first|(with_reducible first|exact HB.out|apply qA|apply qD|apply qO|refine qS ?_ GE264.out)|exact HB.out)⟩

/-! ### impl_set_list: function 40 -/
def impl_set_list.l0 : Nat→Int→List Int→Int→Option (List Int)
 | 0,_,_,_=>none
 | k + 1,x0,x3,x4=>if 0≤x4 then (if (shr .i64 x0 x4)=0 then (some x3) else (if (Go.bits .and .i64 (shr .i64 x0 x4) 1)=1 then (if x3.length < 17592186044416 then (impl_set_list.l0 k x0 (x3 ++ [x4]) (wrap64 (x4 + 1))) else (none)) else (impl_set_list.l0 k x0 x3 (wrap64 (x4 + 1))))) else (none)
def impl_set_list.f (k:Nat) (a0:Int):Option (List Int):=impl_set_list.l0 k a0 ([]:List Int) 0
theorem impl_set_list.mono_l : ∀ k,(∀ y0 y1 y2,LeO (impl_set_list.l0 k y0 y1 y2) (impl_set_list.l0 (k + 1) y0 y1 y2))
 | 0=>fun _ _ _ r h=>by simp [impl_set_list.l0] at h
 | k + 1=>by
  have ih0:=impl_set_list.mono_l k
  ·intro y0 y1 y2;unfold impl_set_list.l0
   repeat' first
   | (with_reducible exact ih0 _ _ _)
   | (with_reducible exact LeO.refl _)
   | (with_reducible exact LeO.none _)
   | (with_reducible refine LeO.ite ?_ ?_)
   | (with_reducible refine LeO.bind ?_ (fun _=>?_))
   | exact ih0 _ _ _
   | exact LeO.none _
   | refine LeO.ite ?_ ?_
   | refine LeO.bind ?_ (fun _=>?_)
theorem impl_set_list.mono : ∀ a0 k,LeO (impl_set_list.f k a0) (impl_set_list.f (k + 1) a0):=by
 intro a0 k;have ih0:=impl_set_list.mono_l k;unfold impl_set_list.f
 repeat' first
   | (with_reducible exact ih0 _ _ _)
   | (with_reducible exact LeO.refl _)
   | (with_reducible exact LeO.none _)
   | (with_reducible refine LeO.ite ?_ ?_)
   | (with_reducible refine LeO.bind ?_ (fun _=>?_))
   | exact ih0 _ _ _
   | exact LeO.none _
   | refine LeO.ite ?_ ?_
   | refine LeO.bind ?_ (fun _=>?_)
set_option maxHeartbeats 8000000 in
set_option maxRecDepth 100000 in
theorem impl_set_list.calls (k:Nat) (a0:Int) (r:List Int) (w:World) (h:impl_set_list.f k a0=some r) :
  Calls Try.prog 40 #[.int .i64 a0] w fun e w'=>∃ v0_:Value,e=.returned (v0_)∧Kd.R (Kd.int .i64) 3 w' w.heap.size (fun _=>True) v0_ r∧Below w.heap.size w w':=by
 have HB:=qK (Below.refl w.heap.size w);have H:(impl_set_list.l0 k a0 ([]:List Int) 0)=some r:=h;clear h;have H':=qK H;clear H;go_enter Try.func40,Try.ntmps40
 go_wp2
 go_loopg [3,4] k (fun kq v3 v4 w'=>∃ (x3_1:List Int) (x4_1:Int),v4=.int .i64 x4_1∧Aside0 (impl_set_list.l0 kq a0 x3_1 x4_1=some r)∧Aside0 (kq≤k)∧Aside0 (Kd.R (Kd.int .i64) 3 w' w.heap.size (fun _=>True) v3 x3_1)∧Aside0 (Below w.heap.size w w'))
 case atStart=>exact ⟨(([]:List Int)),(0),(by first|rfl|(simp;done)|(simp [*];done)),H',⟨Nat.le_refl _⟩,⟨by first|exact Kd.R_nil _ _ _ _ _|exact Kd.N_nil _ _ _ _ _|exact Kd.V_nil _ _ _ _ _|exact Kd.Q_nil _ _ _ _ _|exact Kd.S_nil _ _ _ _ _⟩,⟨by repeat (first|(with_reducible first|exact HB.out|apply qA|apply qD|apply qO)|exact HB.out)⟩⟩
 case round =>
  clear H';obtain ⟨x3_1,x4_1,rfl,HA,HK1,HO_3,HB⟩:=hrel;cases gk with
  | zero=>exact absurd HA.out (by simp [impl_set_list.l0])
  | succ k1 =>
   have H:=HA.out;clear HA;simp only [impl_set_list.l0] at H;by_cases c2:0≤x4_1
   ·rw [if_pos c2] at H;have c2b0:=eq_true c2;have c2b1:decide (0≤x4_1)=true:=decide_eq_true c2;clear c2;obtain ⟨ji3,hji3⟩:∃ j_:Int,(shr .i64 a0 x4_1)=j_:=⟨_,rfl⟩;replace H:(if (ji3)=0 then (some x3_1) else (if (Go.bits .and .i64 (ji3) 1)=1 then (if x3_1.length < 17592186044416 then (impl_set_list.l0 k1 a0 (x3_1 ++ [x4_1]) (wrap64 (x4_1 + 1))) else (none)) else (impl_set_list.l0 k1 a0 x3_1 (wrap64 (x4_1 + 1)))))=some r:=by first|(rw [hji3] at H;exact H)|(simp only [hji3] at H ⊢;exact H)
    have hji3_:(a0 / 2 ^ min x4_1.toNat 64)=ji3:=hji3;have hji3z:x4_1≤64→(a0 / 2 ^ x4_1.toNat)=ji3:=shr_small hji3;by_cases c4:(ji3)=0
    ·rw [if_pos c4] at H;have c4b0:((ji3) == 0)=true:=beq_iff_eq.mpr c4;have c4b1:((ji3) != 0)=false:=bne_eq_false_iff_eq.mpr c4;clear c4;obtain rfl:=Option.some.inj H;go_wp2
     go_ret
     exact ⟨_,by first|rfl|(simp [errW_none,errW_some] <;> rfl)|(simp only [← hji3];first|rfl|(simp [errW_none,errW_some] <;> rfl))|(simp [*,errW_none,errW_some] <;> rfl),by (with_reducible repeat (first|apply rL|apply rN|apply rW));exact HO_3.out,by repeat (first|(with_reducible first|exact HB.out|apply qA|apply qD|apply qO)|exact HB.out)⟩
    ·rw [if_neg c4] at H;have c4b0:((ji3) == 0)=false:=beq_eq_false_iff_ne.mpr c4;have c4b1:((ji3) != 0)=true:=bne_iff_ne.mpr c4;have c5b0:=eq_true (of_decide_eq_true (by first|(with_reducible assumption)|assumption):0≤x4_1);by_cases c6:(Go.bits .and .i64 (ji3) 1)=1
     ·rw [if_pos c6] at H;have c6b0:((Go.bits .and .i64 (ji3) 1) == 1)=true:=beq_iff_eq.mpr c6;have c6b1:((Go.bits .and .i64 (ji3) 1) != 1)=false:=bne_eq_false_iff_eq.mpr c6;clear c6;by_cases c7:x3_1.length < 17592186044416
      ·rw [if_pos c7] at H;have LMc7:=qK c7;clear c7;obtain ⟨y266,hy266⟩:∃ y_:List Int,y_=(x3_1 ++ [x4_1]):=⟨_,rfl⟩;replace H:(impl_set_list.l0 k1 a0 y266 (wrap64 (x4_1 + 1)))=some r:=by first|(rw [hy266];with_reducible exact H)|(have H2_:=(Option.bind_some _ _).symm.trans H;rw [hy266];with_reducible exact H2_)|(have H2_:=(Option.bind_some _ _).symm.trans H;with_reducible exact H2_)|with_reducible exact H|(rw [hy266];exact H)|exact H
       have Ny266:=qK hy266;clear hy266;have H':=qK H;clear H;go_wp2_with (first|((with_reducible refine gate_builtin (b:=.append) (xs:=#[.tmp 16,.tmp 18]) rfl ?_);at_builtin;refine Kd.R_append (Kd.int .i64) (w0:=w) w.heap.size rfl (.tmp 16) (.tmp 18) 22 3 (.int .i64 0) 8 rfl Try.underlying22 info3 rfl (by decide) (by omega) u3 x3_1 x4_1 [.int .i64 x4_1] (fun _=>True) (fun _=>False) rfl rfl ?aP (fun _ hk=>hk.elim) ?aF ?aO ?aB ?aS ?aL ?_;(case aP=>exact rfl);(case aB=>exact (by repeat (with_reducible first|exact HB.out|apply qA|apply qD|apply qO)));(case aF=>exact (fun _ _=>trivial));(case aO=>exact (by (with_reducible repeat (first|apply rL|apply rN|apply rW));exact HO_3.out));(case aS=>exact (qZ (by repeat (with_reducible first|exact HB.out|apply qA|apply qD|apply qO))));(case aL=>have:=LMc7.out;omega);intro v267 w8 ho hb hg hat;rw [← Ny266.out] at ho;have n0_:=qK (hb);have n1_:=qK (ho);clear HB;clear HO_3;have HB:=n0_;have HO268:=n1_;clear n0_ n1_;clear ho hb hg hat))
       go_roundg k1
       case measure=>have:=HK1.out;omega
       case rel=>exact ⟨(y266),(wrap64 (x4_1 + 1)),(by first|rfl|(simp;done)|(simp [*];done)),H',⟨by have:=HK1.out;omega⟩,⟨by (with_reducible repeat (first|apply rL|apply rN|apply rW));exact HO268.out⟩,⟨by repeat (first|(with_reducible first|exact HB.out|apply qA|apply qD|apply qO)|exact HB.out)⟩⟩
      ·rw [if_neg c7] at H;exact absurd H (by simp)
     ·rw [if_neg c6] at H;have c6b0:((Go.bits .and .i64 (ji3) 1) == 1)=false:=beq_eq_false_iff_ne.mpr c6;have c6b1:((Go.bits .and .i64 (ji3) 1) != 1)=true:=bne_iff_ne.mpr c6;have H':=qK H;clear H;go_wp2
      go_roundg k1
      case measure=>have:=HK1.out;omega
      case rel=>exact ⟨(x3_1),(wrap64 (x4_1 + 1)),(by first|rfl|(simp;done)|(simp [*];done)),H',⟨by have:=HK1.out;omega⟩,⟨by (with_reducible repeat (first|apply rL|apply rN|apply rW));exact HO_3.out⟩,⟨by repeat (first|(with_reducible first|exact HB.out|apply qA|apply qD|apply qO)|exact HB.out)⟩⟩
   ·rw [if_neg c2] at H;exact absurd H (by simp)

end Go.Proofs.Ytecebaeifmddnaa.PFnExactBestOrder
