/-
  A text of this claim's own, printed by a program of the session (wip/tools/xprint.py): functions of the program as Lean functions, each with what its call comes to.
-/
import Derived.Test.YtadfmbmnnekamaaPFnCoverx0
import Derived.Test.YtadfmbmnnekamaaPFnCoverx2
namespace Go.Proofs.Ytadfmbmnnekamaa.PFnCover
open Go.Proofs.YtadfmbmnnekamaaW.PrintWords renaming pw_below_drewN → qD, blk_cell → qC, below_drew1 → qO, below_alloc → qA, blk_frozen → qF, below_set → qS, blk_drewN → qN, blk_alloc → qL, blk_drew → qW, below_size → qZ, below_step → qT, blk_below → qB, blk_far → qR, blk_put → qP
open Go.Proofs.YtadfmbmnnekamaaW.PrintWords.Aside0 renaming mk → qK
open Bool renaming true → Y, false → Z
open List renaming setIfInBounds_toArray → sIb, set_cons_zero → sZ, set_cons_succ → sS, map_toArray → mT, map_cons → mC, map_nil → mN, length_drop → lD, length_take → lT
open Go.Proofs.YtadfmbmnnekamaaW.PrintWords.Kd renaming C_alloc → cL, C_drewN → cN, C_drew → cW, C_below → cB, R_alloc → rL, R_drewN → rN, R_drew → rW, R_below → rB
open Go.RowKit Go.Proofs.YtadfmbmnnekamaaW.PrintWords Go.Proofs.YtadfmbmnnekamaaW.PrintLast Go.Proofs.YtadfmbmnnekamaaW.PrintMore
attribute [local go_sem] max2_int min2_int max_two min_two max_three min_three max_four min_four   -- for this text's walks alone
set_option linter.unusedVariables false
set_option linter.unusedSimpArgs false

/-! ### spec_SameDepends: function 17 -/
mutual
def spec_SameDepends.j0 : Nat→List (S37)→List (S37)→Bool→Option (Bool × Bool)
 | 0,_,_,_=>none
 | k + 1,x0,x1,x21=>if x21=true then (some (false,false)) else (spec_SameDepends.l0 k x0 x1 x0 (x0.length:Int) 0)
def spec_SameDepends.l0 : Nat→List (S37)→List (S37)→List (S37)→Int→Int→Option (Bool × Bool)
 | 0,_,_,_,_,_=>none
 | k + 1,x0,x1,x22,x23,x24=>if x24 < x23 then (if 0≤x24 then (if x24 < (x22.length:Int) then ((spec_l7Implies.f k x1 ((rd_T37 x22 x24).f0) ((rd_T37 x22 x24).f1)).bind fun t448=>(if t448=true then (spec_SameDepends.l0 k x0 x1 x22 x23 (wrap64 (x24 + 1))) else (some (false,true)))) else (none)) else (none)) else (spec_SameDepends.l1 k x0 x1 (x1.length:Int) 0)
def spec_SameDepends.l1 : Nat→List (S37)→List (S37)→Int→Int→Option (Bool × Bool)
 | 0,_,_,_,_=>none
 | k + 1,x0,x33,x34,x35=>if x35 < x34 then (if 0≤x35 then (if x35 < (x33.length:Int) then ((spec_l7Implies.f k x0 ((rd_T37 x33 x35).f0) ((rd_T37 x33 x35).f1)).bind fun t451=>(if t451=true then (spec_SameDepends.l1 k x0 x33 x34 (wrap64 (x35 + 1))) else (some (false,true)))) else (none)) else (none)) else (some (true,true))
end
def spec_SameDepends.f (k:Nat) (l0:List (S37)) (l1:List (S37)) (a2:Int):Option (Bool × Bool):=(spec_GoodDepends.f k l0 a2).bind fun t444=>(if t444=true then ((spec_GoodDepends.f k l1 a2).bind fun t445=>(spec_SameDepends.j0 k l0 l1 (!t445))) else (spec_SameDepends.j0 k l0 l1 true))
theorem spec_SameDepends.mono_l : ∀ k,(∀ y0 y1 y2,LeO (spec_SameDepends.j0 k y0 y1 y2) (spec_SameDepends.j0 (k + 1) y0 y1 y2))∧(∀ y0 y1 y2 y3 y4,LeO (spec_SameDepends.l0 k y0 y1 y2 y3 y4) (spec_SameDepends.l0 (k + 1) y0 y1 y2 y3 y4))∧(∀ y0 y1 y2 y3,LeO (spec_SameDepends.l1 k y0 y1 y2 y3) (spec_SameDepends.l1 (k + 1) y0 y1 y2 y3))
 | 0=>⟨fun _ _ _ r h=>by simp [spec_SameDepends.j0] at h,fun _ _ _ _ _ r h=>by simp [spec_SameDepends.l0] at h,fun _ _ _ _ r h=>by simp [spec_SameDepends.l1] at h⟩
 | k + 1=>by
  obtain ⟨ih0,ih1,ih2⟩:=spec_SameDepends.mono_l k;refine ⟨?_,?_,?_⟩
  ·intro y0 y1 y2;unfold spec_SameDepends.j0
   repeat' first
   | (with_reducible exact ih0 _ _ _)
   | (with_reducible exact ih1 _ _ _ _ _)
   | (with_reducible exact ih2 _ _ _ _)
   | (with_reducible exact spec_GoodDepends.mono _ _ _)
   | (with_reducible exact spec_l7Implies.mono _ _ _ _)
   | (with_reducible exact LeO.refl _)
   | (with_reducible exact LeO.none _)
   | (with_reducible refine LeO.ite ?_ ?_)
   | (with_reducible refine LeO.bind ?_ (fun _=>?_))
   | exact ih0 _ _ _
   | exact ih1 _ _ _ _ _
   | exact ih2 _ _ _ _
   | exact spec_GoodDepends.mono _ _ _
   | exact spec_l7Implies.mono _ _ _ _
   | exact LeO.none _
   | refine LeO.ite ?_ ?_
   | refine LeO.bind ?_ (fun _=>?_)
  ·intro y0 y1 y2 y3 y4;unfold spec_SameDepends.l0
   repeat' first
   | (with_reducible exact ih0 _ _ _)
   | (with_reducible exact ih1 _ _ _ _ _)
   | (with_reducible exact ih2 _ _ _ _)
   | (with_reducible exact spec_GoodDepends.mono _ _ _)
   | (with_reducible exact spec_l7Implies.mono _ _ _ _)
   | (with_reducible exact LeO.refl _)
   | (with_reducible exact LeO.none _)
   | (with_reducible refine LeO.ite ?_ ?_)
   | (with_reducible refine LeO.bind ?_ (fun _=>?_))
   | exact ih0 _ _ _
   | exact ih1 _ _ _ _ _
   | exact ih2 _ _ _ _
   | exact spec_GoodDepends.mono _ _ _
   | exact spec_l7Implies.mono _ _ _ _
   | exact LeO.none _
   | refine LeO.ite ?_ ?_
   | refine LeO.bind ?_ (fun _=>?_)
  ·intro y0 y1 y2 y3;unfold spec_SameDepends.l1
   repeat' first
   | (with_reducible exact ih0 _ _ _)
   | (with_reducible exact ih1 _ _ _ _ _)
   | (with_reducible exact ih2 _ _ _ _)
   | (with_reducible exact spec_GoodDepends.mono _ _ _)
   | (with_reducible exact spec_l7Implies.mono _ _ _ _)
   | (with_reducible exact LeO.refl _)
   | (with_reducible exact LeO.none _)
   | (with_reducible refine LeO.ite ?_ ?_)
   | (with_reducible refine LeO.bind ?_ (fun _=>?_))
   | exact ih0 _ _ _
   | exact ih1 _ _ _ _ _
   | exact ih2 _ _ _ _
   | exact spec_GoodDepends.mono _ _ _
   | exact spec_l7Implies.mono _ _ _ _
   | exact LeO.none _
   | refine LeO.ite ?_ ?_
   | refine LeO.bind ?_ (fun _=>?_)
theorem spec_SameDepends.mono : ∀ a0 a1 a2 k,LeO (spec_SameDepends.f k a0 a1 a2) (spec_SameDepends.f (k + 1) a0 a1 a2):=by
 intro a0 a1 a2 k;obtain ⟨ih0,ih1,ih2⟩:=spec_SameDepends.mono_l k;unfold spec_SameDepends.f
 repeat' first
   | (with_reducible exact ih0 _ _ _)
   | (with_reducible exact ih1 _ _ _ _ _)
   | (with_reducible exact ih2 _ _ _ _)
   | (with_reducible exact spec_GoodDepends.mono _ _ _)
   | (with_reducible exact spec_l7Implies.mono _ _ _ _)
   | (with_reducible exact LeO.refl _)
   | (with_reducible exact LeO.none _)
   | (with_reducible refine LeO.ite ?_ ?_)
   | (with_reducible refine LeO.bind ?_ (fun _=>?_))
   | exact ih0 _ _ _
   | exact ih1 _ _ _ _ _
   | exact ih2 _ _ _ _
   | exact spec_GoodDepends.mono _ _ _
   | exact spec_l7Implies.mono _ _ _ _
   | exact LeO.none _
   | refine LeO.ite ?_ ?_
   | refine LeO.bind ?_ (fun _=>?_)
set_option maxHeartbeats 8000000 in
set_option maxRecDepth 100000 in
theorem spec_SameDepends.calls (k:Nat) (A0:Option Addr) (c0:Nat) (l0:List (S37)) (A1:Option Addr) (c1:Nat) (l1:List (S37)) (a2:Int) (r1:Bool) (r2:Bool) (w:World) (hr0:Kd.C k37 w A0 l0.length l0) (hc0:l0.length≤c0) (hr1:Kd.C k37 w A1 l1.length l1) (hc1:l1.length≤c1) (h:spec_SameDepends.f k l0 l1 a2=some (r1,r2)) :
  Calls Try.prog 17 #[.slice A0 l0.length c0,.slice A1 l1.length c1,.int .i64 a2] w fun e w'=>e=.returned (.tuple #[.bool r1,.bool r2])∧Below w.heap.size w w':=by
 have hu37:=Try.underlying37;have HR0:=qK hr0;have HC0:=qK hc0;clear hr0 hc0;have HR1:=qK hr1;have HC1:=qK hc1;clear hr1 hc1;have HB:=qK (Below.refl w.heap.size w);have H:((spec_GoodDepends.f k l0 a2).bind fun t444=>(if t444=true then ((spec_GoodDepends.f k l1 a2).bind fun t445=>(spec_SameDepends.j0 k l0 l1 (!t445))) else (spec_SameDepends.j0 k l0 l1 true)))=some (r1,r2):=h;clear h;have HC4:=qK H;clear H;go_enter Try.func17,Try.ntmps17
 go_upto_region 1 with (fail)
 go_cut [21] (fun v21 wc=>∃ (kq:Nat) (x21_3:Bool),v21=.bool x21_3∧Aside0 (spec_SameDepends.j0 kq l0 l1 x21_3=some (r1,r2))∧Aside0 (kq≤k)∧Aside0 (Below w.heap.size w wc))
 case first =>
  have H:=HC4.out;clear HC4;replace H:=Option.bind_eq_some_iff.mp H;obtain ⟨t444,A50,H⟩:=H;replace H:(if t444=true then ((spec_GoodDepends.f k l1 a2).bind fun t445=>(spec_SameDepends.j0 k l0 l1 (!t445))) else (spec_SameDepends.j0 k l0 l1 true))=some (r1,r2):=H;have A5:=qK A50;clear A50;by_cases c6:t444=true
  ·subst c6;have H1:((spec_GoodDepends.f k l1 a2).bind fun t445=>(spec_SameDepends.j0 k l0 l1 (!t445)))=some (r1,r2):=by rw [if_pos rfl] at H;exact H
   clear H;have H:=H1;clear H1;replace H:=Option.bind_eq_some_iff.mp H;obtain ⟨t445,A70,H⟩:=H;replace H:(spec_SameDepends.j0 k l0 l1 (!t445))=some (r1,r2):=H;have A7:=qK A70;clear A70;have H':=qK H;clear H;go_wp2_with (first|((with_reducible refine gate_callee (f:=19) rfl ?_);refine goesL_ (some 14) rfl rfl Try.func19 (by kernel_rfl) rfl #[.slice A0 l0.length c0,.int .i64 a2] rfl (by (try simp only [mT,mC,mN]);first|done|rfl|(simp only [lD,lT];rfl)) ?_;(with_reducible refine (spec_GoodDepends.calls k _ _ l0 a2 true _ ?side1 ?side2 A5.out).mono ?_);(case side1=>repeat (first|exact (cB HR0.out HB.out)|(with_reducible first|refine cL ?_ _|refine cN ?_ _|refine cW ?_)));(case side2=>exact HC0.out);rintro e w8 ⟨rfl,hb⟩;refine ⟨_,rfl,?_⟩;have n0_:=qK (qT (by repeat (with_reducible first|exact HB.out|apply qA|apply qD|apply qO)) hb);clear HB;have HB:=n0_;clear n0_;(try clear hb))|(go_at_call 19;(with_reducible refine (spec_GoodDepends.calls k _ _ l1 a2 t445 _ ?side1 ?side2 A7.out).mono ?_);(case side1=>repeat (first|exact (cB HR1.out HB.out)|(with_reducible first|refine cL ?_ _|refine cN ?_ _|refine cW ?_)));(case side2=>exact HC1.out);rintro e w9 ⟨rfl,hb⟩;have n0_:=qK (qT (by repeat (with_reducible first|exact HB.out|apply qA|apply qD|apply qO)) hb);clear HB;have HB:=n0_;clear n0_;(try clear hb)))
   go_meet
   case rel=>exact ⟨_,(!t445),(by first|rfl|(simp;done)|(simp [*];done)),H',⟨by first|omega|exact Nat.le_refl _⟩,⟨by repeat (first|(with_reducible first|exact HB.out|apply qA|apply qD|apply qO)|exact HB.out)⟩⟩
  ·replace c6:=Bool.eq_false_iff.mpr c6;subst c6;have H1:(spec_SameDepends.j0 k l0 l1 true)=some (r1,r2):=by rw [if_neg (show ¬ (false=true) by decide)] at H;exact H
   clear H;have H:=H1;clear H1;have H':=qK H;clear H;go_wp2_with (first|((with_reducible refine gate_callee (f:=19) rfl ?_);refine goesL_ (some 14) rfl rfl Try.func19 (by kernel_rfl) rfl #[.slice A0 l0.length c0,.int .i64 a2] rfl (by (try simp only [mT,mC,mN]);first|done|rfl|(simp only [lD,lT];rfl)) ?_;(with_reducible refine (spec_GoodDepends.calls k _ _ l0 a2 false _ ?side1 ?side2 A5.out).mono ?_);(case side1=>repeat (first|exact (cB HR0.out HB.out)|(with_reducible first|refine cL ?_ _|refine cN ?_ _|refine cW ?_)));(case side2=>exact HC0.out);rintro e w10 ⟨rfl,hb⟩;refine ⟨_,rfl,?_⟩;have n0_:=qK (qT (by repeat (with_reducible first|exact HB.out|apply qA|apply qD|apply qO)) hb);clear HB;have HB:=n0_;clear n0_;(try clear hb)))
   go_meet
   case rel=>exact ⟨_,(true),(by first|rfl|(simp;done)|(simp [*];done)),H',⟨by first|omega|exact Nat.le_refl _⟩,⟨by repeat (first|(with_reducible first|exact HB.out|apply qA|apply qD|apply qO)|exact HB.out)⟩⟩
 case rest =>
  clear HC4;try clear c1
  try clear p2
  try clear c6
  obtain ⟨kq,x21_3,rfl,HA,HJ3,HB⟩:=hcut;cases kq with
  | zero=>exact absurd HA.out (by simp [spec_SameDepends.j0])
  | succ kj3 =>
   have H:=HA.out;clear HA;simp only [spec_SameDepends.j0] at H;by_cases c11:x21_3=true
   ·subst c11;have H1:(some (false,false))=some (r1,r2):=by rw [if_pos rfl] at H;exact H
    clear H;have H:=H1;clear H1;simp only [Option.some.injEq,Prod.mk.injEq] at H;obtain ⟨rfl,rfl⟩:=H;go_wp2
    go_ret2
    exact ⟨by first|rfl|(simp [errW_none,errW_some] <;> rfl)|(simp [*,errW_none,errW_some] <;> rfl),by repeat (first|(with_reducible first|exact HB.out|apply qA|apply qD|apply qO)|exact HB.out)⟩
   ·replace c11:=Bool.eq_false_iff.mpr c11;subst c11;have H1:(spec_SameDepends.l0 kj3 l0 l1 l0 (l0.length:Int) 0)=some (r1,r2):=by rw [if_neg (show ¬ (false=true) by decide)] at H;exact H
    clear H;have H:=H1;clear H1;have H':=qK H;clear H;go_wp2
    go_loopg [24] kj3 (fun kq v24 w'=>∃ (x24_2:Int),v24=.int .i64 x24_2∧Aside0 (spec_SameDepends.l0 kq l0 l1 l0 (l0.length:Int) x24_2=some (r1,r2))∧Aside0 (kq≤kj3)∧Aside0 (Below w.heap.size w w'))
    case atStart=>exact ⟨(0),(by first|rfl|(simp;done)|(simp [*];done)),H',⟨Nat.le_refl _⟩,⟨by repeat (first|(with_reducible first|exact HB.out|apply qA|apply qD|apply qO)|exact HB.out)⟩⟩
    case round =>
     clear H';try clear c1
     try clear p2
     try clear c6
     try clear c11
     try clear p2
     obtain ⟨x24_2,rfl,HA,HK2,HB⟩:=hrel;cases gk with
     | zero=>exact absurd HA.out (by simp [spec_SameDepends.l0])
     | succ k2 =>
      have H:=HA.out;clear HA;simp only [spec_SameDepends.l0] at H;by_cases c12:x24_2 < (l0.length:Int)
      ·rw [if_pos c12] at H;have c12b0:decide (x24_2 < (l0.length:Int))=true:=decide_eq_true c12;clear c12;by_cases c13:0≤x24_2
       ·rw [if_pos c13] at H;have c13b0:decide (0≤x24_2)=true:=decide_eq_true c13;clear c13;by_cases c14:x24_2 < (l0.length:Int)
        ·rw [if_pos c14] at H;have c14b0:decide (x24_2 < (l0.length:Int))=true:=decide_eq_true c14;clear c14;replace H:=Option.bind_eq_some_iff.mp H;obtain ⟨t448,A150,H⟩:=H;replace H:(if t448=true then (spec_SameDepends.l0 k2 l0 l1 l0 (l0.length:Int) (wrap64 (x24_2 + 1))) else (some (false,true)))=some (r1,r2):=H;have A15:=qK A150;clear A150;by_cases c16:t448=true
         ·subst c16;have H1:(spec_SameDepends.l0 k2 l0 l1 l0 (l0.length:Int) (wrap64 (x24_2 + 1)))=some (r1,r2):=by rw [if_pos rfl] at H;exact H
          clear H;have H:=H1;clear H1;have H':=qK H;clear H;have p446:0≤(x24_2:Int):=of_decide_eq_true (by first|(with_reducible assumption)|assumption);have q446:x24_2 < (l0.length:Int):=of_decide_eq_true (by first|(with_reducible assumption)|assumption);obtain ⟨ad446,A446_0,c446_0,A446_1,c446_1,e446,hx446_0,hx446_1,hl446_0,hi446_0,hl446_1,hi446_1⟩:=at_T37 HR0.out x24_2 p446 q446;cases e446
          replace hx446_0:=(HB.out.cell (World.block_lt_of_cell? w _ hx446_0)).trans hx446_0;replace hx446_1:=(HB.out.cell (World.block_lt_of_cell? w _ hx446_1)).trans hx446_1;have HR446_0:=qK hi446_0;have HC446_0:=qK hl446_0;clear hi446_0 hl446_0;have HR446_1:=qK hi446_1;have HC446_1:=qK hl446_1;clear hi446_1 hl446_1;replace p446:=eq_true p446;replace q446:=eq_true q446;go_wp2_with (first|((with_reducible refine gate_dst (N:=9) rfl ?_);refine box_event ?hg (N:=9) ?hd (cs:=#[.slice none 0 0,.slice none 0 0]) (t:=37) ?hr ?_;(case hd=>rfl);(case hg=>rfl);(case hr=>(go_simp;try rfl));intro gb447 hg w17 hbox hb;have n0_:=qK (qT (by repeat (with_reducible first|exact HB.out|apply qA|apply qD|apply qO)) hb);have n1_:=qK (hbox);have n2_:=qK ((by rw [hg];exact (qZ (by repeat (with_reducible first|exact HB.out|apply qA|apply qD|apply qO))):w.heap.size≤gb447));have n3_:=qK ((by rw [hg];exact (qZ (by repeat (with_reducible first|exact HB.out|apply qA|apply qD|apply qO))):w.heap.size≤gb447));clear HB;have HB:=n0_;have BK447:=n1_;have GW447:=n2_;have GE447:=n3_;clear n0_ n1_ n2_ n3_;clear hb hbox hg;have hcz18_0:w17.cell? ⟨gb447,0,none⟩=some (.slice none 0 0):=(qC BK447.out 0).trans rfl;have hcz18_1:w17.cell? ⟨gb447,1,none⟩=some (.slice none 0 0):=(qC BK447.out 1).trans rfl;have hfz18_0:=qF BK447.out 0;have hfz18_1:=qF BK447.out 1)|((with_reducible refine gate_callee (f:=21) rfl ?_);refine goesL_ (some 30) rfl rfl Try.func21 (by kernel_rfl) rfl #[.slice A1 l1.length c1,.agg #[.slice A446_0 ((rd_T37 l0 x24_2).f0).length c446_0,.slice A446_1 ((rd_T37 l0 x24_2).f1).length c446_1]] rfl (by (try simp only [mT,mC,mN]);first|done|rfl|(simp only [lD,lT];rfl)) ?_;(with_reducible refine (spec_l7Implies.calls k2 _ _ l1 _ _ ((rd_T37 l0 x24_2).f0) _ _ ((rd_T37 l0 x24_2).f1) true _ ?side1 ?side2 ?side3 ?side4 ?side5 ?side6 A15.out).mono ?_);(case side1=>exact cB HR1.out (by repeat (with_reducible first|exact HB.out|apply qA|apply qD|apply qO|refine qS ?_ GE447.out)));(case side2=>exact HC1.out);(case side3=>exact cB HR446_0.out (by repeat (with_reducible first|exact HB.out|apply qA|apply qD|apply qO|refine qS ?_ GE447.out)));(case side4=>exact HC446_0.out);(case side5=>exact cB HR446_1.out (by repeat (with_reducible first|exact HB.out|apply qA|apply qD|apply qO|refine qS ?_ GE447.out)));(case side6=>exact HC446_1.out);rintro e w19 ⟨rfl,hb⟩;refine ⟨_,rfl,?_⟩;have n0_:=qK (qB (g:=gb447) (o:=.cells #[.slice A446_0 ((rd_T37 l0 x24_2).f0).length c446_0,.slice A446_1 ((rd_T37 l0 x24_2).f1).length c446_1] 37 (0,0)) (by (with_reducible repeat (first|refine qN ?_ _|refine qW ?_|refine qL ?_ _));refine qP (cs:=#[.slice A446_0 ((rd_T37 l0 x24_2).f0).length c446_0,.slice none 0 0]) ?_ 1 _ rfl;(with_reducible repeat (first|refine qN ?_ _|refine qW ?_|refine qL ?_ _));refine qP (cs:=#[.slice none 0 0,.slice none 0 0]) ?_ 0 _ rfl;(with_reducible repeat (first|refine qN ?_ _|refine qW ?_|refine qL ?_ _));exact BK447.out) hb);have n1_:=qK (qT (by repeat (with_reducible first|exact HB.out|apply qA|apply qD|apply qO|refine qS ?_ GE447.out)) hb);clear BK447;clear HB;have BK447:=n0_;have HB:=n1_;clear n0_ n1_;(try clear hb)))
          go_roundg k2
          case measure=>have:=HJ3.out;have:=HK2.out;omega
          case rel=>exact ⟨(wrap64 (x24_2 + 1)),(by first|rfl|(simp;done)|(simp [*];done)),H',⟨by have:=HJ3.out;have:=HK2.out;omega⟩,⟨by repeat (first|(with_reducible first|exact HB.out|apply qA|apply qD|apply qO|refine qS ?_ GE447.out)|exact HB.out)⟩⟩
         ·replace c16:=Bool.eq_false_iff.mpr c16;subst c16;have H1:(some (false,true))=some (r1,r2):=by rw [if_neg (show ¬ (false=true) by decide)] at H;exact H
          clear H;have H:=H1;clear H1;simp only [Option.some.injEq,Prod.mk.injEq] at H;obtain ⟨rfl,rfl⟩:=H;have p446:0≤(x24_2:Int):=of_decide_eq_true (by first|(with_reducible assumption)|assumption);have q446:x24_2 < (l0.length:Int):=of_decide_eq_true (by first|(with_reducible assumption)|assumption);obtain ⟨ad446,A446_0,c446_0,A446_1,c446_1,e446,hx446_0,hx446_1,hl446_0,hi446_0,hl446_1,hi446_1⟩:=at_T37 HR0.out x24_2 p446 q446;cases e446
          replace hx446_0:=(HB.out.cell (World.block_lt_of_cell? w _ hx446_0)).trans hx446_0;replace hx446_1:=(HB.out.cell (World.block_lt_of_cell? w _ hx446_1)).trans hx446_1;have HR446_0:=qK hi446_0;have HC446_0:=qK hl446_0;clear hi446_0 hl446_0;have HR446_1:=qK hi446_1;have HC446_1:=qK hl446_1;clear hi446_1 hl446_1;replace p446:=eq_true p446;replace q446:=eq_true q446;go_wp2_with (first|((with_reducible refine gate_dst (N:=9) rfl ?_);refine box_event ?hg (N:=9) ?hd (cs:=#[.slice none 0 0,.slice none 0 0]) (t:=37) ?hr ?_;(case hd=>rfl);(case hg=>rfl);(case hr=>(go_simp;try rfl));intro gb447 hg w20 hbox hb;have n0_:=qK (qT (by repeat (with_reducible first|exact HB.out|apply qA|apply qD|apply qO)) hb);have n1_:=qK (hbox);have n2_:=qK ((by rw [hg];exact (qZ (by repeat (with_reducible first|exact HB.out|apply qA|apply qD|apply qO))):w.heap.size≤gb447));have n3_:=qK ((by rw [hg];exact (qZ (by repeat (with_reducible first|exact HB.out|apply qA|apply qD|apply qO))):w.heap.size≤gb447));clear HB;have HB:=n0_;have BK447:=n1_;have GW447:=n2_;have GE447:=n3_;clear n0_ n1_ n2_ n3_;clear hb hbox hg;have hcz21_0:w20.cell? ⟨gb447,0,none⟩=some (.slice none 0 0):=(qC BK447.out 0).trans rfl;have hcz21_1:w20.cell? ⟨gb447,1,none⟩=some (.slice none 0 0):=(qC BK447.out 1).trans rfl;have hfz21_0:=qF BK447.out 0;have hfz21_1:=qF BK447.out 1)|((with_reducible refine gate_callee (f:=21) rfl ?_);refine goesL_ (some 30) rfl rfl Try.func21 (by kernel_rfl) rfl #[.slice A1 l1.length c1,.agg #[.slice A446_0 ((rd_T37 l0 x24_2).f0).length c446_0,.slice A446_1 ((rd_T37 l0 x24_2).f1).length c446_1]] rfl (by (try simp only [mT,mC,mN]);first|done|rfl|(simp only [lD,lT];rfl)) ?_;(with_reducible refine (spec_l7Implies.calls k2 _ _ l1 _ _ ((rd_T37 l0 x24_2).f0) _ _ ((rd_T37 l0 x24_2).f1) false _ ?side1 ?side2 ?side3 ?side4 ?side5 ?side6 A15.out).mono ?_);(case side1=>exact cB HR1.out (by repeat (with_reducible first|exact HB.out|apply qA|apply qD|apply qO|refine qS ?_ GE447.out)));(case side2=>exact HC1.out);(case side3=>exact cB HR446_0.out (by repeat (with_reducible first|exact HB.out|apply qA|apply qD|apply qO|refine qS ?_ GE447.out)));(case side4=>exact HC446_0.out);(case side5=>exact cB HR446_1.out (by repeat (with_reducible first|exact HB.out|apply qA|apply qD|apply qO|refine qS ?_ GE447.out)));(case side6=>exact HC446_1.out);rintro e w22 ⟨rfl,hb⟩;refine ⟨_,rfl,?_⟩;have n0_:=qK (qB (g:=gb447) (o:=.cells #[.slice A446_0 ((rd_T37 l0 x24_2).f0).length c446_0,.slice A446_1 ((rd_T37 l0 x24_2).f1).length c446_1] 37 (0,0)) (by (with_reducible repeat (first|refine qN ?_ _|refine qW ?_|refine qL ?_ _));refine qP (cs:=#[.slice A446_0 ((rd_T37 l0 x24_2).f0).length c446_0,.slice none 0 0]) ?_ 1 _ rfl;(with_reducible repeat (first|refine qN ?_ _|refine qW ?_|refine qL ?_ _));refine qP (cs:=#[.slice none 0 0,.slice none 0 0]) ?_ 0 _ rfl;(with_reducible repeat (first|refine qN ?_ _|refine qW ?_|refine qL ?_ _));exact BK447.out) hb);have n1_:=qK (qT (by repeat (with_reducible first|exact HB.out|apply qA|apply qD|apply qO|refine qS ?_ GE447.out)) hb);clear BK447;clear HB;have BK447:=n0_;have HB:=n1_;clear n0_ n1_;(try clear hb)))
          go_ret2
          exact ⟨by first|rfl|(simp [errW_none,errW_some] <;> rfl)|(simp [*,errW_none,errW_some] <;> rfl),by repeat (first|(with_reducible first|exact HB.out|apply qA|apply qD|apply qO|refine qS ?_ GE447.out)|exact HB.out)⟩
        ·rw [if_neg c14] at H;exact absurd H (by simp)
       ·rw [if_neg c13] at H;exact absurd H (by simp)
      ·rw [if_neg c12] at H;have c12b0:decide (x24_2 < (l0.length:Int))=false:=decide_eq_false c12;clear c12;have H':=qK H;clear H;go_wp2
       go_loopg [35] k2 (fun kq v35 w'=>∃ (x35_3:Int),v35=.int .i64 x35_3∧Aside0 (spec_SameDepends.l1 kq l0 l1 (l1.length:Int) x35_3=some (r1,r2))∧Aside0 (kq≤k2)∧Aside0 (Below w.heap.size w w'))
       case atStart=>exact ⟨(0),(by first|rfl|(simp;done)|(simp [*];done)),H',⟨Nat.le_refl _⟩,⟨by repeat (first|(with_reducible first|exact HB.out|apply qA|apply qD|apply qO)|exact HB.out)⟩⟩
       case round =>
        clear H';try clear c1
        try clear c2
        try clear p2
        try clear c4
        try clear p4
        try clear q4
        try clear hx4
        try clear c6
        try clear p6
        try clear c11
        try clear c12
        try clear c12b0
        try clear c13
        try clear c13b0
        try clear c14
        try clear c14b0
        try clear c16
        try clear c17
        try clear c19
        try clear c21
        try clear hcz18_0
        try clear hcz18_1
        try clear hcz21_0
        try clear hcz21_1
        try clear hfz18_0
        try clear hfz18_1
        try clear hfz21_0
        try clear hfz21_1
        try clear hx446_0
        try clear hx446_1
        try clear p2
        try clear p446
        try clear q446
        obtain ⟨x35_3,rfl,HA,HK3,HB⟩:=hrel;cases gk with
        | zero=>exact absurd HA.out (by simp [spec_SameDepends.l1])
        | succ k3 =>
         have H:=HA.out;clear HA;simp only [spec_SameDepends.l1] at H;by_cases c23:x35_3 < (l1.length:Int)
         ·rw [if_pos c23] at H;have c23b0:decide (x35_3 < (l1.length:Int))=true:=decide_eq_true c23;clear c23;by_cases c24:0≤x35_3
          ·rw [if_pos c24] at H;have c24b0:decide (0≤x35_3)=true:=decide_eq_true c24;clear c24;by_cases c25:x35_3 < (l1.length:Int)
           ·rw [if_pos c25] at H;have c25b0:decide (x35_3 < (l1.length:Int))=true:=decide_eq_true c25;clear c25;replace H:=Option.bind_eq_some_iff.mp H;obtain ⟨t451,A260,H⟩:=H;replace H:(if t451=true then (spec_SameDepends.l1 k3 l0 l1 (l1.length:Int) (wrap64 (x35_3 + 1))) else (some (false,true)))=some (r1,r2):=H;have A26:=qK A260;clear A260;by_cases c27:t451=true
            ·subst c27;have H1:(spec_SameDepends.l1 k3 l0 l1 (l1.length:Int) (wrap64 (x35_3 + 1)))=some (r1,r2):=by rw [if_pos rfl] at H;exact H
             clear H;have H:=H1;clear H1;have H':=qK H;clear H;have p449:0≤(x35_3:Int):=of_decide_eq_true (by first|(with_reducible assumption)|assumption);have q449:x35_3 < (l1.length:Int):=of_decide_eq_true (by first|(with_reducible assumption)|assumption);obtain ⟨ad449,A449_0,c449_0,A449_1,c449_1,e449,hx449_0,hx449_1,hl449_0,hi449_0,hl449_1,hi449_1⟩:=at_T37 HR1.out x35_3 p449 q449;cases e449
             replace hx449_0:=(HB.out.cell (World.block_lt_of_cell? w _ hx449_0)).trans hx449_0;replace hx449_1:=(HB.out.cell (World.block_lt_of_cell? w _ hx449_1)).trans hx449_1;have HR449_0:=qK hi449_0;have HC449_0:=qK hl449_0;clear hi449_0 hl449_0;have HR449_1:=qK hi449_1;have HC449_1:=qK hl449_1;clear hi449_1 hl449_1;replace p449:=eq_true p449;replace q449:=eq_true q449;go_wp2_with (first|((with_reducible refine gate_dst (N:=11) rfl ?_);refine box_event ?hg (N:=11) ?hd (cs:=#[.slice none 0 0,.slice none 0 0]) (t:=37) ?hr ?_;(case hd=>rfl);(case hg=>rfl);(case hr=>(go_simp;try rfl));intro gb450 hg w28 hbox hb;have n0_:=qK (qT (by repeat (with_reducible first|exact HB.out|apply qA|apply qD|apply qO)) hb);have n1_:=qK (hbox);have n2_:=qK ((by rw [hg];exact (qZ (by repeat (with_reducible first|exact HB.out|apply qA|apply qD|apply qO))):w.heap.size≤gb450));have n3_:=qK ((by rw [hg];exact (qZ (by repeat (with_reducible first|exact HB.out|apply qA|apply qD|apply qO))):w.heap.size≤gb450));clear HB;have HB:=n0_;have BK450:=n1_;have GW450:=n2_;have GE450:=n3_;clear n0_ n1_ n2_ n3_;clear hb hbox hg;have hcz29_0:w28.cell? ⟨gb450,0,none⟩=some (.slice none 0 0):=(qC BK450.out 0).trans rfl;have hcz29_1:w28.cell? ⟨gb450,1,none⟩=some (.slice none 0 0):=(qC BK450.out 1).trans rfl;have hfz29_0:=qF BK450.out 0;have hfz29_1:=qF BK450.out 1)|((with_reducible refine gate_callee (f:=21) rfl ?_);refine goesL_ (some 41) rfl rfl Try.func21 (by kernel_rfl) rfl #[.slice A0 l0.length c0,.agg #[.slice A449_0 ((rd_T37 l1 x35_3).f0).length c449_0,.slice A449_1 ((rd_T37 l1 x35_3).f1).length c449_1]] rfl (by (try simp only [mT,mC,mN]);first|done|rfl|(simp only [lD,lT];rfl)) ?_;(with_reducible refine (spec_l7Implies.calls k3 _ _ l0 _ _ ((rd_T37 l1 x35_3).f0) _ _ ((rd_T37 l1 x35_3).f1) true _ ?side1 ?side2 ?side3 ?side4 ?side5 ?side6 A26.out).mono ?_);(case side1=>exact cB HR0.out (by repeat (with_reducible first|exact HB.out|apply qA|apply qD|apply qO|refine qS ?_ GE450.out)));(case side2=>exact HC0.out);(case side3=>exact cB HR449_0.out (by repeat (with_reducible first|exact HB.out|apply qA|apply qD|apply qO|refine qS ?_ GE450.out)));(case side4=>exact HC449_0.out);(case side5=>exact cB HR449_1.out (by repeat (with_reducible first|exact HB.out|apply qA|apply qD|apply qO|refine qS ?_ GE450.out)));(case side6=>exact HC449_1.out);rintro e w30 ⟨rfl,hb⟩;refine ⟨_,rfl,?_⟩;have n0_:=qK (qB (g:=gb450) (o:=.cells #[.slice A449_0 ((rd_T37 l1 x35_3).f0).length c449_0,.slice A449_1 ((rd_T37 l1 x35_3).f1).length c449_1] 37 (0,0)) (by (with_reducible repeat (first|refine qN ?_ _|refine qW ?_|refine qL ?_ _));refine qP (cs:=#[.slice A449_0 ((rd_T37 l1 x35_3).f0).length c449_0,.slice none 0 0]) ?_ 1 _ rfl;(with_reducible repeat (first|refine qN ?_ _|refine qW ?_|refine qL ?_ _));refine qP (cs:=#[.slice none 0 0,.slice none 0 0]) ?_ 0 _ rfl;(with_reducible repeat (first|refine qN ?_ _|refine qW ?_|refine qL ?_ _));exact BK450.out) hb);have n1_:=qK (qT (by repeat (with_reducible first|exact HB.out|apply qA|apply qD|apply qO|refine qS ?_ GE450.out)) hb);clear BK450;clear HB;have BK450:=n0_;have HB:=n1_;clear n0_ n1_;(try clear hb)))
             go_roundg k3
             case measure=>have:=HJ3.out;have:=HK2.out;have:=HK3.out;omega
             case rel=>exact ⟨(wrap64 (x35_3 + 1)),(by first|rfl|(simp;done)|(simp [*];done)),H',⟨by have:=HJ3.out;have:=HK2.out;have:=HK3.out;omega⟩,⟨by repeat (first|(with_reducible first|exact HB.out|apply qA|apply qD|apply qO|refine qS ?_ GE450.out)|exact HB.out)⟩⟩
            ·replace c27:=Bool.eq_false_iff.mpr c27;subst c27;have H1:(some (false,true))=some (r1,r2):=by rw [if_neg (show ¬ (false=true) by decide)] at H;exact H
             clear H;have H:=H1;clear H1;simp only [Option.some.injEq,Prod.mk.injEq] at H;obtain ⟨rfl,rfl⟩:=H;have p449:0≤(x35_3:Int):=of_decide_eq_true (by first|(with_reducible assumption)|assumption);have q449:x35_3 < (l1.length:Int):=of_decide_eq_true (by first|(with_reducible assumption)|assumption);obtain ⟨ad449,A449_0,c449_0,A449_1,c449_1,e449,hx449_0,hx449_1,hl449_0,hi449_0,hl449_1,hi449_1⟩:=at_T37 HR1.out x35_3 p449 q449;cases e449
             replace hx449_0:=(HB.out.cell (World.block_lt_of_cell? w _ hx449_0)).trans hx449_0;replace hx449_1:=(HB.out.cell (World.block_lt_of_cell? w _ hx449_1)).trans hx449_1;have HR449_0:=qK hi449_0;have HC449_0:=qK hl449_0;clear hi449_0 hl449_0;have HR449_1:=qK hi449_1;have HC449_1:=qK hl449_1;clear hi449_1 hl449_1;replace p449:=eq_true p449;replace q449:=eq_true q449;go_wp2_with (first|((with_reducible refine gate_dst (N:=11) rfl ?_);refine box_event ?hg (N:=11) ?hd (cs:=#[.slice none 0 0,.slice none 0 0]) (t:=37) ?hr ?_;(case hd=>rfl);(case hg=>rfl);(case hr=>(go_simp;try rfl));intro gb450 hg w31 hbox hb;have n0_:=qK (qT (by repeat (with_reducible first|exact HB.out|apply qA|apply qD|apply qO)) hb);have n1_:=qK (hbox);have n2_:=qK ((by rw [hg];exact (qZ (by repeat (with_reducible first|exact HB.out|apply qA|apply qD|apply qO))):w.heap.size≤gb450));have n3_:=qK ((by rw [hg];exact (qZ (by repeat (with_reducible first|exact HB.out|apply qA|apply qD|apply qO))):w.heap.size≤gb450));clear HB;have HB:=n0_;have BK450:=n1_;have GW450:=n2_;have GE450:=n3_;clear n0_ n1_ n2_ n3_;clear hb hbox hg;have hcz32_0:w31.cell? ⟨gb450,0,none⟩=some (.slice none 0 0):=(qC BK450.out 0).trans rfl;have hcz32_1:w31.cell? ⟨gb450,1,none⟩=some (.slice none 0 0):=(qC BK450.out 1).trans rfl;have hfz32_0:=qF BK450.out 0;have hfz32_1:=qF BK450.out 1)|((with_reducible refine gate_callee (f:=21) rfl ?_);refine goesL_ (some 41) rfl rfl Try.func21 (by kernel_rfl) rfl #[.slice A0 l0.length c0,.agg #[.slice A449_0 ((rd_T37 l1 x35_3).f0).length c449_0,.slice A449_1 ((rd_T37 l1 x35_3).f1).length c449_1]] rfl (by (try simp only [mT,mC,mN]);first|done|rfl|(simp only [lD,lT];rfl)) ?_;(with_reducible refine (spec_l7Implies.calls k3 _ _ l0 _ _ ((rd_T37 l1 x35_3).f0) _ _ ((rd_T37 l1 x35_3).f1) false _ ?side1 ?side2 ?side3 ?side4 ?side5 ?side6 A26.out).mono ?_);(case side1=>exact cB HR0.out (by repeat (with_reducible first|exact HB.out|apply qA|apply qD|apply qO|refine qS ?_ GE450.out)));(case side2=>exact HC0.out);(case side3=>exact cB HR449_0.out (by repeat (with_reducible first|exact HB.out|apply qA|apply qD|apply qO|refine qS ?_ GE450.out)));(case side4=>exact HC449_0.out);(case side5=>exact cB HR449_1.out (by repeat (with_reducible first|exact HB.out|apply qA|apply qD|apply qO|refine qS ?_ GE450.out)));(case side6=>exact HC449_1.out);rintro e w33 ⟨rfl,hb⟩;refine ⟨_,rfl,?_⟩;have n0_:=qK (qB (g:=gb450) (o:=.cells #[.slice A449_0 ((rd_T37 l1 x35_3).f0).length c449_0,.slice A449_1 ((rd_T37 l1 x35_3).f1).length c449_1] 37 (0,0)) (by (with_reducible repeat (first|refine qN ?_ _|refine qW ?_|refine qL ?_ _));refine qP (cs:=#[.slice A449_0 ((rd_T37 l1 x35_3).f0).length c449_0,.slice none 0 0]) ?_ 1 _ rfl;(with_reducible repeat (first|refine qN ?_ _|refine qW ?_|refine qL ?_ _));refine qP (cs:=#[.slice none 0 0,.slice none 0 0]) ?_ 0 _ rfl;(with_reducible repeat (first|refine qN ?_ _|refine qW ?_|refine qL ?_ _));exact BK450.out) hb);have n1_:=qK (qT (by repeat (with_reducible first|exact HB.out|apply qA|apply qD|apply qO|refine qS ?_ GE450.out)) hb);clear BK450;clear HB;have BK450:=n0_;have HB:=n1_;clear n0_ n1_;(try clear hb)))
             go_ret2
             exact ⟨by first|rfl|(simp [errW_none,errW_some] <;> rfl)|(simp [*,errW_none,errW_some] <;> rfl),by repeat (first|(with_reducible first|exact HB.out|apply qA|apply qD|apply qO|refine qS ?_ GE450.out)|exact HB.out)⟩
           ·rw [if_neg c25] at H;exact absurd H (by simp)
          ·rw [if_neg c24] at H;exact absurd H (by simp)
         ·rw [if_neg c23] at H;have c23b0:decide (x35_3 < (l1.length:Int))=false:=decide_eq_false c23;clear c23;simp only [Option.some.injEq,Prod.mk.injEq] at H;obtain ⟨rfl,rfl⟩:=H;go_wp2
          go_ret2
          exact ⟨by first|rfl|(simp [errW_none,errW_some] <;> rfl)|(simp [*,errW_none,errW_some] <;> rfl),by repeat (first|(with_reducible first|exact HB.out|apply qA|apply qD|apply qO)|exact HB.out)⟩

end Go.Proofs.Ytadfmbmnnekamaa.PFnCover
