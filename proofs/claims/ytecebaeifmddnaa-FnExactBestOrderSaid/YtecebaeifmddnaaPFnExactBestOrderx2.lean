/-
  A text of this claim's own, printed by a program of the session (wip/tools/xprint.py): functions of the program as Lean functions, each with what its call comes to.
-/
import Derived.Test.YtecebaeifmddnaaPFnExactBestOrderx0
import Derived.Test.YtecebaeifmddnaaPFnExactBestOrderx1
namespace Go.Proofs.Ytecebaeifmddnaa.PFnExactBestOrder
open Go.Proofs.YtecebaeifmddnaaW.PrintWords renaming pw_below_drewN → qD, blk_cell → qC, below_drew1 → qO, below_alloc → qA, blk_frozen → qF, below_set → qS, blk_drewN → qN, blk_alloc → qL, blk_drew → qW, below_size → qZ, below_step → qT, blk_below → qB, blk_far → qR, blk_put → qP
open Go.Proofs.YtecebaeifmddnaaW.PrintWords.Aside0 renaming mk → qK
open Bool renaming true → Y, false → Z
open List renaming setIfInBounds_toArray → sIb, set_cons_zero → sZ, set_cons_succ → sS, map_toArray → mT, map_cons → mC, map_nil → mN, length_drop → lD, length_take → lT
open Go.Proofs.YtecebaeifmddnaaW.PrintWords.Kd renaming C_alloc → cL, C_drewN → cN, C_drew → cW, C_below → cB, R_alloc → rL, R_drewN → rN, R_drew → rW, R_below → rB
open Go.RowKit Go.Proofs.YtecebaeifmddnaaW.PrintWords Go.Proofs.YtecebaeifmddnaaW.PrintLast Go.Proofs.YtecebaeifmddnaaW.PrintMore
attribute [local go_sem] max2_int min2_int max_two min_two max_three min_three max_four min_four   -- for this text's walks alone
set_option linter.unusedVariables false
set_option linter.unusedSimpArgs false

/-! ### spec_GoodStats: function 23 -/
mutual
def spec_GoodStats.j0 : Nat→Bool→List Int→List (List Int)→Option (Bool)
 | 0,_,_,_=>none
 | k + 1,x20,x140000,x140001=>if x20=true then (some false) else (spec_GoodStats.l0 k x140000 (x140000.length:Int) 0 x140000 x140001)
def spec_GoodStats.l0 : Nat→List Int→Int→Int→List Int→List (List Int)→Option (Bool)
 | 0,_,_,_,_,_=>none
 | k + 1,x22,x23,x24,x140000,x140001=>if x24 < x23 then (if 0≤x24 then (if x24 < (x22.length:Int) then ((spec_l1In.f (rd x22 x24) 1 50).bind fun t142=>(if t142=true then (if x24 < (x140001.length:Int) then (spec_GoodStats.j2 k x24 x22 x23 x24 (((rd_L1 x140001 x24).length:Int) != x24) x140000 x140001) else (none)) else (spec_GoodStats.j2 k x24 x22 x23 x24 true x140000 x140001))) else (none)) else (none)) else (some true)
def spec_GoodStats.j2 : Nat→Int→List Int→Int→Int→Bool→List Int→List (List Int)→Option (Bool)
 | 0,_,_,_,_,_,_,_=>none
 | k + 1,x3,x22,x23,x24,x41,x140000,x140001=>if x41=true then (some false) else (if 0≤x3 then (if x3 < (x140001.length:Int) then (spec_GoodStats.l1 k x22 x23 x24 (rd_L1 x140001 x3) ((rd_L1 x140001 x3).length:Int) 0 x140000 x140001) else (none)) else (none))
def spec_GoodStats.l1 : Nat→List Int→Int→Int→List Int→Int→Int→List Int→List (List Int)→Option (Bool)
 | 0,_,_,_,_,_,_,_,_=>none
 | k + 1,x22,x23,x24,x46,x47,x48,x140000,x140001=>if x48 < x47 then (if 0≤x48 then (if x48 < (x46.length:Int) then ((spec_l1In.f (rd x46 x48) 1 10).bind fun t146=>(if t146=true then (spec_GoodStats.l1 k x22 x23 x24 x46 x47 (wrap64 (x48 + 1)) x140000 x140001) else (some false))) else (none)) else (none)) else (spec_GoodStats.l0 k x22 x23 (wrap64 (x24 + 1)) x140000 x140001)
end
def spec_GoodStats.f (k:Nat) (l0_0:List Int) (l0_1:List (List Int)):Option (Bool):=(spec_l1In.f (l0_0.length:Int) 1 6).bind fun t140=>(if t140=true then (spec_GoodStats.j0 k ((l0_1.length:Int) != (l0_0.length:Int)) l0_0 l0_1) else (spec_GoodStats.j0 k true l0_0 l0_1))
theorem spec_GoodStats.mono_l : ∀ k,(∀ y0 y1 y2,LeO (spec_GoodStats.j0 k y0 y1 y2) (spec_GoodStats.j0 (k + 1) y0 y1 y2))∧(∀ y0 y1 y2 y3 y4,LeO (spec_GoodStats.l0 k y0 y1 y2 y3 y4) (spec_GoodStats.l0 (k + 1) y0 y1 y2 y3 y4))∧(∀ y0 y1 y2 y3 y4 y5 y6,LeO (spec_GoodStats.j2 k y0 y1 y2 y3 y4 y5 y6) (spec_GoodStats.j2 (k + 1) y0 y1 y2 y3 y4 y5 y6))∧(∀ y0 y1 y2 y3 y4 y5 y6 y7,LeO (spec_GoodStats.l1 k y0 y1 y2 y3 y4 y5 y6 y7) (spec_GoodStats.l1 (k + 1) y0 y1 y2 y3 y4 y5 y6 y7))
 | 0=>⟨fun _ _ _ r h=>by simp [spec_GoodStats.j0] at h,fun _ _ _ _ _ r h=>by simp [spec_GoodStats.l0] at h,fun _ _ _ _ _ _ _ r h=>by simp [spec_GoodStats.j2] at h,fun _ _ _ _ _ _ _ _ r h=>by simp [spec_GoodStats.l1] at h⟩
 | k + 1=>by
  obtain ⟨ih0,ih1,ih2,ih3⟩:=spec_GoodStats.mono_l k;refine ⟨?_,?_,?_,?_⟩
  ·intro y0 y1 y2;unfold spec_GoodStats.j0
   repeat' first
   | (with_reducible exact ih0 _ _ _)
   | (with_reducible exact ih1 _ _ _ _ _)
   | (with_reducible exact ih2 _ _ _ _ _ _ _)
   | (with_reducible exact ih3 _ _ _ _ _ _ _ _)
   | (with_reducible exact LeO.refl _)
   | (with_reducible exact LeO.none _)
   | (with_reducible refine LeO.ite ?_ ?_)
   | (with_reducible refine LeO.bind ?_ (fun _=>?_))
   | exact ih0 _ _ _
   | exact ih1 _ _ _ _ _
   | exact ih2 _ _ _ _ _ _ _
   | exact ih3 _ _ _ _ _ _ _ _
   | exact LeO.none _
   | refine LeO.ite ?_ ?_
   | refine LeO.bind ?_ (fun _=>?_)
  ·intro y0 y1 y2 y3 y4;unfold spec_GoodStats.l0
   repeat' first
   | (with_reducible exact ih0 _ _ _)
   | (with_reducible exact ih1 _ _ _ _ _)
   | (with_reducible exact ih2 _ _ _ _ _ _ _)
   | (with_reducible exact ih3 _ _ _ _ _ _ _ _)
   | (with_reducible exact LeO.refl _)
   | (with_reducible exact LeO.none _)
   | (with_reducible refine LeO.ite ?_ ?_)
   | (with_reducible refine LeO.bind ?_ (fun _=>?_))
   | exact ih0 _ _ _
   | exact ih1 _ _ _ _ _
   | exact ih2 _ _ _ _ _ _ _
   | exact ih3 _ _ _ _ _ _ _ _
   | exact LeO.none _
   | refine LeO.ite ?_ ?_
   | refine LeO.bind ?_ (fun _=>?_)
  ·intro y0 y1 y2 y3 y4 y5 y6;unfold spec_GoodStats.j2
   repeat' first
   | (with_reducible exact ih0 _ _ _)
   | (with_reducible exact ih1 _ _ _ _ _)
   | (with_reducible exact ih2 _ _ _ _ _ _ _)
   | (with_reducible exact ih3 _ _ _ _ _ _ _ _)
   | (with_reducible exact LeO.refl _)
   | (with_reducible exact LeO.none _)
   | (with_reducible refine LeO.ite ?_ ?_)
   | (with_reducible refine LeO.bind ?_ (fun _=>?_))
   | exact ih0 _ _ _
   | exact ih1 _ _ _ _ _
   | exact ih2 _ _ _ _ _ _ _
   | exact ih3 _ _ _ _ _ _ _ _
   | exact LeO.none _
   | refine LeO.ite ?_ ?_
   | refine LeO.bind ?_ (fun _=>?_)
  ·intro y0 y1 y2 y3 y4 y5 y6 y7;unfold spec_GoodStats.l1
   repeat' first
   | (with_reducible exact ih0 _ _ _)
   | (with_reducible exact ih1 _ _ _ _ _)
   | (with_reducible exact ih2 _ _ _ _ _ _ _)
   | (with_reducible exact ih3 _ _ _ _ _ _ _ _)
   | (with_reducible exact LeO.refl _)
   | (with_reducible exact LeO.none _)
   | (with_reducible refine LeO.ite ?_ ?_)
   | (with_reducible refine LeO.bind ?_ (fun _=>?_))
   | exact ih0 _ _ _
   | exact ih1 _ _ _ _ _
   | exact ih2 _ _ _ _ _ _ _
   | exact ih3 _ _ _ _ _ _ _ _
   | exact LeO.none _
   | refine LeO.ite ?_ ?_
   | refine LeO.bind ?_ (fun _=>?_)
theorem spec_GoodStats.mono : ∀ a0 a1 k,LeO (spec_GoodStats.f k a0 a1) (spec_GoodStats.f (k + 1) a0 a1):=by
 intro a0 a1 k;obtain ⟨ih0,ih1,ih2,ih3⟩:=spec_GoodStats.mono_l k;unfold spec_GoodStats.f
 repeat' first
   | (with_reducible exact ih0 _ _ _)
   | (with_reducible exact ih1 _ _ _ _ _)
   | (with_reducible exact ih2 _ _ _ _ _ _ _)
   | (with_reducible exact ih3 _ _ _ _ _ _ _ _)
   | (with_reducible exact LeO.refl _)
   | (with_reducible exact LeO.none _)
   | (with_reducible refine LeO.ite ?_ ?_)
   | (with_reducible refine LeO.bind ?_ (fun _=>?_))
   | exact ih0 _ _ _
   | exact ih1 _ _ _ _ _
   | exact ih2 _ _ _ _ _ _ _
   | exact ih3 _ _ _ _ _ _ _ _
   | exact LeO.none _
   | refine LeO.ite ?_ ?_
   | refine LeO.bind ?_ (fun _=>?_)
set_option maxHeartbeats 8000000 in
set_option maxRecDepth 100000 in
theorem spec_GoodStats.calls (k:Nat) (A0_0:Option Addr) (c0_0:Nat) (l0_0:List Int) (A0_1:Option Addr) (c0_1:Nat) (l0_1:List (List Int)) (r:Bool) (w:World) (hr0_0:Kd.C (Kd.int .i64) w A0_0 l0_0.length l0_0) (hc0_0:l0_0.length≤c0_0) (hr0_1:Kd.C (Kd.slice 3 (Kd.int .i64)) w A0_1 l0_1.length l0_1) (hc0_1:l0_1.length≤c0_1) (h:spec_GoodStats.f k l0_0 l0_1=some r) :
  Calls Try.prog 23 #[.agg #[.slice A0_0 l0_0.length c0_0,.slice A0_1 l0_1.length c0_1]] w fun e w'=>e=.returned (.bool r)∧Below w.heap.size w w':=by
 have hu29:=Try.underlying29;have HR0_0:=qK hr0_0;have HC0_0:=qK hc0_0;clear hr0_0 hc0_0;have HR0_1:=qK hr0_1;have HC0_1:=qK hc0_1;clear hr0_1 hc0_1;have HB:=qK (Below.refl w.heap.size w);have H:((spec_l1In.f (l0_0.length:Int) 1 6).bind fun t140=>(if t140=true then (spec_GoodStats.j0 k ((l0_1.length:Int) != (l0_0.length:Int)) l0_0 l0_1) else (spec_GoodStats.j0 k true l0_0 l0_1)))=some r:=h;clear h;have HC2:=qK H;clear H;go_enter Try.func23,Try.ntmps23
 go_upto_region 1 with (first|((with_reducible refine gate_dst (N:=1) rfl ?_);(try (refine gate_guard (by rfl) ?_;dsimp only));refine box_event ?hg (N:=1) ?hd (cs:=#[.slice A0_0 l0_0.length c0_0,.slice A0_1 l0_1.length c0_1]) (t:=29) ?hr ?_;(case hd=>rfl);(case hg=>rfl);(case hr=>(go_simp;try rfl));intro gb139 hg w3 hbox hb;have n0_:=qK (qT (by repeat (with_reducible first|exact HB.out|apply qA|apply qD|apply qO)) hb);have n1_:=qK (hbox);have n2_:=qK ((by rw [hg];exact (qZ (by repeat (with_reducible first|exact HB.out|apply qA|apply qD|apply qO))):w.heap.size≤gb139));have n3_:=qK ((by rw [hg];exact (qZ (by repeat (with_reducible first|exact HB.out|apply qA|apply qD|apply qO))):w.heap.size≤gb139));clear HB;have HB:=n0_;have BK139:=n1_;have GW139:=n2_;have GE139:=n3_;clear n0_ n1_ n2_ n3_;clear hb hbox hg))
 (try simp only [Act.put,List.setIfInBounds_toArray,List.set_cons_zero,List.set_cons_succ]);go_cut [20] (fun v20 wc=>∃ (kq:Nat) (x20_1:Bool),v20=.bool x20_1∧Aside0 (spec_GoodStats.j0 kq x20_1 l0_0 l0_1=some r)∧Aside0 (kq≤k)∧Aside0 (wc.heap[gb139]?=some (.cells #[(.slice A0_0 l0_0.length c0_0),(.slice A0_1 l0_1.length c0_1)] 29 (0,0)))∧Aside0 (Below w.heap.size w wc))
 case first =>
  have H:=HC2.out;clear HC2;replace H:=Option.bind_eq_some_iff.mp H;obtain ⟨t140,A40,H⟩:=H;replace H:(if t140=true then (spec_GoodStats.j0 k ((l0_1.length:Int) != (l0_0.length:Int)) l0_0 l0_1) else (spec_GoodStats.j0 k true l0_0 l0_1))=some r:=H;have A4:=qK A40;clear A40;by_cases c5:t140=true
  ·subst c5;have H1:(spec_GoodStats.j0 k ((l0_1.length:Int) != (l0_0.length:Int)) l0_0 l0_1)=some r:=by rw [if_pos rfl] at H;exact H
   clear H;have H:=H1;clear H1;have H':=qK H;clear H;have hcz6_0:w3.cell? ⟨gb139,0,none⟩=some (.slice A0_0 l0_0.length c0_0):=(qC BK139.out 0).trans rfl;have hcz6_1:w3.cell? ⟨gb139,1,none⟩=some (.slice A0_1 l0_1.length c0_1):=(qC BK139.out 1).trans rfl;have hfz6_0:=qF BK139.out 0;have hfz6_1:=qF BK139.out 1;go_wp2_with (first|((with_reducible refine gate_callee (f:=49) rfl ?_);refine goesL_ (some 10) rfl rfl Try.func49 (by kernel_rfl) rfl #[.int .i64 (l0_0.length:Int),.int .i64 1,.int .i64 6] rfl (by (try simp only [mT,mC,mN]);first|done|rfl|(simp only [lD,lT];rfl)) ?_;(with_reducible refine (spec_l1In.calls (l0_0.length:Int) 1 6 true _ A4.out).mono ?_);rintro e w' ⟨rfl,⟨nd,rfl⟩⟩;refine ⟨_,rfl,?_⟩))
   go_meet
   case rel=>exact ⟨_,(((l0_1.length:Int) != (l0_0.length:Int))),(by first|rfl|(simp;done)|(simp [*];done)),H',⟨by first|omega|exact Nat.le_refl _⟩,⟨by (with_reducible repeat (first|refine qN ?_ _|refine qW ?_|refine qL ?_ _));exact BK139.out⟩,⟨by repeat (first|(with_reducible first|exact HB.out|apply qA|apply qD|apply qO|refine qS ?_ GE139.out)|exact HB.out)⟩⟩
  ·replace c5:=Bool.eq_false_iff.mpr c5;subst c5;have H1:(spec_GoodStats.j0 k true l0_0 l0_1)=some r:=by rw [if_neg (show ¬ (false=true) by decide)] at H;exact H
   clear H;have H:=H1;clear H1;have H':=qK H;clear H;have hcz7_0:w3.cell? ⟨gb139,0,none⟩=some (.slice A0_0 l0_0.length c0_0):=(qC BK139.out 0).trans rfl;have hcz7_1:w3.cell? ⟨gb139,1,none⟩=some (.slice A0_1 l0_1.length c0_1):=(qC BK139.out 1).trans rfl;have hfz7_0:=qF BK139.out 0;have hfz7_1:=qF BK139.out 1;go_wp2_with (first|((with_reducible refine gate_callee (f:=49) rfl ?_);refine goesL_ (some 10) rfl rfl Try.func49 (by kernel_rfl) rfl #[.int .i64 (l0_0.length:Int),.int .i64 1,.int .i64 6] rfl (by (try simp only [mT,mC,mN]);first|done|rfl|(simp only [lD,lT];rfl)) ?_;(with_reducible refine (spec_l1In.calls (l0_0.length:Int) 1 6 false _ A4.out).mono ?_);rintro e w' ⟨rfl,⟨nd,rfl⟩⟩;refine ⟨_,rfl,?_⟩))
   go_meet
   case rel=>exact ⟨_,(true),(by first|rfl|(simp;done)|(simp [*];done)),H',⟨by first|omega|exact Nat.le_refl _⟩,⟨by (with_reducible repeat (first|refine qN ?_ _|refine qW ?_|refine qL ?_ _));exact BK139.out⟩,⟨by repeat (first|(with_reducible first|exact HB.out|apply qA|apply qD|apply qO|refine qS ?_ GE139.out)|exact HB.out)⟩⟩
 case rest =>
  clear HC2;try clear c2
  try clear p2
  try clear c4
  try clear c5
  try clear hcz6_0
  try clear hcz6_1
  try clear hcz7_0
  try clear hcz7_1
  try clear hfz6_0
  try clear hfz6_1
  try clear hfz7_0
  try clear hfz7_1
  obtain ⟨kq,x20_1,rfl,HA,HJ1,BK139,HB⟩:=hcut;cases kq with
  | zero=>exact absurd HA.out (by simp [spec_GoodStats.j0])
  | succ kj1 =>
   have H:=HA.out;clear HA;simp only [spec_GoodStats.j0] at H;by_cases c8:x20_1=true
   ·subst c8;have H1:(some false)=some r:=by rw [if_pos rfl] at H;exact H
    clear H;have H:=H1;clear H1;obtain rfl:=Option.some.inj H;go_wp2
    go_ret
    exact ⟨by first|rfl|(simp [errW_none,errW_some] <;> rfl)|(simp [*,errW_none,errW_some] <;> rfl),by repeat (first|(with_reducible first|exact HB.out|apply qA|apply qD|apply qO|refine qS ?_ GE139.out)|exact HB.out)⟩
   ·replace c8:=Bool.eq_false_iff.mpr c8;subst c8;have H1:(spec_GoodStats.l0 kj1 l0_0 (l0_0.length:Int) 0 l0_0 l0_1)=some r:=by rw [if_neg (show ¬ (false=true) by decide)] at H;exact H
    clear H;have H:=H1;clear H1;have H':=qK H;clear H;have hcz9_0:wc.cell? ⟨gb139,0,none⟩=some (.slice A0_0 l0_0.length c0_0):=(qC BK139.out 0).trans rfl;have hcz9_1:wc.cell? ⟨gb139,1,none⟩=some (.slice A0_1 l0_1.length c0_1):=(qC BK139.out 1).trans rfl;have hfz9_0:=qF BK139.out 0;have hfz9_1:=qF BK139.out 1;go_wp2
    go_loopg [24] kj1 (fun kq v24 w'=>∃ (x24_2:Int),v24=.int .i64 x24_2∧Aside0 (spec_GoodStats.l0 kq l0_0 (l0_0.length:Int) x24_2 l0_0 l0_1=some r)∧Aside0 (kq≤kj1)∧Aside0 (w'.heap[gb139]?=some (.cells #[(.slice A0_0 l0_0.length c0_0),(.slice A0_1 l0_1.length c0_1)] 29 (0,0)))∧Aside0 (Below w.heap.size w w'))
    case atStart=>exact ⟨(0),(by first|rfl|(simp;done)|(simp [*];done)),H',⟨Nat.le_refl _⟩,⟨by (with_reducible repeat (first|refine qN ?_ _|refine qW ?_|refine qL ?_ _));exact BK139.out⟩,⟨by repeat (first|(with_reducible first|exact HB.out|apply qA|apply qD|apply qO|refine qS ?_ GE139.out)|exact HB.out)⟩⟩
    case round =>
     clear H';try clear c2
     try clear p2
     try clear c4
     try clear c5
     try clear c8
     try clear hcz6_0
     try clear hcz6_1
     try clear hcz7_0
     try clear hcz7_1
     try clear hcz9_0
     try clear hcz9_1
     try clear hfz6_0
     try clear hfz6_1
     try clear hfz7_0
     try clear hfz7_1
     try clear hfz9_0
     try clear hfz9_1
     try clear p2
     obtain ⟨x24_2,rfl,HA,HK2,BK139,HB⟩:=hrel;cases gk with
     | zero=>exact absurd HA.out (by simp [spec_GoodStats.l0])
     | succ k2 =>
      have H:=HA.out;clear HA;simp only [spec_GoodStats.l0] at H;by_cases c10:x24_2 < (l0_0.length:Int)
      ·rw [if_pos c10] at H;have c10b0:decide (x24_2 < (l0_0.length:Int))=true:=decide_eq_true c10;clear c10;by_cases c11:0≤x24_2
       ·rw [if_pos c11] at H;have c11b0:decide (0≤x24_2)=true:=decide_eq_true c11;clear c11;by_cases c12:x24_2 < (l0_0.length:Int)
        ·rw [if_pos c12] at H;have c12b0:decide (x24_2 < (l0_0.length:Int))=true:=decide_eq_true c12;clear c12;have HC13:=qK H;clear H;have p141:0≤(x24_2:Int):=of_decide_eq_true (by first|(with_reducible assumption)|assumption);have q141:x24_2 < (l0_0.length:Int):=of_decide_eq_true (by first|(with_reducible assumption)|assumption);obtain ⟨ad141,e141,hx141_0⟩:=Kd.at_int HR0_0.out x24_2 p141 q141;cases e141
         replace hx141_0:=(HB.out.cell (World.block_lt_of_cell? w _ hx141_0)).trans hx141_0;replace p141:=eq_true p141;replace q141:=eq_true q141;go_upto_region 6 with (fail)
         go_cut [41] (fun v41 wc=>∃ (kq:Nat) (x41_12:Bool),v41=.bool x41_12∧Aside0 (spec_GoodStats.j2 kq x24_2 l0_0 (l0_0.length:Int) x24_2 x41_12 l0_0 l0_1=some r)∧Aside0 (kq≤k2)∧Aside0 (wc.heap[gb139]?=some (.cells #[(.slice (some ad141) l0_0.length c0_0),(.slice A0_1 l0_1.length c0_1)] 29 (0,0)))∧Aside0 (Below w.heap.size w wc))
         case first =>
          have H:=HC13.out;clear HC13;replace H:=Option.bind_eq_some_iff.mp H;obtain ⟨t142,A140,H⟩:=H;replace H:(if t142=true then (if x24_2 < (l0_1.length:Int) then (spec_GoodStats.j2 k2 x24_2 l0_0 (l0_0.length:Int) x24_2 (((rd_L1 l0_1 x24_2).length:Int) != x24_2) l0_0 l0_1) else (none)) else (spec_GoodStats.j2 k2 x24_2 l0_0 (l0_0.length:Int) x24_2 true l0_0 l0_1))=some r:=H;have A14:=qK A140;clear A140;by_cases c15:t142=true
          ·subst c15;have H1:(if x24_2 < (l0_1.length:Int) then (spec_GoodStats.j2 k2 x24_2 l0_0 (l0_0.length:Int) x24_2 (((rd_L1 l0_1 x24_2).length:Int) != x24_2) l0_0 l0_1) else (none))=some r:=by rw [if_pos rfl] at H;exact H
           clear H;have H:=H1;clear H1;by_cases c16:x24_2 < (l0_1.length:Int)
           ·rw [if_pos c16] at H;have c16b0:decide (x24_2 < (l0_1.length:Int))=true:=decide_eq_true c16;clear c16;(first|rw [c16b0]|(simp only [i64_w,i32_w];rw [c16b0])|skip);have H':=qK H;clear H;go_wp2_with (first|((with_reducible refine gate_callee (f:=49) rfl ?_);refine goesL_ (some 30) rfl rfl Try.func49 (by kernel_rfl) rfl #[.int .i64 (rd l0_0 x24_2),.int .i64 1,.int .i64 50] rfl (by (try simp only [mT,mC,mN]);first|done|rfl|(simp only [lD,lT];rfl)) ?_;(with_reducible refine (spec_l1In.calls (rd l0_0 x24_2) 1 50 true _ A14.out).mono ?_);rintro e w' ⟨rfl,⟨nd,rfl⟩⟩;refine ⟨_,rfl,?_⟩;have hcz17_0:wr.cell? ⟨gb139,0,none⟩=some (.slice (some ad141) l0_0.length c0_0):=(qC BK139.out 0).trans rfl;have hcz17_1:wr.cell? ⟨gb139,1,none⟩=some (.slice A0_1 l0_1.length c0_1):=(qC BK139.out 1).trans rfl;have hfz17_0:=qF BK139.out 0;have hfz17_1:=qF BK139.out 1;have p143:0≤(x24_2:Int):=of_decide_eq_true (by first|(with_reducible assumption)|assumption);have q143:x24_2 < (l0_1.length:Int):=of_decide_eq_true (by first|(with_reducible assumption)|assumption);obtain ⟨ad143,A143_0,c143_0,e143,hx143_0,hl143_0,hi143_0⟩:=at_L1 HR0_1.out x24_2 p143 q143;cases e143;replace hx143_0:=(HB.out.cell (World.block_lt_of_cell? w _ hx143_0)).trans hx143_0;have HR143_0:=qK hi143_0;have HC143_0:=qK hl143_0;clear hi143_0 hl143_0;replace p143:=eq_true p143;replace q143:=eq_true q143))
            go_meet
            case rel=>exact ⟨_,((((rd_L1 l0_1 x24_2).length:Int) != x24_2)),(by first|rfl|(simp;done)|(simp [*];done)),H',⟨by have:=HJ1.out;have:=HK2.out;first|omega|exact Nat.le_refl _⟩,⟨by (with_reducible repeat (first|refine qN ?_ _|refine qW ?_|refine qL ?_ _));exact BK139.out⟩,⟨by repeat (first|(with_reducible first|exact HB.out|apply qA|apply qD|apply qO|refine qS ?_ GE139.out)|exact HB.out)⟩⟩
           ·rw [if_neg c16] at H;exact absurd H (by simp)
          ·replace c15:=Bool.eq_false_iff.mpr c15;subst c15;have H1:(spec_GoodStats.j2 k2 x24_2 l0_0 (l0_0.length:Int) x24_2 true l0_0 l0_1)=some r:=by rw [if_neg (show ¬ (false=true) by decide)] at H;exact H
           clear H;have H:=H1;clear H1;have H':=qK H;clear H;go_wp2_with (first|((with_reducible refine gate_callee (f:=49) rfl ?_);refine goesL_ (some 30) rfl rfl Try.func49 (by kernel_rfl) rfl #[.int .i64 (rd l0_0 x24_2),.int .i64 1,.int .i64 50] rfl (by (try simp only [mT,mC,mN]);first|done|rfl|(simp only [lD,lT];rfl)) ?_;(with_reducible refine (spec_l1In.calls (rd l0_0 x24_2) 1 50 false _ A14.out).mono ?_);rintro e w' ⟨rfl,⟨nd,rfl⟩⟩;refine ⟨_,rfl,?_⟩))
           go_meet
           case rel=>exact ⟨_,(true),(by first|rfl|(simp;done)|(simp [*];done)),H',⟨by have:=HJ1.out;have:=HK2.out;first|omega|exact Nat.le_refl _⟩,⟨by (with_reducible repeat (first|refine qN ?_ _|refine qW ?_|refine qL ?_ _));exact BK139.out⟩,⟨by repeat (first|(with_reducible first|exact HB.out|apply qA|apply qD|apply qO|refine qS ?_ GE139.out)|exact HB.out)⟩⟩
         case rest =>
          clear HC13;try clear c1
          try clear p1
          try clear q1
          try clear hx1
          try clear c2
          try clear p2
          try clear c4
          try clear c5
          try clear c8
          try clear c10
          try clear c10b0
          try clear c11
          try clear c11b0
          try clear c12
          try clear c12b0
          try clear c14
          try clear p14
          try clear q14
          try clear hx14
          try clear c15
          try clear c16
          try clear c16b0
          try clear hcz17_0
          try clear hcz17_1
          try clear hcz6_0
          try clear hcz6_1
          try clear hcz7_0
          try clear hcz7_1
          try clear hcz9_0
          try clear hcz9_1
          try clear hfz17_0
          try clear hfz17_1
          try clear hfz6_0
          try clear hfz6_1
          try clear hfz7_0
          try clear hfz7_1
          try clear hfz9_0
          try clear hfz9_1
          try clear hx141_0
          try clear hx143_0
          try clear p141
          try clear p143
          try clear p2
          try clear q141
          try clear q143
          obtain ⟨kq,x41_12,rfl,HA,HJ12,BK139,HB⟩:=hcut;cases kq with
          | zero=>exact absurd HA.out (by simp [spec_GoodStats.j2])
          | succ kj12 =>
           have H:=HA.out;clear HA;simp only [spec_GoodStats.j2] at H;by_cases c18:x41_12=true
           ·subst c18;have H1:(some false)=some r:=by rw [if_pos rfl] at H;exact H
            clear H;have H:=H1;clear H1;obtain rfl:=Option.some.inj H;go_wp2
            go_ret
            exact ⟨by first|rfl|(simp [errW_none,errW_some] <;> rfl)|(simp [*,errW_none,errW_some] <;> rfl),by repeat (first|(with_reducible first|exact HB.out|apply qA|apply qD|apply qO|refine qS ?_ GE139.out)|exact HB.out)⟩
           ·replace c18:=Bool.eq_false_iff.mpr c18;subst c18;have H1:(if 0≤x24_2 then (if x24_2 < (l0_1.length:Int) then (spec_GoodStats.l1 kj12 l0_0 (l0_0.length:Int) x24_2 (rd_L1 l0_1 x24_2) ((rd_L1 l0_1 x24_2).length:Int) 0 l0_0 l0_1) else (none)) else (none))=some r:=by rw [if_neg (show ¬ (false=true) by decide)] at H;exact H
            clear H;have H:=H1;clear H1;by_cases c19:0≤x24_2
            ·rw [if_pos c19] at H;have c19b0:decide (0≤x24_2)=true:=decide_eq_true c19;clear c19;by_cases c20:x24_2 < (l0_1.length:Int)
             ·rw [if_pos c20] at H;have c20b0:decide (x24_2 < (l0_1.length:Int))=true:=decide_eq_true c20;clear c20;have H':=qK H;clear H;have hcz21_0:wc.cell? ⟨gb139,0,none⟩=some (.slice (some ad141) l0_0.length c0_0):=(qC BK139.out 0).trans rfl;have hcz21_1:wc.cell? ⟨gb139,1,none⟩=some (.slice A0_1 l0_1.length c0_1):=(qC BK139.out 1).trans rfl;have hfz21_0:=qF BK139.out 0;have hfz21_1:=qF BK139.out 1;have p144:0≤(x24_2:Int):=of_decide_eq_true (by first|(with_reducible assumption)|assumption);have q144:x24_2 < (l0_1.length:Int):=of_decide_eq_true (by first|(with_reducible assumption)|assumption);obtain ⟨ad144,A144_0,c144_0,e144,hx144_0,hl144_0,hi144_0⟩:=at_L1 HR0_1.out x24_2 p144 q144;cases e144
              replace hx144_0:=(HB.out.cell (World.block_lt_of_cell? w _ hx144_0)).trans hx144_0;have HR144_0:=qK hi144_0;have HC144_0:=qK hl144_0;clear hi144_0 hl144_0;replace p144:=eq_true p144;replace q144:=eq_true q144;go_wp2
              go_loopg [48] kj12 (fun kq v48 w'=>∃ (x48_4:Int),v48=.int .i64 x48_4∧Aside0 (spec_GoodStats.l1 kq l0_0 (l0_0.length:Int) x24_2 (rd_L1 l0_1 x24_2) ((rd_L1 l0_1 x24_2).length:Int) x48_4 l0_0 l0_1=some r)∧Aside0 (kq≤kj12)∧Aside0 (w'.heap[gb139]?=some (.cells #[(.slice (some ad141) l0_0.length c0_0),(.slice (some ad144) l0_1.length c0_1)] 29 (0,0)))∧Aside0 (Below w.heap.size w w'))
              case atStart=>exact ⟨(0),(by first|rfl|(simp;done)|(simp [*];done)),H',⟨Nat.le_refl _⟩,⟨by (with_reducible repeat (first|refine qN ?_ _|refine qW ?_|refine qL ?_ _));exact BK139.out⟩,⟨by repeat (first|(with_reducible first|exact HB.out|apply qA|apply qD|apply qO|refine qS ?_ GE139.out)|exact HB.out)⟩⟩
              case round =>
               clear H';try clear c1
               try clear p1
               try clear q1
               try clear hx1
               try clear c2
               try clear p2
               try clear c4
               try clear c5
               try clear c8
               try clear c10
               try clear c10b0
               try clear c11
               try clear c11b0
               try clear c12
               try clear c12b0
               try clear c14
               try clear p14
               try clear q14
               try clear hx14
               try clear c15
               try clear c16
               try clear c16b0
               try clear c18
               try clear c19
               try clear c19b0
               try clear c20
               try clear c20b0
               try clear hcz17_0
               try clear hcz17_1
               try clear hcz21_0
               try clear hcz21_1
               try clear hcz6_0
               try clear hcz6_1
               try clear hcz7_0
               try clear hcz7_1
               try clear hcz9_0
               try clear hcz9_1
               try clear hfz17_0
               try clear hfz17_1
               try clear hfz21_0
               try clear hfz21_1
               try clear hfz6_0
               try clear hfz6_1
               try clear hfz7_0
               try clear hfz7_1
               try clear hfz9_0
               try clear hfz9_1
               try clear hx141_0
               try clear hx143_0
               try clear hx144_0
               try clear p1
               try clear p14
               try clear p141
               try clear p143
               try clear p144
               try clear p2
               try clear q1
               try clear q14
               try clear q141
               try clear q143
               try clear q144
               obtain ⟨x48_4,rfl,HA,HK4,BK139,HB⟩:=hrel;cases gk with
               | zero=>exact absurd HA.out (by simp [spec_GoodStats.l1])
               | succ k4 =>
                have H:=HA.out;clear HA;simp only [spec_GoodStats.l1] at H;by_cases c22:x48_4 < ((rd_L1 l0_1 x24_2).length:Int)
                ·rw [if_pos c22] at H;have c22b0:decide (x48_4 < ((rd_L1 l0_1 x24_2).length:Int))=true:=decide_eq_true c22;clear c22;by_cases c23:0≤x48_4
                 ·rw [if_pos c23] at H;have c23b0:decide (0≤x48_4)=true:=decide_eq_true c23;clear c23;by_cases c24:x48_4 < ((rd_L1 l0_1 x24_2).length:Int)
                  ·rw [if_pos c24] at H;have c24b0:decide (x48_4 < ((rd_L1 l0_1 x24_2).length:Int))=true:=decide_eq_true c24;clear c24;replace H:=Option.bind_eq_some_iff.mp H;obtain ⟨t146,A250,H⟩:=H;replace H:(if t146=true then (spec_GoodStats.l1 k4 l0_0 (l0_0.length:Int) x24_2 (rd_L1 l0_1 x24_2) ((rd_L1 l0_1 x24_2).length:Int) (wrap64 (x48_4 + 1)) l0_0 l0_1) else (some false))=some r:=H;have A25:=qK A250;clear A250;by_cases c26:t146=true
                   ·subst c26;have H1:(spec_GoodStats.l1 k4 l0_0 (l0_0.length:Int) x24_2 (rd_L1 l0_1 x24_2) ((rd_L1 l0_1 x24_2).length:Int) (wrap64 (x48_4 + 1)) l0_0 l0_1)=some r:=by rw [if_pos rfl] at H;exact H
                    clear H;have H:=H1;clear H1;have H':=qK H;clear H;have p145:0≤(x48_4:Int):=of_decide_eq_true (by first|(with_reducible assumption)|assumption);have q145:x48_4 < ((rd_L1 l0_1 x24_2).length:Int):=of_decide_eq_true (by first|(with_reducible assumption)|assumption);obtain ⟨ad145,e145,hx145_0⟩:=Kd.at_int HR144_0.out x48_4 p145 q145;cases e145
                    replace hx145_0:=(HB.out.cell (World.block_lt_of_cell? w _ hx145_0)).trans hx145_0;replace p145:=eq_true p145;replace q145:=eq_true q145;go_wp2_with (first|((with_reducible refine gate_callee (f:=49) rfl ?_);refine goesL_ (some 53) rfl rfl Try.func49 (by kernel_rfl) rfl #[.int .i64 (rd (rd_L1 l0_1 x24_2) x48_4),.int .i64 1,.int .i64 10] rfl (by (try simp only [mT,mC,mN]);first|done|rfl|(simp only [lD,lT];rfl)) ?_;(with_reducible refine (spec_l1In.calls (rd (rd_L1 l0_1 x24_2) x48_4) 1 10 true _ A25.out).mono ?_);rintro e w' ⟨rfl,⟨nd,rfl⟩⟩;refine ⟨_,rfl,?_⟩))
                    go_roundg k4
                    case measure=>have:=HJ1.out;have:=HK2.out;have:=HJ12.out;have:=HK4.out;omega
                    case rel=>exact ⟨(wrap64 (x48_4 + 1)),(by first|rfl|(simp;done)|(simp [*];done)),H',⟨by have:=HJ1.out;have:=HK2.out;have:=HJ12.out;have:=HK4.out;omega⟩,⟨by (with_reducible repeat (first|refine qN ?_ _|refine qW ?_|refine qL ?_ _));exact BK139.out⟩,⟨by repeat (first|(with_reducible first|exact HB.out|apply qA|apply qD|apply qO|refine qS ?_ GE139.out)|exact HB.out)⟩⟩
                   ·replace c26:=Bool.eq_false_iff.mpr c26;subst c26;have H1:(some false)=some r:=by rw [if_neg (show ¬ (false=true) by decide)] at H;exact H
                    clear H;have H:=H1;clear H1;obtain rfl:=Option.some.inj H;have p145:0≤(x48_4:Int):=of_decide_eq_true (by first|(with_reducible assumption)|assumption);have q145:x48_4 < ((rd_L1 l0_1 x24_2).length:Int):=of_decide_eq_true (by first|(with_reducible assumption)|assumption);obtain ⟨ad145,e145,hx145_0⟩:=Kd.at_int HR144_0.out x48_4 p145 q145;cases e145
                    replace hx145_0:=(HB.out.cell (World.block_lt_of_cell? w _ hx145_0)).trans hx145_0;replace p145:=eq_true p145;replace q145:=eq_true q145;go_wp2_with (first|((with_reducible refine gate_callee (f:=49) rfl ?_);refine goesL_ (some 53) rfl rfl Try.func49 (by kernel_rfl) rfl #[.int .i64 (rd (rd_L1 l0_1 x24_2) x48_4),.int .i64 1,.int .i64 10] rfl (by (try simp only [mT,mC,mN]);first|done|rfl|(simp only [lD,lT];rfl)) ?_;(with_reducible refine (spec_l1In.calls (rd (rd_L1 l0_1 x24_2) x48_4) 1 10 false _ A25.out).mono ?_);rintro e w' ⟨rfl,⟨nd,rfl⟩⟩;refine ⟨_,rfl,?_⟩))
                    go_ret
                    exact ⟨by first|rfl|(simp [errW_none,errW_some] <;> rfl)|(simp [*,errW_none,errW_some] <;> rfl),by repeat (first|(with_reducible first|exact HB.out|apply qA|apply qD|apply qO|refine qS ?_ GE139.out)|exact HB.out)⟩
                  ·rw [if_neg c24] at H;exact absurd H (by simp)
                 ·rw [if_neg c23] at H;exact absurd H (by simp)
                ·rw [if_neg c22] at H;have c22b0:decide (x48_4 < ((rd_L1 l0_1 x24_2).length:Int))=false:=decide_eq_false c22;clear c22;have H':=qK H;clear H;go_wp2
                 go_roundg k4
                 case measure=>have:=HJ1.out;have:=HK2.out;have:=HJ12.out;have:=HK4.out;omega
                 case rel=>exact ⟨(wrap64 (x24_2 + 1)),(by first|rfl|(simp;done)|(simp [*];done)),H',⟨by have:=HJ1.out;have:=HK2.out;have:=HJ12.out;have:=HK4.out;omega⟩,⟨by (with_reducible repeat (first|refine qN ?_ _|refine qW ?_|refine qL ?_ _));exact BK139.out⟩,⟨by repeat (first|(with_reducible first|exact HB.out|apply qA|apply qD|apply qO|refine qS ?_ GE139.out)|exact HB.out)⟩⟩
             ·rw [if_neg c20] at H;exact absurd H (by simp)
            ·rw [if_neg c19] at H;exact absurd H (by simp)
        ·rw [if_neg c12] at H;exact absurd H (by simp)
       ·rw [if_neg c11] at H;exact absurd H (by simp)
      ·rw [if_neg c10] at H;have c10b0:decide (x24_2 < (l0_0.length:Int))=false:=decide_eq_false c10;clear c10;obtain rfl:=Option.some.inj H;go_wp2
       go_ret
       exact ⟨by first|rfl|(simp [errW_none,errW_some] <;> rfl)|(simp [*,errW_none,errW_some] <;> rfl),by repeat (first|(with_reducible first|exact HB.out|apply qA|apply qD|apply qO|refine qS ?_ GE139.out)|exact HB.out)⟩

/-! ### spec_l1Some: function 30 -/
def spec_l1Some.l0 : Nat→List Int→Int→List Int→Int→Int→Option (Bool)
 | 0,_,_,_,_,_=>none
 | k + 1,x0,x1,x7,x8,x9=>if x9 < x8 then (if 0≤x9 then (if x9 < (x7.length:Int) then (if (rd x7 x9) < 0 then (some false) else (if (rd x7 x9) ≥ x1 then (some false) else (if x9 > 0 then (if 0≤(wrap64 (x9 - 1)) then (if (wrap64 (x9 - 1)) < (x0.length:Int) then (if (rd x0 (wrap64 (x9 - 1))) ≥ (rd x7 x9) then (some false) else (spec_l1Some.l0 k x0 x1 x7 x8 (wrap64 (x9 + 1)))) else (none)) else (none)) else (spec_l1Some.l0 k x0 x1 x7 x8 (wrap64 (x9 + 1)))))) else (none)) else (none)) else (some true)
def spec_l1Some.f (k:Nat) (l0:List Int) (a1:Int):Option (Bool):=spec_l1Some.l0 k l0 a1 l0 (l0.length:Int) 0
theorem spec_l1Some.mono_l : ∀ k,(∀ y0 y1 y2 y3 y4,LeO (spec_l1Some.l0 k y0 y1 y2 y3 y4) (spec_l1Some.l0 (k + 1) y0 y1 y2 y3 y4))
 | 0=>fun _ _ _ _ _ r h=>by simp [spec_l1Some.l0] at h
 | k + 1=>by
  have ih0:=spec_l1Some.mono_l k
  ·intro y0 y1 y2 y3 y4;unfold spec_l1Some.l0
   repeat' first
   | (with_reducible exact ih0 _ _ _ _ _)
   | (with_reducible exact LeO.refl _)
   | (with_reducible exact LeO.none _)
   | (with_reducible refine LeO.ite ?_ ?_)
   | (with_reducible refine LeO.bind ?_ (fun _=>?_))
   | exact ih0 _ _ _ _ _
   | exact LeO.none _
   | refine LeO.ite ?_ ?_
   | refine LeO.bind ?_ (fun _=>?_)
theorem spec_l1Some.mono : ∀ a0 a1 k,LeO (spec_l1Some.f k a0 a1) (spec_l1Some.f (k + 1) a0 a1):=by
 intro a0 a1 k;have ih0:=spec_l1Some.mono_l k;unfold spec_l1Some.f
 repeat' first
   | (with_reducible exact ih0 _ _ _ _ _)
   | (with_reducible exact LeO.refl _)
   | (with_reducible exact LeO.none _)
   | (with_reducible refine LeO.ite ?_ ?_)
   | (with_reducible refine LeO.bind ?_ (fun _=>?_))
   | exact ih0 _ _ _ _ _
   | exact LeO.none _
   | refine LeO.ite ?_ ?_
   | refine LeO.bind ?_ (fun _=>?_)
set_option maxHeartbeats 8000000 in
set_option maxRecDepth 100000 in
theorem spec_l1Some.calls (k:Nat) (A0:Option Addr) (c0:Nat) (l0:List Int) (a1:Int) (r:Bool) (w:World) (hr0:Kd.C (Kd.int .i64) w A0 l0.length l0) (hc0:l0.length≤c0) (h:spec_l1Some.f k l0 a1=some r) :
  Calls Try.prog 30 #[.slice A0 l0.length c0,.int .i64 a1] w fun e w'=>e=.returned (.bool r)∧Drawn0 w w':=by
 have HR0:=qK hr0;have HC0:=qK hc0;clear hr0 hc0;have H:(spec_l1Some.l0 k l0 a1 l0 (l0.length:Int) 0)=some r:=h;clear h;have H':=qK H;clear H;go_enter Try.func30,Try.ntmps30
 go_wp2
 go_loopg [9] k (fun kq v9 w'=>∃ (x9_1:Int),v9=.int .i64 x9_1∧Aside0 (spec_l1Some.l0 kq l0 a1 l0 (l0.length:Int) x9_1=some r)∧Aside0 (kq≤k)∧Drawn0 w w')
 case atStart=>exact ⟨(0),(by first|rfl|(simp;done)|(simp [*];done)),H',⟨Nat.le_refl _⟩,by repeat (first|exact Drawn0.refl _|apply Drawn0.step)⟩
 case round =>
  clear H';try clear p2
  obtain ⟨x9_1,rfl,HA,HK1,⟨m1,rfl⟩⟩:=hrel;cases gk with
  | zero=>exact absurd HA.out (by simp [spec_l1Some.l0])
  | succ k1 =>
   have H:=HA.out;clear HA;simp only [spec_l1Some.l0] at H;by_cases c3:x9_1 < (l0.length:Int)
   ·rw [if_pos c3] at H;have c3b0:decide (x9_1 < (l0.length:Int))=true:=decide_eq_true c3;clear c3;by_cases c4:0≤x9_1
    ·rw [if_pos c4] at H;have c4b0:decide (0≤x9_1)=true:=decide_eq_true c4;clear c4;by_cases c5:x9_1 < (l0.length:Int)
     ·rw [if_pos c5] at H;have c5b0:decide (x9_1 < (l0.length:Int))=true:=decide_eq_true c5;clear c5;by_cases c6:(rd l0 x9_1) < 0
      ·rw [if_pos c6] at H;have c6b0:decide ((rd l0 x9_1) < 0)=true:=decide_eq_true c6;clear c6;obtain rfl:=Option.some.inj H;have p147:0≤(x9_1:Int):=of_decide_eq_true (by first|(with_reducible assumption)|assumption);have q147:x9_1 < (l0.length:Int):=of_decide_eq_true (by first|(with_reducible assumption)|assumption);obtain ⟨ad147,e147,hx147_0⟩:=Kd.at_int HR0.out x9_1 p147 q147;cases e147
       replace p147:=eq_true p147;replace q147:=eq_true q147;go_wp2
       go_ret
       exact ⟨by first|rfl|(simp;done)|(simp [*];done),by repeat (first|exact Drawn0.refl _|apply Drawn0.step)⟩
      ·rw [if_neg c6] at H;have c6b0:decide ((rd l0 x9_1) < 0)=false:=decide_eq_false c6;clear c6;by_cases c7:(rd l0 x9_1) ≥ a1
       ·rw [if_pos c7] at H;have c7b0:decide (a1≤(rd l0 x9_1))=true:=decide_eq_true c7;clear c7;obtain rfl:=Option.some.inj H;have p147:0≤(x9_1:Int):=of_decide_eq_true (by first|(with_reducible assumption)|assumption);have q147:x9_1 < (l0.length:Int):=of_decide_eq_true (by first|(with_reducible assumption)|assumption);obtain ⟨ad147,e147,hx147_0⟩:=Kd.at_int HR0.out x9_1 p147 q147;cases e147
        replace p147:=eq_true p147;replace q147:=eq_true q147;go_wp2
        go_ret
        exact ⟨by first|rfl|(simp;done)|(simp [*];done),by repeat (first|exact Drawn0.refl _|apply Drawn0.step)⟩
       ·rw [if_neg c7] at H;have c7b0:decide (a1≤(rd l0 x9_1))=false:=decide_eq_false c7;clear c7;by_cases c8:x9_1 > 0
        ·rw [if_pos c8] at H;have c8b0:decide (0 < x9_1)=true:=decide_eq_true c8;clear c8;obtain ⟨ji9,hji9⟩:∃ j_:Int,(wrap64 (x9_1 - 1))=j_:=⟨_,rfl⟩;replace H:(if 0≤(ji9) then (if (ji9) < (l0.length:Int) then (if (rd l0 (ji9)) ≥ (rd l0 x9_1) then (some false) else (spec_l1Some.l0 k1 l0 a1 l0 (l0.length:Int) (wrap64 (x9_1 + 1)))) else (none)) else (none))=some r:=by first|(rw [hji9] at H;exact H)|(simp only [hji9] at H ⊢;exact H)
         have hji9w:(IntKind.i64.wrap (x9_1 - 1))=ji9:=(i64_w _).trans hji9;by_cases c10:0≤(ji9)
         ·rw [if_pos c10] at H;have c10b0:decide (0≤(ji9))=true:=decide_eq_true c10;clear c10;by_cases c11:(ji9) < (l0.length:Int)
          ·rw [if_pos c11] at H;have c11b0:decide ((ji9) < (l0.length:Int))=true:=decide_eq_true c11;clear c11;by_cases c12:(rd l0 (ji9)) ≥ (rd l0 x9_1)
           ·rw [if_pos c12] at H;have c12b0:decide ((rd l0 x9_1)≤(rd l0 (ji9)))=true:=decide_eq_true c12;clear c12;obtain rfl:=Option.some.inj H;have p147:0≤(x9_1:Int):=of_decide_eq_true (by first|(with_reducible assumption)|assumption);have q147:x9_1 < (l0.length:Int):=of_decide_eq_true (by first|(with_reducible assumption)|assumption);obtain ⟨ad147,e147,hx147_0⟩:=Kd.at_int HR0.out x9_1 p147 q147;cases e147
            replace p147:=eq_true p147;replace q147:=eq_true q147;have p148:0≤((ji9):Int):=of_decide_eq_true (by first|(with_reducible assumption)|assumption);have q148:(ji9) < (l0.length:Int):=of_decide_eq_true (by first|(with_reducible assumption)|assumption);obtain ⟨ad148,e148,hx148_0⟩:=Kd.at_int HR0.out (ji9) p148 q148;obtain rfl:ad147=ad148:=(by injection e148);replace p148:=eq_true p148;replace q148:=eq_true q148;go_wp2
            go_ret
            exact ⟨by first|rfl|(simp;done)|(simp only [← hji9] <;> (first|rfl|simp))|(simp [*];done),by repeat (first|exact Drawn0.refl _|apply Drawn0.step)⟩
           ·rw [if_neg c12] at H;have c12b0:decide ((rd l0 x9_1)≤(rd l0 (ji9)))=false:=decide_eq_false c12;clear c12;have H':=qK H;clear H;have p147:0≤(x9_1:Int):=of_decide_eq_true (by first|(with_reducible assumption)|assumption);have q147:x9_1 < (l0.length:Int):=of_decide_eq_true (by first|(with_reducible assumption)|assumption);obtain ⟨ad147,e147,hx147_0⟩:=Kd.at_int HR0.out x9_1 p147 q147;cases e147
            replace p147:=eq_true p147;replace q147:=eq_true q147;have p148:0≤((ji9):Int):=of_decide_eq_true (by first|(with_reducible assumption)|assumption);have q148:(ji9) < (l0.length:Int):=of_decide_eq_true (by first|(with_reducible assumption)|assumption);obtain ⟨ad148,e148,hx148_0⟩:=Kd.at_int HR0.out (ji9) p148 q148;obtain rfl:ad147=ad148:=(by injection e148);replace p148:=eq_true p148;replace q148:=eq_true q148;go_wp2
            go_roundg k1
            case measure=>have:=HK1.out;omega
            case rel=>exact ⟨(wrap64 (x9_1 + 1)),(by first|rfl|(simp;done)|(simp [*];done)),H',⟨by have:=HK1.out;omega⟩,by repeat (first|exact Drawn0.refl _|apply Drawn0.step)⟩
          ·rw [if_neg c11] at H;exact absurd H (by simp)
         ·rw [if_neg c10] at H;exact absurd H (by simp)
        ·rw [if_neg c8] at H;have c8b0:decide (0 < x9_1)=false:=decide_eq_false c8;clear c8;have H':=qK H;clear H;have p147:0≤(x9_1:Int):=of_decide_eq_true (by first|(with_reducible assumption)|assumption);have q147:x9_1 < (l0.length:Int):=of_decide_eq_true (by first|(with_reducible assumption)|assumption);obtain ⟨ad147,e147,hx147_0⟩:=Kd.at_int HR0.out x9_1 p147 q147;cases e147
         replace p147:=eq_true p147;replace q147:=eq_true q147;go_wp2
         go_roundg k1
         case measure=>have:=HK1.out;omega
         case rel=>exact ⟨(wrap64 (x9_1 + 1)),(by first|rfl|(simp;done)|(simp [*];done)),H',⟨by have:=HK1.out;omega⟩,by repeat (first|exact Drawn0.refl _|apply Drawn0.step)⟩
     ·rw [if_neg c5] at H;exact absurd H (by simp)
    ·rw [if_neg c4] at H;exact absurd H (by simp)
   ·rw [if_neg c3] at H;have c3b0:decide (x9_1 < (l0.length:Int))=false:=decide_eq_false c3;clear c3;obtain rfl:=Option.some.inj H;go_wp2
    go_ret
    exact ⟨by first|rfl|(simp;done)|(simp [*];done),by repeat (first|exact Drawn0.refl _|apply Drawn0.step)⟩

/-! ### spec_l12Size: function 52 -/
mutual
def spec_l12Size.l0 : Nat→List Int→Int→Int→List Int→Int→Int→List Int→List (List Int)→Option (Int)
 | 0,_,_,_,_,_,_,_,_=>none
 | k + 1,x1,x5,x6,x11,x12,x13,x150000,x150001=>if x13 < x12 then (if 0≤x13 then (if x13 < (x11.length:Int) then (if 0≤(rd x11 x13) then (if (rd x11 x13) < (x150000.length:Int) then (if x13≤(x1.length:Int) then (spec_l12Size.l1 k x1 (wrap64 (x5 * (rd x150000 (rd x11 x13)))) x6 (rd x11 x13) x11 x12 x13 (x1.take (x13:Int).toNat) ((x1.take (x13:Int).toNat).length:Int) 0 x150000 x150001) else (none)) else (none)) else (none)) else (none)) else (none)) else (if x6=0 then (none) else (some (wrap64 (Int.tdiv x5 x6))))
def spec_l12Size.l1 : Nat→List Int→Int→Int→Int→List Int→Int→Int→List Int→Int→Int→List Int→List (List Int)→Option (Int)
 | 0,_,_,_,_,_,_,_,_,_,_,_,_=>none
 | k + 1,x1,x5,x6,x8,x11,x12,x13,x27,x28,x29,x150000,x150001=>if x29 < x28 then (if 0≤x29 then (if x29 < (x27.length:Int) then (if 0≤x8 then (if x8 < (x150001.length:Int) then (if 0≤(rd x27 x29) then (if (rd x27 x29) < ((rd_L1 x150001 x8).length:Int) then (spec_l12Size.l1 k x1 x5 (wrap64 (x6 * (rd (rd_L1 x150001 x8) (rd x27 x29)))) x8 x11 x12 x13 x27 x28 (wrap64 (x29 + 1)) x150000 x150001) else (none)) else (none)) else (none)) else (none)) else (none)) else (none)) else (spec_l12Size.l0 k x1 x5 x6 x11 x12 (wrap64 (x13 + 1)) x150000 x150001)
end
def spec_l12Size.f (k:Nat) (l0_0:List Int) (l0_1:List (List Int)) (l1:List Int):Option (Int):=spec_l12Size.l0 k l1 1 1 l1 (l1.length:Int) 0 l0_0 l0_1
theorem spec_l12Size.mono_l : ∀ k,(∀ y0 y1 y2 y3 y4 y5 y6 y7,LeO (spec_l12Size.l0 k y0 y1 y2 y3 y4 y5 y6 y7) (spec_l12Size.l0 (k + 1) y0 y1 y2 y3 y4 y5 y6 y7))∧(∀ y0 y1 y2 y3 y4 y5 y6 y7 y8 y9 y10 y11,LeO (spec_l12Size.l1 k y0 y1 y2 y3 y4 y5 y6 y7 y8 y9 y10 y11) (spec_l12Size.l1 (k + 1) y0 y1 y2 y3 y4 y5 y6 y7 y8 y9 y10 y11))
 | 0=>⟨fun _ _ _ _ _ _ _ _ r h=>by simp [spec_l12Size.l0] at h,fun _ _ _ _ _ _ _ _ _ _ _ _ r h=>by simp [spec_l12Size.l1] at h⟩
 | k + 1=>by
  obtain ⟨ih0,ih1⟩:=spec_l12Size.mono_l k;refine ⟨?_,?_⟩
  ·intro y0 y1 y2 y3 y4 y5 y6 y7;unfold spec_l12Size.l0
   repeat' first
   | (with_reducible exact ih0 _ _ _ _ _ _ _ _)
   | (with_reducible exact ih1 _ _ _ _ _ _ _ _ _ _ _ _)
   | (with_reducible exact LeO.refl _)
   | (with_reducible exact LeO.none _)
   | (with_reducible refine LeO.ite ?_ ?_)
   | (with_reducible refine LeO.bind ?_ (fun _=>?_))
   | exact ih0 _ _ _ _ _ _ _ _
   | exact ih1 _ _ _ _ _ _ _ _ _ _ _ _
   | exact LeO.none _
   | refine LeO.ite ?_ ?_
   | refine LeO.bind ?_ (fun _=>?_)
  ·intro y0 y1 y2 y3 y4 y5 y6 y7 y8 y9 y10 y11;unfold spec_l12Size.l1
   repeat' first
   | (with_reducible exact ih0 _ _ _ _ _ _ _ _)
   | (with_reducible exact ih1 _ _ _ _ _ _ _ _ _ _ _ _)
   | (with_reducible exact LeO.refl _)
   | (with_reducible exact LeO.none _)
   | (with_reducible refine LeO.ite ?_ ?_)
   | (with_reducible refine LeO.bind ?_ (fun _=>?_))
   | exact ih0 _ _ _ _ _ _ _ _
   | exact ih1 _ _ _ _ _ _ _ _ _ _ _ _
   | exact LeO.none _
   | refine LeO.ite ?_ ?_
   | refine LeO.bind ?_ (fun _=>?_)
theorem spec_l12Size.mono : ∀ a0 a1 a2 k,LeO (spec_l12Size.f k a0 a1 a2) (spec_l12Size.f (k + 1) a0 a1 a2):=by
 intro a0 a1 a2 k;obtain ⟨ih0,ih1⟩:=spec_l12Size.mono_l k;unfold spec_l12Size.f
 repeat' first
   | (with_reducible exact ih0 _ _ _ _ _ _ _ _)
   | (with_reducible exact ih1 _ _ _ _ _ _ _ _ _ _ _ _)
   | (with_reducible exact LeO.refl _)
   | (with_reducible exact LeO.none _)
   | (with_reducible refine LeO.ite ?_ ?_)
   | (with_reducible refine LeO.bind ?_ (fun _=>?_))
   | exact ih0 _ _ _ _ _ _ _ _
   | exact ih1 _ _ _ _ _ _ _ _ _ _ _ _
   | exact LeO.none _
   | refine LeO.ite ?_ ?_
   | refine LeO.bind ?_ (fun _=>?_)
set_option maxHeartbeats 8000000 in
set_option maxRecDepth 100000 in
theorem spec_l12Size.calls (k:Nat) (A0_0:Option Addr) (c0_0:Nat) (l0_0:List Int) (A0_1:Option Addr) (c0_1:Nat) (l0_1:List (List Int)) (A1:Option Addr) (c1:Nat) (l1:List Int) (r:Int) (w:World) (hr0_0:Kd.C (Kd.int .i64) w A0_0 l0_0.length l0_0) (hc0_0:l0_0.length≤c0_0) (hr0_1:Kd.C (Kd.slice 3 (Kd.int .i64)) w A0_1 l0_1.length l0_1) (hc0_1:l0_1.length≤c0_1) (hr1:Kd.C (Kd.int .i64) w A1 l1.length l1) (hc1:l1.length≤c1) (h:spec_l12Size.f k l0_0 l0_1 l1=some r) :
  Calls Try.prog 52 #[.agg #[.slice A0_0 l0_0.length c0_0,.slice A0_1 l0_1.length c0_1],.slice A1 l1.length c1] w fun e w'=>e=.returned (.int .i64 r)∧Below w.heap.size w w':=by
 have hu29:=Try.underlying29;have HR0_0:=qK hr0_0;have HC0_0:=qK hc0_0;clear hr0_0 hc0_0;have HR0_1:=qK hr0_1;have HC0_1:=qK hc0_1;clear hr0_1 hc0_1;have HR1:=qK hr1;have HC1:=qK hc1;clear hr1 hc1;have HB:=qK (Below.refl w.heap.size w);have H:(spec_l12Size.l0 k l1 1 1 l1 (l1.length:Int) 0 l0_0 l0_1)=some r:=h;clear h;have H':=qK H;clear H;go_enter Try.func52,Try.ntmps52
 go_wp2_with (first|((with_reducible refine gate_dst (N:=2) rfl ?_);refine box_event ?hg (N:=2) ?hd (cs:=#[.slice A0_0 l0_0.length c0_0,.slice A0_1 l0_1.length c0_1]) (t:=29) ?hr ?_;(case hd=>rfl);(case hg=>rfl);(case hr=>(go_simp;try rfl));intro gb149 hg w3 hbox hb;have n0_:=qK (qT (by repeat (with_reducible first|exact HB.out|apply qA|apply qD|apply qO)) hb);have n1_:=qK (hbox);have n2_:=qK ((by rw [hg];exact (qZ (by repeat (with_reducible first|exact HB.out|apply qA|apply qD|apply qO))):w.heap.size≤gb149));have n3_:=qK ((by rw [hg];exact (qZ (by repeat (with_reducible first|exact HB.out|apply qA|apply qD|apply qO))):w.heap.size≤gb149));clear HB;have HB:=n0_;have BK149:=n1_;have GW149:=n2_;have GE149:=n3_;clear n0_ n1_ n2_ n3_;clear hb hbox hg))
 go_loopg [5,6,13] k (fun kq v5 v6 v13 w'=>∃ (x5_1:Int) (x6_1:Int) (x13_1:Int),v5=.int .i64 x5_1∧v6=.int .i64 x6_1∧v13=.int .i64 x13_1∧Aside0 (spec_l12Size.l0 kq l1 x5_1 x6_1 l1 (l1.length:Int) x13_1 l0_0 l0_1=some r)∧Aside0 (kq≤k)∧Aside0 (w'.heap[gb149]?=some (.cells #[(.slice A0_0 l0_0.length c0_0),(.slice A0_1 l0_1.length c0_1)] 29 (0,0)))∧Aside0 (Below w.heap.size w w'))
 case atStart=>exact ⟨(1),(1),(0),(by first|rfl|(simp;done)|(simp [*];done)),(by first|rfl|(simp;done)|(simp [*];done)),(by first|rfl|(simp;done)|(simp [*];done)),H',⟨Nat.le_refl _⟩,⟨by (with_reducible repeat (first|refine qN ?_ _|refine qW ?_|refine qL ?_ _));exact BK149.out⟩,⟨by repeat (first|(with_reducible first|exact HB.out|apply qA|apply qD|apply qO|refine qS ?_ GE149.out)|exact HB.out)⟩⟩
 case round =>
  clear H';try clear c1
  try clear p2
  obtain ⟨x5_1,x6_1,x13_1,rfl,rfl,rfl,HA,HK1,BK149,HB⟩:=hrel;cases gk with
  | zero=>exact absurd HA.out (by simp [spec_l12Size.l0])
  | succ k1 =>
   have H:=HA.out;clear HA;simp only [spec_l12Size.l0] at H;by_cases c4:x13_1 < (l1.length:Int)
   ·rw [if_pos c4] at H;have c4b0:decide (x13_1 < (l1.length:Int))=true:=decide_eq_true c4;clear c4;by_cases c5:0≤x13_1
    ·rw [if_pos c5] at H;have c5b0:decide (0≤x13_1)=true:=decide_eq_true c5;clear c5;by_cases c6:x13_1 < (l1.length:Int)
     ·rw [if_pos c6] at H;have c6b0:decide (x13_1 < (l1.length:Int))=true:=decide_eq_true c6;clear c6;by_cases c7:0≤(rd l1 x13_1)
      ·rw [if_pos c7] at H;have c7b0:decide (0≤(rd l1 x13_1))=true:=decide_eq_true c7;clear c7;by_cases c8:(rd l1 x13_1) < (l0_0.length:Int)
       ·rw [if_pos c8] at H;have c8b0:decide ((rd l1 x13_1) < (l0_0.length:Int))=true:=decide_eq_true c8;clear c8;have c9b0:=eq_true (of_decide_eq_true (by first|(with_reducible assumption)|assumption):0≤x13_1);by_cases c10:x13_1≤(l1.length:Int)
        ·rw [if_pos c10] at H;have c10b0:=eq_true c10;have c10b1:decide (x13_1≤(l1.length:Int))=true:=decide_eq_true c10;clear c10;have H':=qK H;clear H;have p150:0≤(x13_1:Int):=of_decide_eq_true (by first|(with_reducible assumption)|assumption);have q150:x13_1 < (l1.length:Int):=of_decide_eq_true (by first|(with_reducible assumption)|assumption);obtain ⟨ad150,e150,hx150_0⟩:=Kd.at_int HR1.out x13_1 p150 q150;cases e150
         replace hx150_0:=(HB.out.cell (World.block_lt_of_cell? w _ hx150_0)).trans hx150_0;replace p150:=eq_true p150;replace q150:=eq_true q150;have hcz11_0:wr.cell? ⟨gb149,0,none⟩=some (.slice A0_0 l0_0.length c0_0):=(qC BK149.out 0).trans rfl;have hcz11_1:wr.cell? ⟨gb149,1,none⟩=some (.slice A0_1 l0_1.length c0_1):=(qC BK149.out 1).trans rfl;have hfz11_0:=qF BK149.out 0;have hfz11_1:=qF BK149.out 1;have p151:0≤((rd l1 x13_1):Int):=of_decide_eq_true (by first|(with_reducible assumption)|assumption);have q151:(rd l1 x13_1) < (l0_0.length:Int):=of_decide_eq_true (by first|(with_reducible assumption)|assumption);obtain ⟨ad151,e151,hx151_0⟩:=Kd.at_int HR0_0.out (rd l1 x13_1) p151 q151;cases e151
         replace hx151_0:=(HB.out.cell (World.block_lt_of_cell? w _ hx151_0)).trans hx151_0;replace p151:=eq_true p151;replace q151:=eq_true q151;obtain ⟨i012,hi012,_,hsz12,_⟩:=info_parts info3;obtain ⟨hcut12,hA12,hC12⟩:=print_take_of (P:=Try.prog) (Value.int .i64) 0 22 3 .i64 Try.underlying22 hi012 hsz12 (some ad150) c1 l1 x13_1 (of_decide_eq_true (by first|(with_reducible assumption)|assumption)) (of_decide_eq_true (by first|(with_reducible assumption)|assumption)) HC1.out;have HR152:=qK (Kd.C_of_reads (h1:=fun _=>rfl) (hA12 _ (Kd.reads_of_C HR1.out)));have HC152:=qK hC12;clear hA12 hC12 hi012 hsz12;obtain ⟨yc_, hyc_⟩ : ∃ y_ : List Int, y_ = l1.take (x13_1:Int).toNat := ⟨_, rfl⟩;rw [← hyc_] at H' hcut12 HR152 HC152;have Nyc_ := Aside0.mk hyc_;clear hyc_;go_wp2
         go_loopg [6,29] k1 (fun kq v6 v29 w'=>∃ (x6_2:Int) (x29_2:Int),v6=.int .i64 x6_2∧v29=.int .i64 x29_2∧Aside0 (spec_l12Size.l1 kq l1 (wrap64 (x5_1 * (rd l0_0 (rd l1 x13_1)))) x6_2 (rd l1 x13_1) l1 (l1.length:Int) x13_1 yc_ (yc_.length:Int) x29_2 l0_0 l0_1=some r)∧Aside0 (kq≤k1)∧Aside0 (w'.heap[gb149]?=some (.cells #[(.slice (some ad151) l0_0.length c0_0),(.slice A0_1 l0_1.length c0_1)] 29 (0,0)))∧Aside0 (Below w.heap.size w w'))
         case atStart=>exact ⟨(x6_1),(0),(by first|rfl|(simp;done)|(simp [*];done)),(by first|rfl|(simp;done)|(simp [*];done)),H',⟨Nat.le_refl _⟩,⟨by (with_reducible repeat (first|refine qN ?_ _|refine qW ?_|refine qL ?_ _));exact BK149.out⟩,⟨by repeat (first|(with_reducible first|exact HB.out|apply qA|apply qD|apply qO|refine qS ?_ GE149.out)|exact HB.out)⟩⟩
         case round =>
          clear H';try clear c1
          try clear p1
          try clear q1
          try clear hx1
          try clear p2
          try clear c4
          try clear c4b0
          try clear c5
          try clear c5b0
          try clear c6
          try clear c6b0
          try clear p6
          try clear c7
          try clear c7b0
          try clear c8
          try clear c8b0
          try clear c9
          try clear c9b0
          try clear c10
          try clear c10b0
          try clear c10b1
          try clear hcz11_0
          try clear hcz11_1
          try clear hfz11_0
          try clear hfz11_1
          try clear hx150_0
          try clear hx151_0
          try clear p150
          try clear p151
          try clear p2
          try clear q150
          try clear q151
          obtain ⟨x6_2,x29_2,rfl,rfl,HA,HK2,BK149,HB⟩:=hrel;cases gk with
          | zero=>exact absurd HA.out (by simp [spec_l12Size.l1])
          | succ k2 =>
           have H:=HA.out;clear HA;simp only [spec_l12Size.l1] at H;by_cases c13:x29_2 < (yc_.length:Int)
           ·rw [if_pos c13] at H;have c13b0:decide (x29_2 < (yc_.length:Int))=true:=decide_eq_true c13;clear c13;by_cases c14:0≤x29_2
            ·rw [if_pos c14] at H;have c14b0:decide (0≤x29_2)=true:=decide_eq_true c14;clear c14;by_cases c15:x29_2 < (yc_.length:Int)
             ·rw [if_pos c15] at H;have c15b0:decide (x29_2 < (yc_.length:Int))=true:=decide_eq_true c15;clear c15;by_cases c16:0≤(rd l1 x13_1)
              ·rw [if_pos c16] at H;have c16b0:decide (0≤(rd l1 x13_1))=true:=decide_eq_true c16;clear c16;by_cases c17:(rd l1 x13_1) < (l0_1.length:Int)
               ·rw [if_pos c17] at H;have c17b0:decide ((rd l1 x13_1) < (l0_1.length:Int))=true:=decide_eq_true c17;clear c17;by_cases c18:0≤(rd yc_ x29_2)
                ·rw [if_pos c18] at H;have c18b0:decide (0≤(rd yc_ x29_2))=true:=decide_eq_true c18;clear c18;by_cases c19:(rd yc_ x29_2) < ((rd_L1 l0_1 (rd l1 x13_1)).length:Int)
                 ·rw [if_pos c19] at H;have c19b0:decide ((rd yc_ x29_2) < ((rd_L1 l0_1 (rd l1 x13_1)).length:Int))=true:=decide_eq_true c19;clear c19;have H':=qK H;clear H;have p153:0≤(x29_2:Int):=of_decide_eq_true (by first|(with_reducible assumption)|assumption);have q153:x29_2 < (yc_.length:Int):=of_decide_eq_true (by first|(with_reducible assumption)|assumption);obtain ⟨ad153,e153,hx153_0⟩:=Kd.at_int HR152.out x29_2 p153 q153;obtain rfl:ad150=ad153:=(by injection e153);replace hx153_0:=(HB.out.cell (World.block_lt_of_cell? w _ hx153_0)).trans hx153_0;replace p153:=eq_true p153;replace q153:=eq_true q153;have hcz20_0:wr.cell? ⟨gb149,0,none⟩=some (.slice (some ad151) l0_0.length c0_0):=(qC BK149.out 0).trans rfl;have hcz20_1:wr.cell? ⟨gb149,1,none⟩=some (.slice A0_1 l0_1.length c0_1):=(qC BK149.out 1).trans rfl;have hfz20_0:=qF BK149.out 0;have hfz20_1:=qF BK149.out 1;have p154:0≤((rd l1 x13_1):Int):=of_decide_eq_true (by first|(with_reducible assumption)|assumption);have q154:(rd l1 x13_1) < (l0_1.length:Int):=of_decide_eq_true (by first|(with_reducible assumption)|assumption);obtain ⟨ad154,A154_0,c154_0,e154,hx154_0,hl154_0,hi154_0⟩:=at_L1 HR0_1.out (rd l1 x13_1) p154 q154;cases e154
                  replace hx154_0:=(HB.out.cell (World.block_lt_of_cell? w _ hx154_0)).trans hx154_0;have HR154_0:=qK hi154_0;have HC154_0:=qK hl154_0;clear hi154_0 hl154_0;replace p154:=eq_true p154;replace q154:=eq_true q154;have p155:0≤((rd yc_ x29_2):Int):=of_decide_eq_true (by first|(with_reducible assumption)|assumption);have q155:(rd yc_ x29_2) < ((rd_L1 l0_1 (rd l1 x13_1)).length:Int):=of_decide_eq_true (by first|(with_reducible assumption)|assumption);obtain ⟨ad155,e155,hx155_0⟩:=Kd.at_int HR154_0.out (rd yc_ x29_2) p155 q155;cases e155
                  replace hx155_0:=(HB.out.cell (World.block_lt_of_cell? w _ hx155_0)).trans hx155_0;replace p155:=eq_true p155;replace q155:=eq_true q155;go_wp2
                  go_roundg k2
                  case measure=>have:=HK1.out;have:=HK2.out;omega
                  case rel=>exact ⟨(wrap64 (x6_2 * (rd (rd_L1 l0_1 (rd l1 x13_1)) (rd yc_ x29_2)))),(wrap64 (x29_2 + 1)),(by first|rfl|(simp;done)|(simp [*];done)),(by first|rfl|(simp;done)|(simp [*];done)),H',⟨by have:=HK1.out;have:=HK2.out;omega⟩,⟨by (with_reducible repeat (first|refine qN ?_ _|refine qW ?_|refine qL ?_ _));exact BK149.out⟩,⟨by repeat (first|(with_reducible first|exact HB.out|apply qA|apply qD|apply qO|refine qS ?_ GE149.out)|exact HB.out)⟩⟩
                 ·rw [if_neg c19] at H;exact absurd H (by simp)
                ·rw [if_neg c18] at H;exact absurd H (by simp)
               ·rw [if_neg c17] at H;exact absurd H (by simp)
              ·rw [if_neg c16] at H;exact absurd H (by simp)
             ·rw [if_neg c15] at H;exact absurd H (by simp)
            ·rw [if_neg c14] at H;exact absurd H (by simp)
           ·rw [if_neg c13] at H;have c13b0:decide (x29_2 < (yc_.length:Int))=false:=decide_eq_false c13;clear c13;have H':=qK H;clear H;go_wp2
            go_roundg k2
            case measure=>have:=HK1.out;have:=HK2.out;omega
            case rel=>exact ⟨((wrap64 (x5_1 * (rd l0_0 (rd l1 x13_1))))),(x6_2),(wrap64 (x13_1 + 1)),(by first|rfl|(simp;done)|(simp [*];done)),(by first|rfl|(simp;done)|(simp [*];done)),(by first|rfl|(simp;done)|(simp [*];done)),H',⟨by have:=HK1.out;have:=HK2.out;omega⟩,⟨by (with_reducible repeat (first|refine qN ?_ _|refine qW ?_|refine qL ?_ _));exact BK149.out⟩,⟨by repeat (first|(with_reducible first|exact HB.out|apply qA|apply qD|apply qO|refine qS ?_ GE149.out)|exact HB.out)⟩⟩
        ·rw [if_neg c10] at H;exact absurd H (by simp)
       ·rw [if_neg c8] at H;exact absurd H (by simp)
      ·rw [if_neg c7] at H;exact absurd H (by simp)
     ·rw [if_neg c6] at H;exact absurd H (by simp)
    ·rw [if_neg c5] at H;exact absurd H (by simp)
   ·rw [if_neg c4] at H;have c4b0:decide (x13_1 < (l1.length:Int))=false:=decide_eq_false c4;clear c4;by_cases c21:x6_1=0
    ·rw [if_pos c21] at H;exact absurd H (by simp)
    ·rw [if_neg c21] at H;have c21b0:(x6_1 == 0)=false:=beq_eq_false_iff_ne.mpr c21;have c21b1:(x6_1 != 0)=true:=bne_iff_ne.mpr c21;obtain rfl:=Option.some.inj H;go_wp2
     go_ret
     exact ⟨by first|rfl|(simp [errW_none,errW_some] <;> rfl)|(simp [*,errW_none,errW_some] <;> rfl),by repeat (first|(with_reducible first|exact HB.out|apply qA|apply qD|apply qO|refine qS ?_ GE149.out)|exact HB.out)⟩

/-! ### spec_l1Has: function 66 -/
def spec_l1Has.l0 : Nat→Int→List Int→Int→Int→Option (Bool)
 | 0,_,_,_,_=>none
 | k + 1,x1,x7,x8,x9=>if x9 < x8 then (if 0≤x9 then (if x9 < (x7.length:Int) then (if (rd x7 x9)=x1 then (some true) else (spec_l1Has.l0 k x1 x7 x8 (wrap64 (x9 + 1)))) else (none)) else (none)) else (some false)
def spec_l1Has.f (k:Nat) (l0:List Int) (a1:Int):Option (Bool):=spec_l1Has.l0 k a1 l0 (l0.length:Int) 0
theorem spec_l1Has.mono_l : ∀ k,(∀ y0 y1 y2 y3,LeO (spec_l1Has.l0 k y0 y1 y2 y3) (spec_l1Has.l0 (k + 1) y0 y1 y2 y3))
 | 0=>fun _ _ _ _ r h=>by simp [spec_l1Has.l0] at h
 | k + 1=>by
  have ih0:=spec_l1Has.mono_l k
  ·intro y0 y1 y2 y3;unfold spec_l1Has.l0
   repeat' first
   | (with_reducible exact ih0 _ _ _ _)
   | (with_reducible exact LeO.refl _)
   | (with_reducible exact LeO.none _)
   | (with_reducible refine LeO.ite ?_ ?_)
   | (with_reducible refine LeO.bind ?_ (fun _=>?_))
   | exact ih0 _ _ _ _
   | exact LeO.none _
   | refine LeO.ite ?_ ?_
   | refine LeO.bind ?_ (fun _=>?_)
theorem spec_l1Has.mono : ∀ a0 a1 k,LeO (spec_l1Has.f k a0 a1) (spec_l1Has.f (k + 1) a0 a1):=by
 intro a0 a1 k;have ih0:=spec_l1Has.mono_l k;unfold spec_l1Has.f
 repeat' first
   | (with_reducible exact ih0 _ _ _ _)
   | (with_reducible exact LeO.refl _)
   | (with_reducible exact LeO.none _)
   | (with_reducible refine LeO.ite ?_ ?_)
   | (with_reducible refine LeO.bind ?_ (fun _=>?_))
   | exact ih0 _ _ _ _
   | exact LeO.none _
   | refine LeO.ite ?_ ?_
   | refine LeO.bind ?_ (fun _=>?_)
set_option maxHeartbeats 8000000 in
set_option maxRecDepth 100000 in
theorem spec_l1Has.calls (k:Nat) (A0:Option Addr) (c0:Nat) (l0:List Int) (a1:Int) (r:Bool) (w:World) (hr0:Kd.C (Kd.int .i64) w A0 l0.length l0) (hc0:l0.length≤c0) (h:spec_l1Has.f k l0 a1=some r) :
  Calls Try.prog 66 #[.slice A0 l0.length c0,.int .i64 a1] w fun e w'=>e=.returned (.bool r)∧Drawn0 w w':=by
 have HR0:=qK hr0;have HC0:=qK hc0;clear hr0 hc0;have H:(spec_l1Has.l0 k a1 l0 (l0.length:Int) 0)=some r:=h;clear h;have H':=qK H;clear H;go_enter Try.func66,Try.ntmps66
 go_wp2
 go_loopg [9] k (fun kq v9 w'=>∃ (x9_1:Int),v9=.int .i64 x9_1∧Aside0 (spec_l1Has.l0 kq a1 l0 (l0.length:Int) x9_1=some r)∧Aside0 (kq≤k)∧Drawn0 w w')
 case atStart=>exact ⟨(0),(by first|rfl|(simp;done)|(simp [*];done)),H',⟨Nat.le_refl _⟩,by repeat (first|exact Drawn0.refl _|apply Drawn0.step)⟩
 case round =>
  clear H';try clear p2
  obtain ⟨x9_1,rfl,HA,HK1,⟨m1,rfl⟩⟩:=hrel;cases gk with
  | zero=>exact absurd HA.out (by simp [spec_l1Has.l0])
  | succ k1 =>
   have H:=HA.out;clear HA;simp only [spec_l1Has.l0] at H;by_cases c3:x9_1 < (l0.length:Int)
   ·rw [if_pos c3] at H;have c3b0:decide (x9_1 < (l0.length:Int))=true:=decide_eq_true c3;clear c3;by_cases c4:0≤x9_1
    ·rw [if_pos c4] at H;have c4b0:decide (0≤x9_1)=true:=decide_eq_true c4;clear c4;by_cases c5:x9_1 < (l0.length:Int)
     ·rw [if_pos c5] at H;have c5b0:decide (x9_1 < (l0.length:Int))=true:=decide_eq_true c5;clear c5;by_cases c6:(rd l0 x9_1)=a1
      ·rw [if_pos c6] at H;have c6b0:((rd l0 x9_1) == a1)=true:=beq_iff_eq.mpr c6;have c6b1:((rd l0 x9_1) != a1)=false:=bne_eq_false_iff_eq.mpr c6;clear c6;obtain rfl:=Option.some.inj H;have p156:0≤(x9_1:Int):=of_decide_eq_true (by first|(with_reducible assumption)|assumption);have q156:x9_1 < (l0.length:Int):=of_decide_eq_true (by first|(with_reducible assumption)|assumption);obtain ⟨ad156,e156,hx156_0⟩:=Kd.at_int HR0.out x9_1 p156 q156;cases e156
       replace p156:=eq_true p156;replace q156:=eq_true q156;go_wp2
       go_ret
       exact ⟨by first|rfl|(simp;done)|(simp [*];done),by repeat (first|exact Drawn0.refl _|apply Drawn0.step)⟩
      ·rw [if_neg c6] at H;have c6b0:((rd l0 x9_1) == a1)=false:=beq_eq_false_iff_ne.mpr c6;have c6b1:((rd l0 x9_1) != a1)=true:=bne_iff_ne.mpr c6;have H':=qK H;clear H;have p156:0≤(x9_1:Int):=of_decide_eq_true (by first|(with_reducible assumption)|assumption);have q156:x9_1 < (l0.length:Int):=of_decide_eq_true (by first|(with_reducible assumption)|assumption);obtain ⟨ad156,e156,hx156_0⟩:=Kd.at_int HR0.out x9_1 p156 q156;cases e156
       replace p156:=eq_true p156;replace q156:=eq_true q156;go_wp2
       go_roundg k1
       case measure=>have:=HK1.out;omega
       case rel=>exact ⟨(wrap64 (x9_1 + 1)),(by first|rfl|(simp;done)|(simp [*];done)),H',⟨by have:=HK1.out;omega⟩,by repeat (first|exact Drawn0.refl _|apply Drawn0.step)⟩
     ·rw [if_neg c5] at H;exact absurd H (by simp)
    ·rw [if_neg c4] at H;exact absurd H (by simp)
   ·rw [if_neg c3] at H;have c3b0:decide (x9_1 < (l0.length:Int))=false:=decide_eq_false c3;clear c3;obtain rfl:=Option.some.inj H;go_wp2
    go_ret
    exact ⟨by first|rfl|(simp;done)|(simp [*];done),by repeat (first|exact Drawn0.refl _|apply Drawn0.step)⟩

/-! ### spec_l7Put: function 55 -/
def spec_l7Put.l0 : Nat→List Int→Int→Int→Option (List Int)
 | 0,_,_,_=>none
 | k + 1,x0,x1,x5=>if x5 < (x0.length:Int) then (if 0≤x5 then (if (rd x0 x5) < x1 then (spec_l7Put.l0 k x0 x1 (wrap64 (x5 + 1))) else (if x5≤(x0.length:Int) then ((some (x0.take (x5:Int).toNat:List Int)).bind fun y159=>(if ([]:List Int).length + y159.length < 17592186044416 then ((some (([]:List Int) ++ y159:List Int)).bind fun y164=>(if y164.length < 17592186044416 then ((some (y164 ++ [x1]:List Int)).bind fun y167=>((some (x0.drop (x5:Int).toNat:List Int)).bind fun y170=>(if y167.length + y170.length < 17592186044416 then (some (y167 ++ y170)) else (none)))) else (none))) else (none))) else (none))) else (none)) else (if 0≤x5 then (if x5≤(x0.length:Int) then ((some (x0.take (x5:Int).toNat:List Int)).bind fun y178=>(if ([]:List Int).length + y178.length < 17592186044416 then ((some (([]:List Int) ++ y178:List Int)).bind fun y183=>(if y183.length < 17592186044416 then ((some (y183 ++ [x1]:List Int)).bind fun y186=>((some (x0.drop (x5:Int).toNat:List Int)).bind fun y189=>(if y186.length + y189.length < 17592186044416 then (some (y186 ++ y189)) else (none)))) else (none))) else (none))) else (none)) else (none))
def spec_l7Put.f (k:Nat) (l0:List Int) (a1:Int):Option (List Int):=(spec_l1Has.f k l0 a1).bind fun t157=>(if t157=true then (some l0) else (spec_l7Put.l0 k l0 a1 0))
theorem spec_l7Put.mono_l : ∀ k,(∀ y0 y1 y2,LeO (spec_l7Put.l0 k y0 y1 y2) (spec_l7Put.l0 (k + 1) y0 y1 y2))
 | 0=>fun _ _ _ r h=>by simp [spec_l7Put.l0] at h
 | k + 1=>by
  have ih0:=spec_l7Put.mono_l k
  ·intro y0 y1 y2;unfold spec_l7Put.l0
   repeat' first
   | (with_reducible exact ih0 _ _ _)
   | (with_reducible exact spec_l1Has.mono _ _ _)
   | (with_reducible exact LeO.refl _)
   | (with_reducible exact LeO.none _)
   | (with_reducible refine LeO.ite ?_ ?_)
   | (with_reducible refine LeO.bind ?_ (fun _=>?_))
   | exact ih0 _ _ _
   | exact spec_l1Has.mono _ _ _
   | exact LeO.none _
   | refine LeO.ite ?_ ?_
   | refine LeO.bind ?_ (fun _=>?_)
theorem spec_l7Put.mono : ∀ a0 a1 k,LeO (spec_l7Put.f k a0 a1) (spec_l7Put.f (k + 1) a0 a1):=by
 intro a0 a1 k;have ih0:=spec_l7Put.mono_l k;unfold spec_l7Put.f
 repeat' first
   | (with_reducible exact ih0 _ _ _)
   | (with_reducible exact spec_l1Has.mono _ _ _)
   | (with_reducible exact LeO.refl _)
   | (with_reducible exact LeO.none _)
   | (with_reducible refine LeO.ite ?_ ?_)
   | (with_reducible refine LeO.bind ?_ (fun _=>?_))
   | exact ih0 _ _ _
   | exact spec_l1Has.mono _ _ _
   | exact LeO.none _
   | refine LeO.ite ?_ ?_
   | refine LeO.bind ?_ (fun _=>?_)
set_option maxHeartbeats 8000000 in
set_option maxRecDepth 100000 in
theorem spec_l7Put.calls (k:Nat) (P0_:Nat→Prop) (A0:Option Addr) (c0:Nat) (l0:List Int) (a1:Int) (r:List Int) (w:World) (hs0:Kd.V (Kd.int .i64) 3 w w.heap.size (fun k_=>P0_ k_) (.slice A0 l0.length c0) l0) (h:spec_l7Put.f k l0 a1=some r) :
  Calls Try.prog 55 #[.slice A0 l0.length c0,.int .i64 a1] w fun e w'=>∃ v0_:Value,e=.returned (v0_)∧Kd.V (Kd.int .i64) 3 w' w.heap.size (fun k_=>(P0_ k_ ∨ w.heap.size≤k_)) v0_ r∧Below w.heap.size w w':=by
 have HO0:=qK (show Kd.V (Kd.int .i64) 3 w w.heap.size (fun k_=>(P0_ k_ ∨ w.heap.size≤k_)) (.slice A0 l0.length c0) l0 from Kd.V_mono hs0 (fun k_ hk=>.inl hk));have HB:=qK (Below.refl w.heap.size w);have H:((spec_l1Has.f k l0 a1).bind fun t157=>(if t157=true then (some l0) else (spec_l7Put.l0 k l0 a1 0)))=some r:=h;clear h;replace H:=Option.bind_eq_some_iff.mp H;obtain ⟨t157,A30,H⟩:=H;replace H:(if t157=true then (some l0) else (spec_l7Put.l0 k l0 a1 0))=some r:=H;have A3:=qK A30;clear A30;by_cases c4:t157=true
 ·subst c4;have H1:(some l0)=some r:=by rw [if_pos rfl] at H;exact H
  clear H;have H:=H1;clear H1;obtain rfl:=Option.some.inj H;go_enter Try.func55,Try.ntmps55
  go_wp2_with (first|((with_reducible refine gate_callee (f:=66) rfl ?_);refine goesL_ (some 9) rfl rfl Try.func66 (by kernel_rfl) rfl #[.slice A0 l0.length c0,.int .i64 a1] rfl (by (try simp only [mT,mC,mN]);first|done|rfl|(simp only [lD,lT];rfl)) ?_;(with_reducible refine (spec_l1Has.calls k _ _ l0 a1 true _ ?side1 ?side2 A3.out).mono ?_);(case side1=>repeat (first|exact (Kd.V_reads' HO0.out).2.2|(with_reducible first|refine cL ?_ _|refine cN ?_ _|refine cW ?_)));(case side2=>exact (Kd.V_reads' HO0.out).2.1);rintro e w' ⟨rfl,⟨nd,rfl⟩⟩;refine ⟨_,rfl,?_⟩))
  go_ret
  exact ⟨_,by first|rfl|(simp [errW_none,errW_some] <;> rfl)|(simp [*,errW_none,errW_some] <;> rfl),by (with_reducible repeat (first|apply Kd.V_alloc|apply Kd.V_drewN|apply Kd.V_drew));exact HO0.out,by repeat (first|(with_reducible first|exact HB.out|apply qA|apply qD|apply qO)|exact HB.out)⟩
 ·replace c4:=Bool.eq_false_iff.mpr c4;subst c4;have H1:(spec_l7Put.l0 k l0 a1 0)=some r:=by rw [if_neg (show ¬ (false=true) by decide)] at H;exact H
  clear H;have H:=H1;clear H1;have H':=qK H;clear H;go_enter Try.func55,Try.ntmps55
  go_wp2_with (first|((with_reducible refine gate_callee (f:=66) rfl ?_);refine goesL_ (some 9) rfl rfl Try.func66 (by kernel_rfl) rfl #[.slice A0 l0.length c0,.int .i64 a1] rfl (by (try simp only [mT,mC,mN]);first|done|rfl|(simp only [lD,lT];rfl)) ?_;(with_reducible refine (spec_l1Has.calls k _ _ l0 a1 false _ ?side1 ?side2 A3.out).mono ?_);(case side1=>repeat (first|exact (Kd.V_reads' HO0.out).2.2|(with_reducible first|refine cL ?_ _|refine cN ?_ _|refine cW ?_)));(case side2=>exact (Kd.V_reads' HO0.out).2.1);rintro e w' ⟨rfl,⟨nd,rfl⟩⟩;refine ⟨_,rfl,?_⟩))
  go_loopg [5] k (fun kq v5 w'=>∃ (x5_1:Int),v5=.int .i64 x5_1∧Aside0 (spec_l7Put.l0 kq l0 a1 x5_1=some r)∧Aside0 (kq≤k)∧Aside0 (Kd.V (Kd.int .i64) 3 w' w.heap.size (fun k_=>(P0_ k_ ∨ w.heap.size≤k_)) (.slice A0 l0.length c0) l0)∧Aside0 (Below w.heap.size w w'))
  case atStart=>exact ⟨(0),(by first|rfl|(simp;done)|(simp [*];done)),H',⟨Nat.le_refl _⟩,⟨by (with_reducible repeat (first|apply Kd.V_alloc|apply Kd.V_drewN|apply Kd.V_drew));exact HO0.out⟩,⟨by repeat (first|(with_reducible first|exact HB.out|apply qA|apply qD|apply qO)|exact HB.out)⟩⟩
  case round =>
   clear H';try clear p2
   try clear c4
   obtain ⟨x5_1,rfl,HA,HK1,HO_0,HB⟩:=hrel;cases gk with
   | zero=>exact absurd HA.out (by simp [spec_l7Put.l0])
   | succ k1 =>
    have H:=HA.out;clear HA;simp only [spec_l7Put.l0] at H;by_cases c5:x5_1 < (l0.length:Int)
    ·rw [if_pos c5] at H;have c5b0:decide (x5_1 < (l0.length:Int))=true:=decide_eq_true c5;clear c5;by_cases c6:0≤x5_1
     ·rw [if_pos c6] at H;have c6b0:decide (0≤x5_1)=true:=decide_eq_true c6;clear c6;by_cases c7:(rd l0 x5_1) < a1
      ·rw [if_pos c7] at H;have c7b0:decide ((rd l0 x5_1) < a1)=true:=decide_eq_true c7;clear c7;have H':=qK H;clear H;have p158:0≤(x5_1:Int):=of_decide_eq_true (by first|(with_reducible assumption)|assumption);have q158:x5_1 < (l0.length:Int):=of_decide_eq_true (by first|(with_reducible assumption)|assumption);obtain ⟨ad158,e158,hx158_0⟩:=Kd.at_int (Kd.V_reads' HO_0.out).2.2 x5_1 p158 q158;cases e158
       replace p158:=eq_true p158;replace q158:=eq_true q158;go_wp2
       go_roundg k1
       case measure=>have:=HK1.out;omega
       case rel=>exact ⟨(wrap64 (x5_1 + 1)),(by first|rfl|(simp;done)|(simp [*];done)),H',⟨by have:=HK1.out;omega⟩,⟨by (with_reducible repeat (first|apply Kd.V_alloc|apply Kd.V_drewN|apply Kd.V_drew));exact HO_0.out⟩,⟨by repeat (first|(with_reducible first|exact HB.out|apply qA|apply qD|apply qO)|exact HB.out)⟩⟩
      ·rw [if_neg c7] at H;have c7b0:decide ((rd l0 x5_1) < a1)=false:=decide_eq_false c7;clear c7;have c8b0:=eq_true (of_decide_eq_true (by first|(with_reducible assumption)|assumption):0≤x5_1);by_cases c9:x5_1≤(l0.length:Int)
       ·rw [if_pos c9] at H;have c9b0:=eq_true c9;have c9b1:decide (x5_1≤(l0.length:Int))=true:=decide_eq_true c9;clear c9;obtain ⟨y159,hy159⟩:∃ y_:List Int,y_=(l0.take (x5_1:Int).toNat):=⟨_,rfl⟩;replace H:(if ([]:List Int).length + y159.length < 17592186044416 then ((some (([]:List Int) ++ y159:List Int)).bind fun y164=>(if y164.length < 17592186044416 then ((some (y164 ++ [a1]:List Int)).bind fun y167=>((some (l0.drop (x5_1:Int).toNat:List Int)).bind fun y170=>(if y167.length + y170.length < 17592186044416 then (some (y167 ++ y170)) else (none)))) else (none))) else (none))=some r:=by first|(rw [hy159];with_reducible exact H)|(have H2_:=(Option.bind_some _ _).symm.trans H;rw [hy159];with_reducible exact H2_)|(have H2_:=(Option.bind_some _ _).symm.trans H;with_reducible exact H2_)|with_reducible exact H|(rw [hy159];exact H)|exact H
        have Ny159:=qK hy159;clear hy159;by_cases c10:([]:List Int).length + y159.length < 17592186044416
        ·rw [if_pos c10] at H;have LMc10:=qK c10;clear c10;obtain ⟨y164,hy164⟩:∃ y_:List Int,y_=(([]:List Int) ++ y159):=⟨_,rfl⟩;replace H:(if y164.length < 17592186044416 then ((some (y164 ++ [a1]:List Int)).bind fun y167=>((some (l0.drop (x5_1:Int).toNat:List Int)).bind fun y170=>(if y167.length + y170.length < 17592186044416 then (some (y167 ++ y170)) else (none)))) else (none))=some r:=by first|(rw [hy164];with_reducible exact H)|(have H2_:=(Option.bind_some _ _).symm.trans H;rw [hy164];with_reducible exact H2_)|(have H2_:=(Option.bind_some _ _).symm.trans H;with_reducible exact H2_)|with_reducible exact H|(rw [hy164];exact H)|exact H
         have Ny164:=qK hy164;clear hy164;by_cases c11:y164.length < 17592186044416
         ·rw [if_pos c11] at H;have LMc11:=qK c11;clear c11;obtain ⟨y167,hy167⟩:∃ y_:List Int,y_=(y164 ++ [a1]):=⟨_,rfl⟩;replace H:((some (l0.drop (x5_1:Int).toNat:List Int)).bind fun y170=>(if y167.length + y170.length < 17592186044416 then (some (y167 ++ y170)) else (none)))=some r:=by first|(rw [hy167];with_reducible exact H)|(have H2_:=(Option.bind_some _ _).symm.trans H;rw [hy167];with_reducible exact H2_)|(have H2_:=(Option.bind_some _ _).symm.trans H;with_reducible exact H2_)|with_reducible exact H|(rw [hy167];exact H)|exact H
          have Ny167:=qK hy167;clear hy167;have c12b0:=eq_true (of_decide_eq_true (by first|(with_reducible assumption)|assumption):0≤x5_1);have c13b0:=eq_true (of_decide_eq_true (by first|(with_reducible assumption)|assumption):x5_1≤(l0.length:Int));obtain ⟨y170,hy170⟩:∃ y_:List Int,y_=(l0.drop (x5_1:Int).toNat):=⟨_,rfl⟩;replace H:(if y167.length + y170.length < 17592186044416 then (some (y167 ++ y170)) else (none))=some r:=by first|(rw [hy170];with_reducible exact H)|(have H2_:=(Option.bind_some _ _).symm.trans H;rw [hy170];with_reducible exact H2_)|(have H2_:=(Option.bind_some _ _).symm.trans H;with_reducible exact H2_)|with_reducible exact H|(rw [hy170];exact H)|exact H
          have Ny170:=qK hy170;clear hy170;by_cases c14:y167.length + y170.length < 17592186044416
          ·rw [if_pos c14] at H;have LMc14:=qK c14;clear c14;obtain ⟨y175,hy175⟩:∃ y_:List Int,y_=(y167 ++ y170):=⟨_,rfl⟩;replace H:(some y175)=some r:=by first|(rw [hy175];with_reducible exact H)|(have H2_:=(Option.bind_some _ _).symm.trans H;rw [hy175];with_reducible exact H2_)|(have H2_:=(Option.bind_some _ _).symm.trans H;with_reducible exact H2_)|with_reducible exact H|(rw [hy175];exact H)|exact H
           have Ny175:=qK hy175;clear hy175;obtain rfl:=Option.some.inj H;have p158:0≤(x5_1:Int):=of_decide_eq_true (by first|(with_reducible assumption)|assumption);have q158:x5_1 < (l0.length:Int):=of_decide_eq_true (by first|(with_reducible assumption)|assumption);obtain ⟨ad158,e158,hx158_0⟩:=Kd.at_int (Kd.V_reads' HO_0.out).2.2 x5_1 p158 q158;cases e158
           replace p158:=eq_true p158;replace q158:=eq_true q158;have q15:(x5_1:Int)≤((l0.length:Int):Int):=of_decide_eq_true (by first|(with_reducible assumption)|assumption);obtain ⟨i015,hi015,_,hsz15,_⟩:=info_parts info3;have hroom15:l0.length≤c0:=(Kd.V_reads' HO_0.out).2.1;have hC15:Kd.F (Kd.int .i64) _ _ (some ad158) l0.length l0:=(Kd.V_at (base:=w.heap.size) HO_0.out).2.2;have hcut15:=cut_to (P:=Try.prog) 22 3 .i64 Try.underlying22 hi015 (some ad158) l0.length c0 x5_1 (of_decide_eq_true (by first|(with_reducible assumption)|assumption)) q15 hroom15;have hr15:=Kd.F_take (m:=(x5_1:Int).toNat) hC15 (by omega);have hy15:y159.length=(x5_1:Int).toNat:=(by rw [Ny159.out,lT];omega);rw [← Ny159.out] at hr15;rw [← hy15] at hcut15;have HO163:=qK (show Kd.V (Kd.int .i64) 3 _ w.heap.size _ (.slice (some ad158) y159.length c0) y159 from Kd.V_mk (by omega) hr15);have HC163:=qK (show y159.length≤c0 from by omega);clear hr15 hC15 hroom15 hi015 hsz15;have KY15:=qK hy15;clear hy15;replace q15:=eq_true q15;go_wp2_with (first|((with_reducible refine gate_builtin (b:=.append) (xs:=#[.tmp 25,.tmp 28]) rfl ?_);at_builtin;refine Kd.R_append_rows (Kd.int .i64) (w0:=w) w.heap.size rfl (.tmp 25) (.tmp 28) 22 3 (.int .i64 0) 8 rfl Try.underlying22 info3 rfl (by decide) (by omega) (.slice none 0 0) ([]:List Int) y159 _ _ _ (fun k_=>(w.heap.size≤k_)) (fun _=>False) rfl rfl ?aO ?aR (fun _ _ h=>h) (fun _ h=>h.elim) ?aF ?aB ?aS ?aL ?_;(case aR=>repeat (first|exact (Kd.V_reads' HO163.out).2.2|(with_reducible first|refine cL ?_ _|refine cN ?_ _|refine cW ?_)));(case aB=>exact (by repeat (with_reducible first|exact HB.out|apply qA|apply qD|apply qO)));(case aF=>exact (fun k_ hk=>(Nat.le_trans (qZ (by repeat (with_reducible first|exact HB.out|apply qA|apply qD|apply qO))) hk)));(case aO=>exact ((Kd.R_nil _ _ _ _ (fun k_=>(w.heap.size≤k_)))));(case aS=>exact (qZ (by repeat (with_reducible first|exact HB.out|apply qA|apply qD|apply qO))));(case aL=>have:=LMc10.out;omega);intro v165 w16 ho hb hg hat;rw [← Ny164.out] at ho;have n0_:=qK (Kd.V_afterv (Kd.V_apart_nil (by (with_reducible repeat (first|apply Kd.V_alloc|apply Kd.V_drewN|apply Kd.V_drew));exact HO_0.out)) hg hat);have n1_:=qK (Kd.V_afterv (Kd.V_apart_nil (by (with_reducible repeat (first|apply Kd.V_alloc|apply Kd.V_drewN|apply Kd.V_drew));exact HO163.out)) hg hat);have n2_:=qK (hb);have n3_:=qK (ho);clear HO_0;clear HO163;clear HB;have HO_0:=n0_;have HO163:=n1_;have HB:=n2_;have HO166:=n3_;clear n0_ n1_ n2_ n3_;clear ho hb hg hat)|((with_reducible refine gate_builtin (b:=.append) (xs:=#[.tmp 30,.tmp 32]) rfl ?_);at_builtin;refine Kd.R_append (Kd.int .i64) (w0:=w) w.heap.size rfl (.tmp 30) (.tmp 32) 22 3 (.int .i64 0) 8 rfl Try.underlying22 info3 rfl (by decide) (by omega) v165 y164 a1 [.int .i64 a1] (fun k_=>(w.heap.size≤k_)) (fun _=>False) rfl rfl ?aP (fun _ hk=>hk.elim) ?aF ?aO ?aB ?aS ?aL ?_;(case aP=>exact rfl);(case aB=>exact (by repeat (with_reducible first|exact HB.out|apply qA|apply qD|apply qO)));(case aF=>exact (fun k_ hk=>(Nat.le_trans (qZ (by repeat (with_reducible first|exact HB.out|apply qA|apply qD|apply qO))) hk)));(case aO=>exact (by (with_reducible repeat (first|apply rL|apply rN|apply rW));exact HO166.out));(case aS=>exact (qZ (by repeat (with_reducible first|exact HB.out|apply qA|apply qD|apply qO))));(case aL=>have:=LMc11.out;omega);intro v168 w17 ho hb hg hat;rw [← Ny167.out] at ho;have n0_:=qK (Kd.V_afterv (ok:=(fun k_=>(P0_ k_ ∨ w.heap.size≤k_))) (by (with_reducible repeat (first|apply Kd.V_alloc|apply Kd.V_drewN|apply Kd.V_drew));exact HO_0.out) hg hat);have n1_:=qK (Kd.V_afterv (ok:=(fun k_=>(P0_ k_ ∨ w.heap.size≤k_))) (by (with_reducible repeat (first|apply Kd.V_alloc|apply Kd.V_drewN|apply Kd.V_drew));exact HO163.out) hg hat);have n2_:=qK (hb);have n3_:=qK (ho);clear HO_0;clear HO163;clear HB;clear HO166;have HO_0:=n0_;have HO163:=n1_;have HB:=n2_;have HO169:=n3_;clear n0_ n1_ n2_ n3_;clear ho hb hg hat;have q18:(x5_1:Int)≤((l0.length:Int):Int):=of_decide_eq_true (by first|(with_reducible assumption)|assumption);obtain ⟨i018,hi018,_,hsz18,_⟩:=info_parts info3;have hroom18:l0.length≤c0:=(Kd.V_reads' HO_0.out).2.1;have hC18:Kd.F (Kd.int .i64) _ _ (some ad158) l0.length l0:=(Kd.V_at (base:=w.heap.size) HO_0.out).2.2;have q018:(0:Int)≤(x5_1:Int):=of_decide_eq_true (by first|(with_reducible assumption)|assumption);have hcut18:=cut_from (P:=Try.prog) 22 3 .i64 Try.underlying22 hi018 1 hsz18 (some ad158) l0.length c0 x5_1 q018 q18;have hr18:=Kd.F_cut (m:=(x5_1:Int).toNat) (c:=c0) hC18 (by omega) hroom18;obtain ⟨A18,hA18⟩:∃ A1,A1=(if c0=(x5_1:Int).toNat then (some ad158) else ((some ad158):Option Addr).map (·.add ((x5_1:Int).toNat * 1))):=⟨_,rfl⟩;obtain ⟨c18,hc18⟩:∃ c1,c1=c0 - (x5_1:Int).toNat:=⟨_,rfl⟩;have hy18:y170.length=l0.length - (x5_1:Int).toNat:=(by rw [Ny170.out,lD] <;> omega);rw [show (l0).drop (x5_1:Int).toNat=y170 from Ny170.out.symm] at hr18;replace hr18:Kd.F (Kd.int .i64) _ _ A18 y170.length y170:=(by rw [hA18];exact hr18);rw [← hy18,← hA18,← hc18] at hcut18;have HO174:=qK (show Kd.V (Kd.int .i64) 3 _ w.heap.size _ (.slice A18 y170.length c18) y170 from Kd.V_mk (by rw [hy18,hc18];exact Nat.sub_le_sub_right hroom18 _) hr18);have HC174:=qK (show y170.length≤c18 from by rw [hy18,hc18];exact Nat.sub_le_sub_right hroom18 _);clear hr18 hC18 hroom18 hi018 hsz18 hc18;have KY18:=qK hy18;have KA18:=qK hA18;clear hy18 hA18;replace q18:=eq_true q18)|((with_reducible refine gate_builtin (b:=.append) (xs:=#[.tmp 34,.tmp 37]) rfl ?_);at_builtin;refine Kd.R_append_rows (Kd.int .i64) (w0:=w) w.heap.size rfl (.tmp 34) (.tmp 37) 22 3 (.int .i64 0) 8 rfl Try.underlying22 info3 rfl (by decide) (by omega) v168 y167 y170 _ _ _ (fun k_=>(w.heap.size≤k_)) (fun _=>False) rfl rfl ?aO ?aR (fun _ _ h=>h) (fun _ h=>h.elim) ?aF ?aB ?aS ?aL ?_;(case aR=>repeat (first|exact (Kd.V_reads' HO174.out).2.2|(with_reducible first|refine cL ?_ _|refine cN ?_ _|refine cW ?_)));(case aB=>exact (by repeat (with_reducible first|exact HB.out|apply qA|apply qD|apply qO)));(case aF=>exact (fun k_ hk=>(Nat.le_trans (qZ (by repeat (with_reducible first|exact HB.out|apply qA|apply qD|apply qO))) hk)));(case aO=>exact (by (with_reducible repeat (first|apply rL|apply rN|apply rW));exact HO169.out));(case aS=>exact (qZ (by repeat (with_reducible first|exact HB.out|apply qA|apply qD|apply qO))));(case aL=>have:=LMc14.out;omega);intro v176 w19 ho hb hg hat;rw [← Ny175.out] at ho;have n0_:=qK (Kd.V_afterv (ok:=(fun k_=>(P0_ k_ ∨ w.heap.size≤k_))) (by (with_reducible repeat (first|apply Kd.V_alloc|apply Kd.V_drewN|apply Kd.V_drew));exact HO_0.out) hg hat);have n1_:=qK (Kd.V_afterv (ok:=(fun k_=>(P0_ k_ ∨ w.heap.size≤k_))) (by (with_reducible repeat (first|apply Kd.V_alloc|apply Kd.V_drewN|apply Kd.V_drew));exact HO163.out) hg hat);have n2_:=qK (Kd.V_afterv (ok:=(fun k_=>(P0_ k_ ∨ w.heap.size≤k_))) (by (with_reducible repeat (first|apply Kd.V_alloc|apply Kd.V_drewN|apply Kd.V_drew));exact HO174.out) hg hat);have n3_:=qK (hb);have n4_:=qK (ho);clear HO_0;clear HO163;clear HO174;clear HB;clear HO169;have HO_0:=n0_;have HO163:=n1_;have HO174:=n2_;have HB:=n3_;have HO177:=n4_;clear n0_ n1_ n2_ n3_ n4_;clear ho hb hg hat))
           go_ret
           exact ⟨_,by first|rfl|(simp [errW_none,errW_some] <;> rfl)|(simp [*,errW_none,errW_some] <;> rfl),Kd.V_mono (Kd.R_V (by (with_reducible repeat (first|apply rL|apply rN|apply rW));exact HO177.out)) (fun k_ hk=>by first|exact ⟨(.inr (hk.1)),hk.2⟩|exact (.inr (hk))),by repeat (first|(with_reducible first|exact HB.out|apply qA|apply qD|apply qO)|exact HB.out)⟩
          ·rw [if_neg c14] at H;exact absurd H (by simp)
         ·rw [if_neg c11] at H;exact absurd H (by simp)
        ·rw [if_neg c10] at H;exact absurd H (by simp)
       ·rw [if_neg c9] at H;exact absurd H (by simp)
     ·rw [if_neg c6] at H;exact absurd H (by simp)
    ·rw [if_neg c5] at H;have c5b0:decide (x5_1 < (l0.length:Int))=false:=decide_eq_false c5;clear c5;by_cases c20:0≤x5_1
     ·rw [if_pos c20] at H;have c20b0:=eq_true c20;have c20b1:decide (0≤x5_1)=true:=decide_eq_true c20;clear c20;by_cases c21:x5_1≤(l0.length:Int)
      ·rw [if_pos c21] at H;have c21b0:=eq_true c21;have c21b1:decide (x5_1≤(l0.length:Int))=true:=decide_eq_true c21;clear c21;obtain ⟨y178,hy178⟩:∃ y_:List Int,y_=(l0.take (x5_1:Int).toNat):=⟨_,rfl⟩;replace H:(if ([]:List Int).length + y178.length < 17592186044416 then ((some (([]:List Int) ++ y178:List Int)).bind fun y183=>(if y183.length < 17592186044416 then ((some (y183 ++ [a1]:List Int)).bind fun y186=>((some (l0.drop (x5_1:Int).toNat:List Int)).bind fun y189=>(if y186.length + y189.length < 17592186044416 then (some (y186 ++ y189)) else (none)))) else (none))) else (none))=some r:=by first|(rw [hy178];with_reducible exact H)|(have H2_:=(Option.bind_some _ _).symm.trans H;rw [hy178];with_reducible exact H2_)|(have H2_:=(Option.bind_some _ _).symm.trans H;with_reducible exact H2_)|with_reducible exact H|(rw [hy178];exact H)|exact H
       have Ny178:=qK hy178;clear hy178;by_cases c22:([]:List Int).length + y178.length < 17592186044416
       ·rw [if_pos c22] at H;have LMc22:=qK c22;clear c22;obtain ⟨y183,hy183⟩:∃ y_:List Int,y_=(([]:List Int) ++ y178):=⟨_,rfl⟩;replace H:(if y183.length < 17592186044416 then ((some (y183 ++ [a1]:List Int)).bind fun y186=>((some (l0.drop (x5_1:Int).toNat:List Int)).bind fun y189=>(if y186.length + y189.length < 17592186044416 then (some (y186 ++ y189)) else (none)))) else (none))=some r:=by first|(rw [hy183];with_reducible exact H)|(have H2_:=(Option.bind_some _ _).symm.trans H;rw [hy183];with_reducible exact H2_)|(have H2_:=(Option.bind_some _ _).symm.trans H;with_reducible exact H2_)|with_reducible exact H|(rw [hy183];exact H)|exact H
        have Ny183:=qK hy183;clear hy183;by_cases c23:y183.length < 17592186044416
        ·rw [if_pos c23] at H;have LMc23:=qK c23;clear c23;obtain ⟨y186,hy186⟩:∃ y_:List Int,y_=(y183 ++ [a1]):=⟨_,rfl⟩;replace H:((some (l0.drop (x5_1:Int).toNat:List Int)).bind fun y189=>(if y186.length + y189.length < 17592186044416 then (some (y186 ++ y189)) else (none)))=some r:=by first|(rw [hy186];with_reducible exact H)|(have H2_:=(Option.bind_some _ _).symm.trans H;rw [hy186];with_reducible exact H2_)|(have H2_:=(Option.bind_some _ _).symm.trans H;with_reducible exact H2_)|with_reducible exact H|(rw [hy186];exact H)|exact H
         have Ny186:=qK hy186;clear hy186;have c24b0:=eq_true (of_decide_eq_true (by first|(with_reducible assumption)|assumption):0≤x5_1);have c25b0:=eq_true (of_decide_eq_true (by first|(with_reducible assumption)|assumption):x5_1≤(l0.length:Int));obtain ⟨y189,hy189⟩:∃ y_:List Int,y_=(l0.drop (x5_1:Int).toNat):=⟨_,rfl⟩;replace H:(if y186.length + y189.length < 17592186044416 then (some (y186 ++ y189)) else (none))=some r:=by first|(rw [hy189];with_reducible exact H)|(have H2_:=(Option.bind_some _ _).symm.trans H;rw [hy189];with_reducible exact H2_)|(have H2_:=(Option.bind_some _ _).symm.trans H;with_reducible exact H2_)|with_reducible exact H|(rw [hy189];exact H)|exact H
         have Ny189:=qK hy189;clear hy189;by_cases c26:y186.length + y189.length < 17592186044416
         ·rw [if_pos c26] at H;have LMc26:=qK c26;clear c26;obtain ⟨y194,hy194⟩:∃ y_:List Int,y_=(y186 ++ y189):=⟨_,rfl⟩;replace H:(some y194)=some r:=by first|(rw [hy194];with_reducible exact H)|(have H2_:=(Option.bind_some _ _).symm.trans H;rw [hy194];with_reducible exact H2_)|(have H2_:=(Option.bind_some _ _).symm.trans H;with_reducible exact H2_)|with_reducible exact H|(rw [hy194];exact H)|exact H
          have Ny194:=qK hy194;clear hy194;obtain rfl:=Option.some.inj H;have q27:(x5_1:Int)≤((l0.length:Int):Int):=of_decide_eq_true (by first|(with_reducible assumption)|assumption);obtain ⟨i027,hi027,_,hsz27,_⟩:=info_parts info3;have hroom27:l0.length≤c0:=(Kd.V_reads' HO_0.out).2.1;have hC27:Kd.F (Kd.int .i64) _ _ A0 l0.length l0:=(Kd.V_at (base:=w.heap.size) HO_0.out).2.2;have hcut27:=cut_to (P:=Try.prog) 22 3 .i64 Try.underlying22 hi027 A0 l0.length c0 x5_1 (of_decide_eq_true (by first|(with_reducible assumption)|assumption)) q27 hroom27;have hr27:=Kd.F_take (m:=(x5_1:Int).toNat) hC27 (by omega);have hy27:y178.length=(x5_1:Int).toNat:=(by rw [Ny178.out,lT];omega);rw [← Ny178.out] at hr27;rw [← hy27] at hcut27;have HO182:=qK (show Kd.V (Kd.int .i64) 3 _ w.heap.size _ (.slice A0 y178.length c0) y178 from Kd.V_mk (by omega) hr27);have HC182:=qK (show y178.length≤c0 from by omega);clear hr27 hC27 hroom27 hi027 hsz27;have KY27:=qK hy27;clear hy27;replace q27:=eq_true q27;go_wp2_with (first|((with_reducible refine gate_builtin (b:=.append) (xs:=#[.tmp 25,.tmp 28]) rfl ?_);at_builtin;refine Kd.R_append_rows (Kd.int .i64) (w0:=w) w.heap.size rfl (.tmp 25) (.tmp 28) 22 3 (.int .i64 0) 8 rfl Try.underlying22 info3 rfl (by decide) (by omega) (.slice none 0 0) ([]:List Int) y178 _ _ _ (fun k_=>(w.heap.size≤k_)) (fun _=>False) rfl rfl ?aO ?aR (fun _ _ h=>h) (fun _ h=>h.elim) ?aF ?aB ?aS ?aL ?_;(case aR=>repeat (first|exact (Kd.V_reads' HO182.out).2.2|(with_reducible first|refine cL ?_ _|refine cN ?_ _|refine cW ?_)));(case aB=>exact (by repeat (with_reducible first|exact HB.out|apply qA|apply qD|apply qO)));(case aF=>exact (fun k_ hk=>(Nat.le_trans (qZ (by repeat (with_reducible first|exact HB.out|apply qA|apply qD|apply qO))) hk)));(case aO=>exact ((Kd.R_nil _ _ _ _ (fun k_=>(w.heap.size≤k_)))));(case aS=>exact (qZ (by repeat (with_reducible first|exact HB.out|apply qA|apply qD|apply qO))));(case aL=>have:=LMc22.out;omega);intro v184 w28 ho hb hg hat;rw [← Ny183.out] at ho;have n0_:=qK (Kd.V_afterv (Kd.V_apart_nil (by (with_reducible repeat (first|apply Kd.V_alloc|apply Kd.V_drewN|apply Kd.V_drew));exact HO_0.out)) hg hat);have n1_:=qK (Kd.V_afterv (Kd.V_apart_nil (by (with_reducible repeat (first|apply Kd.V_alloc|apply Kd.V_drewN|apply Kd.V_drew));exact HO182.out)) hg hat);have n2_:=qK (hb);have n3_:=qK (ho);clear HO_0;clear HO182;clear HB;have HO_0:=n0_;have HO182:=n1_;have HB:=n2_;have HO185:=n3_;clear n0_ n1_ n2_ n3_;clear ho hb hg hat)|((with_reducible refine gate_builtin (b:=.append) (xs:=#[.tmp 30,.tmp 32]) rfl ?_);at_builtin;refine Kd.R_append (Kd.int .i64) (w0:=w) w.heap.size rfl (.tmp 30) (.tmp 32) 22 3 (.int .i64 0) 8 rfl Try.underlying22 info3 rfl (by decide) (by omega) v184 y183 a1 [.int .i64 a1] (fun k_=>(w.heap.size≤k_)) (fun _=>False) rfl rfl ?aP (fun _ hk=>hk.elim) ?aF ?aO ?aB ?aS ?aL ?_;(case aP=>exact rfl);(case aB=>exact (by repeat (with_reducible first|exact HB.out|apply qA|apply qD|apply qO)));(case aF=>exact (fun k_ hk=>(Nat.le_trans (qZ (by repeat (with_reducible first|exact HB.out|apply qA|apply qD|apply qO))) hk)));(case aO=>exact (by (with_reducible repeat (first|apply rL|apply rN|apply rW));exact HO185.out));(case aS=>exact (qZ (by repeat (with_reducible first|exact HB.out|apply qA|apply qD|apply qO))));(case aL=>have:=LMc23.out;omega);intro v187 w29 ho hb hg hat;rw [← Ny186.out] at ho;have n0_:=qK (Kd.V_afterv (ok:=(fun k_=>(P0_ k_ ∨ w.heap.size≤k_))) (by (with_reducible repeat (first|apply Kd.V_alloc|apply Kd.V_drewN|apply Kd.V_drew));exact HO_0.out) hg hat);have n1_:=qK (Kd.V_afterv (ok:=(fun k_=>(P0_ k_ ∨ w.heap.size≤k_))) (by (with_reducible repeat (first|apply Kd.V_alloc|apply Kd.V_drewN|apply Kd.V_drew));exact HO182.out) hg hat);have n2_:=qK (hb);have n3_:=qK (ho);clear HO_0;clear HO182;clear HB;clear HO185;have HO_0:=n0_;have HO182:=n1_;have HB:=n2_;have HO188:=n3_;clear n0_ n1_ n2_ n3_;clear ho hb hg hat;have q30:(x5_1:Int)≤((l0.length:Int):Int):=of_decide_eq_true (by first|(with_reducible assumption)|assumption);obtain ⟨i030,hi030,_,hsz30,_⟩:=info_parts info3;have hroom30:l0.length≤c0:=(Kd.V_reads' HO_0.out).2.1;have hC30:Kd.F (Kd.int .i64) _ _ A0 l0.length l0:=(Kd.V_at (base:=w.heap.size) HO_0.out).2.2;have q030:(0:Int)≤(x5_1:Int):=of_decide_eq_true (by first|(with_reducible assumption)|assumption);have hcut30:=cut_from (P:=Try.prog) 22 3 .i64 Try.underlying22 hi030 1 hsz30 A0 l0.length c0 x5_1 q030 q30;have hr30:=Kd.F_cut (m:=(x5_1:Int).toNat) (c:=c0) hC30 (by omega) hroom30;obtain ⟨A30,hA30⟩:∃ A1,A1=(if c0=(x5_1:Int).toNat then A0 else (A0:Option Addr).map (·.add ((x5_1:Int).toNat * 1))):=⟨_,rfl⟩;obtain ⟨c30,hc30⟩:∃ c1,c1=c0 - (x5_1:Int).toNat:=⟨_,rfl⟩;have hy30:y189.length=l0.length - (x5_1:Int).toNat:=(by rw [Ny189.out,lD] <;> omega);rw [show (l0).drop (x5_1:Int).toNat=y189 from Ny189.out.symm] at hr30;replace hr30:Kd.F (Kd.int .i64) _ _ A30 y189.length y189:=(by rw [hA30];exact hr30);rw [← hy30,← hA30,← hc30] at hcut30;have HO193:=qK (show Kd.V (Kd.int .i64) 3 _ w.heap.size _ (.slice A30 y189.length c30) y189 from Kd.V_mk (by rw [hy30,hc30];exact Nat.sub_le_sub_right hroom30 _) hr30);have HC193:=qK (show y189.length≤c30 from by rw [hy30,hc30];exact Nat.sub_le_sub_right hroom30 _);clear hr30 hC30 hroom30 hi030 hsz30 hc30;have KY30:=qK hy30;have KA30:=qK hA30;clear hy30 hA30;replace q30:=eq_true q30)|((with_reducible refine gate_builtin (b:=.append) (xs:=#[.tmp 34,.tmp 37]) rfl ?_);at_builtin;refine Kd.R_append_rows (Kd.int .i64) (w0:=w) w.heap.size rfl (.tmp 34) (.tmp 37) 22 3 (.int .i64 0) 8 rfl Try.underlying22 info3 rfl (by decide) (by omega) v187 y186 y189 _ _ _ (fun k_=>(w.heap.size≤k_)) (fun _=>False) rfl rfl ?aO ?aR (fun _ _ h=>h) (fun _ h=>h.elim) ?aF ?aB ?aS ?aL ?_;(case aR=>repeat (first|exact (Kd.V_reads' HO193.out).2.2|(with_reducible first|refine cL ?_ _|refine cN ?_ _|refine cW ?_)));(case aB=>exact (by repeat (with_reducible first|exact HB.out|apply qA|apply qD|apply qO)));(case aF=>exact (fun k_ hk=>(Nat.le_trans (qZ (by repeat (with_reducible first|exact HB.out|apply qA|apply qD|apply qO))) hk)));(case aO=>exact (by (with_reducible repeat (first|apply rL|apply rN|apply rW));exact HO188.out));(case aS=>exact (qZ (by repeat (with_reducible first|exact HB.out|apply qA|apply qD|apply qO))));(case aL=>have:=LMc26.out;omega);intro v195 w31 ho hb hg hat;rw [← Ny194.out] at ho;have n0_:=qK (Kd.V_afterv (ok:=(fun k_=>(P0_ k_ ∨ w.heap.size≤k_))) (by (with_reducible repeat (first|apply Kd.V_alloc|apply Kd.V_drewN|apply Kd.V_drew));exact HO_0.out) hg hat);have n1_:=qK (Kd.V_afterv (ok:=(fun k_=>(P0_ k_ ∨ w.heap.size≤k_))) (by (with_reducible repeat (first|apply Kd.V_alloc|apply Kd.V_drewN|apply Kd.V_drew));exact HO182.out) hg hat);have n2_:=qK (Kd.V_afterv (ok:=(fun k_=>(P0_ k_ ∨ w.heap.size≤k_))) (by (with_reducible repeat (first|apply Kd.V_alloc|apply Kd.V_drewN|apply Kd.V_drew));exact HO193.out) hg hat);have n3_:=qK (hb);have n4_:=qK (ho);clear HO_0;clear HO182;clear HO193;clear HB;clear HO188;have HO_0:=n0_;have HO182:=n1_;have HO193:=n2_;have HB:=n3_;have HO196:=n4_;clear n0_ n1_ n2_ n3_ n4_;clear ho hb hg hat))
          go_ret
          exact ⟨_,by first|rfl|(simp [errW_none,errW_some] <;> rfl)|(simp [*,errW_none,errW_some] <;> rfl),Kd.V_mono (Kd.R_V (by (with_reducible repeat (first|apply rL|apply rN|apply rW));exact HO196.out)) (fun k_ hk=>by first|exact ⟨(.inr (hk.1)),hk.2⟩|exact (.inr (hk))),by repeat (first|(with_reducible first|exact HB.out|apply qA|apply qD|apply qO)|exact HB.out)⟩
         ·rw [if_neg c26] at H;exact absurd H (by simp)
        ·rw [if_neg c23] at H;exact absurd H (by simp)
       ·rw [if_neg c22] at H;exact absurd H (by simp)
      ·rw [if_neg c21] at H;exact absurd H (by simp)
     ·rw [if_neg c20] at H;exact absurd H (by simp)

/-! ### spec_l12Cost: function 32 -/
def spec_l12Cost.l0 : Nat→Int→List Int→List Int→Int→Int→List Int→List (List Int)→Option (Int)
 | 0,_,_,_,_,_,_,_=>none
 | k + 1,x5,x6,x9,x10,x11,x198000,x198001=>if x11 < x10 then (if 0≤x11 then (if x11 < (x9.length:Int) then ((spec_l7Put.f k x6 (rd x9 x11)).bind fun t199=>(if x11 > 0 then ((spec_l12Size.f k x198000 x198001 t199).bind fun t202=>(spec_l12Cost.l0 k (wrap64 (x5 + t202)) t199 x9 x10 (wrap64 (x11 + 1)) x198000 x198001)) else (spec_l12Cost.l0 k x5 t199 x9 x10 (wrap64 (x11 + 1)) x198000 x198001))) else (none)) else (none)) else (some x5)
def spec_l12Cost.f (k:Nat) (l0_0:List Int) (l0_1:List (List Int)) (l1:List Int):Option (Int):=spec_l12Cost.l0 k 0 ([]:List Int) l1 (l1.length:Int) 0 l0_0 l0_1
theorem spec_l12Cost.mono_l : ∀ k,(∀ y0 y1 y2 y3 y4 y5 y6,LeO (spec_l12Cost.l0 k y0 y1 y2 y3 y4 y5 y6) (spec_l12Cost.l0 (k + 1) y0 y1 y2 y3 y4 y5 y6))
 | 0=>fun _ _ _ _ _ _ _ r h=>by simp [spec_l12Cost.l0] at h
 | k + 1=>by
  have ih0:=spec_l12Cost.mono_l k
  ·intro y0 y1 y2 y3 y4 y5 y6;unfold spec_l12Cost.l0
   repeat' first
   | (with_reducible exact ih0 _ _ _ _ _ _ _)
   | (with_reducible exact spec_l12Size.mono _ _ _ _)
   | (with_reducible exact spec_l7Put.mono _ _ _)
   | (with_reducible exact LeO.refl _)
   | (with_reducible exact LeO.none _)
   | (with_reducible refine LeO.ite ?_ ?_)
   | (with_reducible refine LeO.bind ?_ (fun _=>?_))
   | exact ih0 _ _ _ _ _ _ _
   | exact spec_l12Size.mono _ _ _ _
   | exact spec_l7Put.mono _ _ _
   | exact LeO.none _
   | refine LeO.ite ?_ ?_
   | refine LeO.bind ?_ (fun _=>?_)
theorem spec_l12Cost.mono : ∀ a0 a1 a2 k,LeO (spec_l12Cost.f k a0 a1 a2) (spec_l12Cost.f (k + 1) a0 a1 a2):=by
 intro a0 a1 a2 k;have ih0:=spec_l12Cost.mono_l k;unfold spec_l12Cost.f
 repeat' first
   | (with_reducible exact ih0 _ _ _ _ _ _ _)
   | (with_reducible exact spec_l12Size.mono _ _ _ _)
   | (with_reducible exact spec_l7Put.mono _ _ _)
   | (with_reducible exact LeO.refl _)
   | (with_reducible exact LeO.none _)
   | (with_reducible refine LeO.ite ?_ ?_)
   | (with_reducible refine LeO.bind ?_ (fun _=>?_))
   | exact ih0 _ _ _ _ _ _ _
   | exact spec_l12Size.mono _ _ _ _
   | exact spec_l7Put.mono _ _ _
   | exact LeO.none _
   | refine LeO.ite ?_ ?_
   | refine LeO.bind ?_ (fun _=>?_)
set_option maxHeartbeats 8000000 in
set_option maxRecDepth 100000 in
theorem spec_l12Cost.calls (k:Nat) (A0_0:Option Addr) (c0_0:Nat) (l0_0:List Int) (A0_1:Option Addr) (c0_1:Nat) (l0_1:List (List Int)) (A1:Option Addr) (c1:Nat) (l1:List Int) (r:Int) (w:World) (hr0_0:Kd.C (Kd.int .i64) w A0_0 l0_0.length l0_0) (hc0_0:l0_0.length≤c0_0) (hr0_1:Kd.C (Kd.slice 3 (Kd.int .i64)) w A0_1 l0_1.length l0_1) (hc0_1:l0_1.length≤c0_1) (hr1:Kd.C (Kd.int .i64) w A1 l1.length l1) (hc1:l1.length≤c1) (h:spec_l12Cost.f k l0_0 l0_1 l1=some r) :
  Calls Try.prog 32 #[.agg #[.slice A0_0 l0_0.length c0_0,.slice A0_1 l0_1.length c0_1],.slice A1 l1.length c1] w fun e w'=>e=.returned (.int .i64 r)∧Below w.heap.size w w':=by
 have hu29:=Try.underlying29;have HR0_0:=qK hr0_0;have HC0_0:=qK hc0_0;clear hr0_0 hc0_0;have HR0_1:=qK hr0_1;have HC0_1:=qK hc0_1;clear hr0_1 hc0_1;have HR1:=qK hr1;have HC1:=qK hc1;clear hr1 hc1;have HB:=qK (Below.refl w.heap.size w);have H:(spec_l12Cost.l0 k 0 ([]:List Int) l1 (l1.length:Int) 0 l0_0 l0_1)=some r:=h;clear h;have H':=qK H;clear H;go_enter Try.func32,Try.ntmps32
 go_wp2_with (first|((with_reducible refine gate_dst (N:=2) rfl ?_);refine box_event ?hg (N:=2) ?hd (cs:=#[.slice A0_0 l0_0.length c0_0,.slice A0_1 l0_1.length c0_1]) (t:=29) ?hr ?_;(case hd=>rfl);(case hg=>rfl);(case hr=>(go_simp;try rfl));intro gb197 hg w3 hbox hb;have n0_:=qK (qT (by repeat (with_reducible first|exact HB.out|apply qA|apply qD|apply qO)) hb);have n1_:=qK (hbox);have n2_:=qK ((by rw [hg];exact (qZ (by repeat (with_reducible first|exact HB.out|apply qA|apply qD|apply qO))):w.heap.size≤gb197));have n3_:=qK ((by rw [hg];exact (qZ (by repeat (with_reducible first|exact HB.out|apply qA|apply qD|apply qO))):w.heap.size≤gb197));clear HB;have HB:=n0_;have BK197:=n1_;have GW197:=n2_;have GE197:=n3_;clear n0_ n1_ n2_ n3_;clear hb hbox hg))
 go_loopg [5,6,11] k (fun kq v5 v6 v11 w'=>∃ (x5_1:Int) (x6_1:List Int) (x11_1:Int),v5=.int .i64 x5_1∧v11=.int .i64 x11_1∧Aside0 (spec_l12Cost.l0 kq x5_1 x6_1 l1 (l1.length:Int) x11_1 l0_0 l0_1=some r)∧Aside0 (kq≤k)∧Aside0 (Kd.V (Kd.int .i64) 3 w' w.heap.size (fun k_=>k_ ≠ gb197) v6 x6_1)∧Aside0 (w'.heap[gb197]?=some (.cells #[(.slice A0_0 l0_0.length c0_0),(.slice A0_1 l0_1.length c0_1)] 29 (0,0)))∧Aside0 (Below w.heap.size w w'))
 case atStart=>exact ⟨(0),(([]:List Int)),(0),(by first|rfl|(simp;done)|(simp [*];done)),(by first|rfl|(simp;done)|(simp [*];done)),H',⟨Nat.le_refl _⟩,⟨Kd.R_V (base:=0) (by first|exact Kd.R_nil _ _ _ _ _|exact Kd.N_nil _ _ _ _ _|exact Kd.V_nil _ _ _ _ _|exact Kd.Q_nil _ _ _ _ _|exact Kd.S_nil _ _ _ _ _)⟩,⟨by (with_reducible repeat (first|refine qN ?_ _|refine qW ?_|refine qL ?_ _));exact BK197.out⟩,⟨by repeat (first|(with_reducible first|exact HB.out|apply qA|apply qD|apply qO|refine qS ?_ GE197.out)|exact HB.out)⟩⟩
 case round =>
  clear H';try clear c1
  try clear p2
  try clear c3
  obtain ⟨x5_1,x6_1,x11_1,rfl,rfl,HA,HK1,HO_6,BK197,HB⟩:=hrel;cases gk with
  | zero=>exact absurd HA.out (by simp [spec_l12Cost.l0])
  | succ k1 =>
   have H:=HA.out;clear HA;simp only [spec_l12Cost.l0] at H;by_cases c4:x11_1 < (l1.length:Int)
   ·rw [if_pos c4] at H;have c4b0:decide (x11_1 < (l1.length:Int))=true:=decide_eq_true c4;clear c4;by_cases c5:0≤x11_1
    ·rw [if_pos c5] at H;have c5b0:decide (0≤x11_1)=true:=decide_eq_true c5;clear c5;by_cases c6:x11_1 < (l1.length:Int)
     ·rw [if_pos c6] at H;have c6b0:decide (x11_1 < (l1.length:Int))=true:=decide_eq_true c6;clear c6;replace H:=Option.bind_eq_some_iff.mp H;obtain ⟨t199,A70,H⟩:=H;replace H:(if x11_1 > 0 then ((spec_l12Size.f k1 l0_0 l0_1 t199).bind fun t202=>(spec_l12Cost.l0 k1 (wrap64 (x5_1 + t202)) t199 l1 (l1.length:Int) (wrap64 (x11_1 + 1)) l0_0 l0_1)) else (spec_l12Cost.l0 k1 x5_1 t199 l1 (l1.length:Int) (wrap64 (x11_1 + 1)) l0_0 l0_1))=some r:=H;have A7:=qK A70;clear A70;by_cases c8:x11_1 > 0
      ·rw [if_pos c8] at H;have c8b0:decide (0 < x11_1)=true:=decide_eq_true c8;clear c8;replace H:=Option.bind_eq_some_iff.mp H;obtain ⟨t202,A90,H⟩:=H;replace H:(spec_l12Cost.l0 k1 (wrap64 (x5_1 + t202)) t199 l1 (l1.length:Int) (wrap64 (x11_1 + 1)) l0_0 l0_1)=some r:=H;have A9:=qK A90;clear A90;have H':=qK H;clear H;have p198:0≤(x11_1:Int):=of_decide_eq_true (by first|(with_reducible assumption)|assumption);have q198:x11_1 < (l1.length:Int):=of_decide_eq_true (by first|(with_reducible assumption)|assumption);obtain ⟨ad198,e198,hx198_0⟩:=Kd.at_int HR1.out x11_1 p198 q198;cases e198
       replace hx198_0:=(HB.out.cell (World.block_lt_of_cell? w _ hx198_0)).trans hx198_0;replace p198:=eq_true p198;replace q198:=eq_true q198;obtain ⟨Ao10,co10,eo10⟩:=Kd.V_slice HO_6.out;subst eo10;go_wp2_with (first|((with_reducible refine gate_callee (f:=55) rfl ?_);refine goesL_ (some 18) rfl rfl Try.func55 (by kernel_rfl) rfl #[.slice Ao10 x6_1.length co10,.int .i64 (rd l1 x11_1)] rfl (by (try simp only [mT,mC,mN]);first|done|rfl|(simp only [lD,lT];rfl)) ?_;(with_reducible refine (spec_l7Put.calls k1 (fun k_=>k_ ≠ gb197) _ _ x6_1 (rd l1 x11_1) t199 _ ?side1 A7.out).mono ?_);(case side1=>exact HO_6.out);rintro e w11 ⟨v200,rfl,ho0,hb⟩;refine ⟨_,rfl,?_⟩;have n0_:=qK (Kd.V_below (by (with_reducible repeat (first|apply Kd.V_alloc|apply Kd.V_drewN|apply Kd.V_drew));exact HO_6.out) hb);have n1_:=qK (Kd.V_lower (Kd.V_mono (ok':=fun k_=>k_ ≠ gb197) ho0 (fun k_ hk_=>Or.elim hk_ (fun hs_=>hs_) (fun hn_=>(Kd.freshB (g:=gb197) (o:=_) (by (with_reducible repeat (first|refine qN ?_ _|refine qW ?_|refine qL ?_ _));exact BK197.out) k_ hn_)))) (qZ (by repeat (with_reducible first|exact HB.out|apply qA|apply qD|apply qO|refine qS ?_ GE197.out))));have n2_:=qK (qB (g:=gb197) (o:=_) (by (with_reducible repeat (first|refine qN ?_ _|refine qW ?_|refine qL ?_ _));exact BK197.out) hb);have n3_:=qK (qT (by repeat (with_reducible first|exact HB.out|apply qA|apply qD|apply qO|refine qS ?_ GE197.out)) hb);clear HO_6;clear BK197;clear HB;have HO_6:=n0_;have HO201:=n1_;have BK197:=n2_;have HB:=n3_;clear n0_ n1_ n2_ n3_;(try clear hb);(try clear ho0);have hcz12_0:w11.cell? ⟨gb197,0,none⟩=some (.slice A0_0 l0_0.length c0_0):=(qC BK197.out 0).trans rfl;have hcz12_1:w11.cell? ⟨gb197,1,none⟩=some (.slice A0_1 l0_1.length c0_1):=(qC BK197.out 1).trans rfl;have hfz12_0:=qF BK197.out 0;have hfz12_1:=qF BK197.out 1;obtain ⟨Ao13,co13,eo13⟩:=Kd.V_slice HO201.out;subst eo13)|((with_reducible refine gate_callee (f:=52) rfl ?_);refine goesL_ (some 24) rfl rfl Try.func52 (by kernel_rfl) rfl #[.agg #[.slice A0_0 l0_0.length c0_0,.slice A0_1 l0_1.length c0_1],.slice Ao13 t199.length co13] rfl (by (try simp only [mT,mC,mN]);first|done|rfl|(simp only [lD,lT];rfl)) ?_;(with_reducible refine (spec_l12Size.calls k1 _ _ l0_0 _ _ l0_1 _ _ t199 t202 _ ?side1 ?side2 ?side3 ?side4 ?side5 ?side6 A9.out).mono ?_);(case side1=>repeat (first|exact (cB HR0_0.out HB.out)|(with_reducible first|refine cL ?_ _|refine cN ?_ _|refine cW ?_)));(case side2=>exact HC0_0.out);(case side3=>repeat (first|exact (cB HR0_1.out HB.out)|(with_reducible first|refine cL ?_ _|refine cN ?_ _|refine cW ?_)));(case side4=>exact HC0_1.out);(case side5=>repeat (first|exact (Kd.V_reads' HO201.out).2.2|(with_reducible first|refine cL ?_ _|refine cN ?_ _|refine cW ?_)));(case side6=>exact (Kd.V_reads' HO201.out).2.1);rintro e w14 ⟨rfl,hb⟩;refine ⟨_,rfl,?_⟩;have n0_:=qK (Kd.V_below (by (with_reducible repeat (first|apply Kd.V_alloc|apply Kd.V_drewN|apply Kd.V_drew));exact HO_6.out) hb);have n1_:=qK (Kd.V_below (by (with_reducible repeat (first|apply Kd.V_alloc|apply Kd.V_drewN|apply Kd.V_drew));exact HO201.out) hb);have n2_:=qK (qB (g:=gb197) (o:=_) (by (with_reducible repeat (first|refine qN ?_ _|refine qW ?_|refine qL ?_ _));exact BK197.out) hb);have n3_:=qK (qT (by repeat (with_reducible first|exact HB.out|apply qA|apply qD|apply qO|refine qS ?_ GE197.out)) hb);clear HO_6;clear HO201;clear BK197;clear HB;have HO_6:=n0_;have HO201:=n1_;have BK197:=n2_;have HB:=n3_;clear n0_ n1_ n2_ n3_;(try clear hb)))
       go_roundg k1
       case measure=>have:=HK1.out;omega
       case rel=>exact ⟨(wrap64 (x5_1 + t202)),(t199),(wrap64 (x11_1 + 1)),(by first|rfl|(simp;done)|(simp [*];done)),(by first|rfl|(simp;done)|(simp [*];done)),H',⟨by have:=HK1.out;omega⟩,⟨by (with_reducible repeat (first|apply Kd.V_alloc|apply Kd.V_drewN|apply Kd.V_drew));exact HO201.out⟩,⟨by (with_reducible repeat (first|refine qN ?_ _|refine qW ?_|refine qL ?_ _));exact BK197.out⟩,⟨by repeat (first|(with_reducible first|exact HB.out|apply qA|apply qD|apply qO|refine qS ?_ GE197.out)|exact HB.out)⟩⟩
      ·rw [if_neg c8] at H;have c8b0:decide (0 < x11_1)=false:=decide_eq_false c8;clear c8;have H':=qK H;clear H;have p198:0≤(x11_1:Int):=of_decide_eq_true (by first|(with_reducible assumption)|assumption);have q198:x11_1 < (l1.length:Int):=of_decide_eq_true (by first|(with_reducible assumption)|assumption);obtain ⟨ad198,e198,hx198_0⟩:=Kd.at_int HR1.out x11_1 p198 q198;cases e198
       replace hx198_0:=(HB.out.cell (World.block_lt_of_cell? w _ hx198_0)).trans hx198_0;replace p198:=eq_true p198;replace q198:=eq_true q198;obtain ⟨Ao15,co15,eo15⟩:=Kd.V_slice HO_6.out;subst eo15;go_wp2_with (first|((with_reducible refine gate_callee (f:=55) rfl ?_);refine goesL_ (some 18) rfl rfl Try.func55 (by kernel_rfl) rfl #[.slice Ao15 x6_1.length co15,.int .i64 (rd l1 x11_1)] rfl (by (try simp only [mT,mC,mN]);first|done|rfl|(simp only [lD,lT];rfl)) ?_;(with_reducible refine (spec_l7Put.calls k1 (fun k_=>k_ ≠ gb197) _ _ x6_1 (rd l1 x11_1) t199 _ ?side1 A7.out).mono ?_);(case side1=>exact HO_6.out);rintro e w16 ⟨v200,rfl,ho0,hb⟩;refine ⟨_,rfl,?_⟩;have n0_:=qK (Kd.V_below (by (with_reducible repeat (first|apply Kd.V_alloc|apply Kd.V_drewN|apply Kd.V_drew));exact HO_6.out) hb);have n1_:=qK (Kd.V_lower (Kd.V_mono (ok':=fun k_=>k_ ≠ gb197) ho0 (fun k_ hk_=>Or.elim hk_ (fun hs_=>hs_) (fun hn_=>(Kd.freshB (g:=gb197) (o:=_) (by (with_reducible repeat (first|refine qN ?_ _|refine qW ?_|refine qL ?_ _));exact BK197.out) k_ hn_)))) (qZ (by repeat (with_reducible first|exact HB.out|apply qA|apply qD|apply qO|refine qS ?_ GE197.out))));have n2_:=qK (qB (g:=gb197) (o:=_) (by (with_reducible repeat (first|refine qN ?_ _|refine qW ?_|refine qL ?_ _));exact BK197.out) hb);have n3_:=qK (qT (by repeat (with_reducible first|exact HB.out|apply qA|apply qD|apply qO|refine qS ?_ GE197.out)) hb);clear HO_6;clear BK197;clear HB;have HO_6:=n0_;have HO201:=n1_;have BK197:=n2_;have HB:=n3_;clear n0_ n1_ n2_ n3_;(try clear hb);(try clear ho0)))
       go_roundg k1
       case measure=>have:=HK1.out;omega
       case rel=>exact ⟨(x5_1),(t199),(wrap64 (x11_1 + 1)),(by first|rfl|(simp;done)|(simp [*];done)),(by first|rfl|(simp;done)|(simp [*];done)),H',⟨by have:=HK1.out;omega⟩,⟨by (with_reducible repeat (first|apply Kd.V_alloc|apply Kd.V_drewN|apply Kd.V_drew));exact HO201.out⟩,⟨by (with_reducible repeat (first|refine qN ?_ _|refine qW ?_|refine qL ?_ _));exact BK197.out⟩,⟨by repeat (first|(with_reducible first|exact HB.out|apply qA|apply qD|apply qO|refine qS ?_ GE197.out)|exact HB.out)⟩⟩
     ·rw [if_neg c6] at H;exact absurd H (by simp)
    ·rw [if_neg c5] at H;exact absurd H (by simp)
   ·rw [if_neg c4] at H;have c4b0:decide (x11_1 < (l1.length:Int))=false:=decide_eq_false c4;clear c4;obtain rfl:=Option.some.inj H;go_wp2
    go_ret
    exact ⟨by first|rfl|(simp [errW_none,errW_some] <;> rfl)|(simp [*,errW_none,errW_some] <;> rfl),by repeat (first|(with_reducible first|exact HB.out|apply qA|apply qD|apply qO|refine qS ?_ GE197.out)|exact HB.out)⟩

/-! ### spec_l11Without: function 53 -/
def spec_l11Without.l0 : Nat→Int→List Int→List Int→Int→Int→Option (List Int)
 | 0,_,_,_,_,_=>none
 | k + 1,x1,x5,x8,x9,x10=>if x10 < x9 then (if 0≤x10 then (if x10 < (x8.length:Int) then (if (rd x8 x10)=x1 then (spec_l11Without.l0 k x1 x5 x8 x9 (wrap64 (x10 + 1))) else (if x5.length < 17592186044416 then (spec_l11Without.l0 k x1 (x5 ++ [rd x8 x10]) x8 x9 (wrap64 (x10 + 1))) else (none))) else (none)) else (none)) else (some x5)
def spec_l11Without.f (k:Nat) (l0:List Int) (a1:Int):Option (List Int):=spec_l11Without.l0 k a1 ([]:List Int) l0 (l0.length:Int) 0
theorem spec_l11Without.mono_l : ∀ k,(∀ y0 y1 y2 y3 y4,LeO (spec_l11Without.l0 k y0 y1 y2 y3 y4) (spec_l11Without.l0 (k + 1) y0 y1 y2 y3 y4))
 | 0=>fun _ _ _ _ _ r h=>by simp [spec_l11Without.l0] at h
 | k + 1=>by
  have ih0:=spec_l11Without.mono_l k
  ·intro y0 y1 y2 y3 y4;unfold spec_l11Without.l0
   repeat' first
   | (with_reducible exact ih0 _ _ _ _ _)
   | (with_reducible exact LeO.refl _)
   | (with_reducible exact LeO.none _)
   | (with_reducible refine LeO.ite ?_ ?_)
   | (with_reducible refine LeO.bind ?_ (fun _=>?_))
   | exact ih0 _ _ _ _ _
   | exact LeO.none _
   | refine LeO.ite ?_ ?_
   | refine LeO.bind ?_ (fun _=>?_)
theorem spec_l11Without.mono : ∀ a0 a1 k,LeO (spec_l11Without.f k a0 a1) (spec_l11Without.f (k + 1) a0 a1):=by
 intro a0 a1 k;have ih0:=spec_l11Without.mono_l k;unfold spec_l11Without.f
 repeat' first
   | (with_reducible exact ih0 _ _ _ _ _)
   | (with_reducible exact LeO.refl _)
   | (with_reducible exact LeO.none _)
   | (with_reducible refine LeO.ite ?_ ?_)
   | (with_reducible refine LeO.bind ?_ (fun _=>?_))
   | exact ih0 _ _ _ _ _
   | exact LeO.none _
   | refine LeO.ite ?_ ?_
   | refine LeO.bind ?_ (fun _=>?_)
set_option maxHeartbeats 8000000 in
set_option maxRecDepth 100000 in
theorem spec_l11Without.calls (k:Nat) (A0:Option Addr) (c0:Nat) (l0:List Int) (a1:Int) (r:List Int) (w:World) (hr0:Kd.C (Kd.int .i64) w A0 l0.length l0) (hc0:l0.length≤c0) (h:spec_l11Without.f k l0 a1=some r) :
  Calls Try.prog 53 #[.slice A0 l0.length c0,.int .i64 a1] w fun e w'=>∃ v0_:Value,e=.returned (v0_)∧Kd.R (Kd.int .i64) 3 w' w.heap.size (fun _=>True) v0_ r∧Below w.heap.size w w':=by
 have HR0:=qK hr0;have HC0:=qK hc0;clear hr0 hc0;have HB:=qK (Below.refl w.heap.size w);have H:(spec_l11Without.l0 k a1 ([]:List Int) l0 (l0.length:Int) 0)=some r:=h;clear h;have H':=qK H;clear H;go_enter Try.func53,Try.ntmps53
 go_wp2
 go_loopg [5,10] k (fun kq v5 v10 w'=>∃ (x5_1:List Int) (x10_1:Int),v10=.int .i64 x10_1∧Aside0 (spec_l11Without.l0 kq a1 x5_1 l0 (l0.length:Int) x10_1=some r)∧Aside0 (kq≤k)∧Aside0 (Kd.R (Kd.int .i64) 3 w' w.heap.size (fun _=>True) v5 x5_1)∧Aside0 (Below w.heap.size w w'))
 case atStart=>exact ⟨(([]:List Int)),(0),(by first|rfl|(simp;done)|(simp [*];done)),H',⟨Nat.le_refl _⟩,⟨by first|exact Kd.R_nil _ _ _ _ _|exact Kd.N_nil _ _ _ _ _|exact Kd.V_nil _ _ _ _ _|exact Kd.Q_nil _ _ _ _ _|exact Kd.S_nil _ _ _ _ _⟩,⟨by repeat (first|(with_reducible first|exact HB.out|apply qA|apply qD|apply qO)|exact HB.out)⟩⟩
 case round =>
  clear H';try clear p2
  obtain ⟨x5_1,x10_1,rfl,HA,HK1,HO_5,HB⟩:=hrel;cases gk with
  | zero=>exact absurd HA.out (by simp [spec_l11Without.l0])
  | succ k1 =>
   have H:=HA.out;clear HA;simp only [spec_l11Without.l0] at H;by_cases c3:x10_1 < (l0.length:Int)
   ·rw [if_pos c3] at H;have c3b0:decide (x10_1 < (l0.length:Int))=true:=decide_eq_true c3;clear c3;by_cases c4:0≤x10_1
    ·rw [if_pos c4] at H;have c4b0:decide (0≤x10_1)=true:=decide_eq_true c4;clear c4;by_cases c5:x10_1 < (l0.length:Int)
     ·rw [if_pos c5] at H;have c5b0:decide (x10_1 < (l0.length:Int))=true:=decide_eq_true c5;clear c5;by_cases c6:(rd l0 x10_1)=a1
      ·rw [if_pos c6] at H;have c6b0:((rd l0 x10_1) == a1)=true:=beq_iff_eq.mpr c6;have c6b1:((rd l0 x10_1) != a1)=false:=bne_eq_false_iff_eq.mpr c6;clear c6;have H':=qK H;clear H;have p203:0≤(x10_1:Int):=of_decide_eq_true (by first|(with_reducible assumption)|assumption);have q203:x10_1 < (l0.length:Int):=of_decide_eq_true (by first|(with_reducible assumption)|assumption);obtain ⟨ad203,e203,hx203_0⟩:=Kd.at_int HR0.out x10_1 p203 q203;cases e203
       replace hx203_0:=(HB.out.cell (World.block_lt_of_cell? w _ hx203_0)).trans hx203_0;replace p203:=eq_true p203;replace q203:=eq_true q203;go_wp2
       go_roundg k1
       case measure=>have:=HK1.out;omega
       case rel=>exact ⟨(x5_1),(wrap64 (x10_1 + 1)),(by first|rfl|(simp;done)|(simp [*];done)),H',⟨by have:=HK1.out;omega⟩,⟨by (with_reducible repeat (first|apply rL|apply rN|apply rW));exact HO_5.out⟩,⟨by repeat (first|(with_reducible first|exact HB.out|apply qA|apply qD|apply qO)|exact HB.out)⟩⟩
      ·rw [if_neg c6] at H;have c6b0:((rd l0 x10_1) == a1)=false:=beq_eq_false_iff_ne.mpr c6;have c6b1:((rd l0 x10_1) != a1)=true:=bne_iff_ne.mpr c6;by_cases c7:x5_1.length < 17592186044416
       ·rw [if_pos c7] at H;have LMc7:=qK c7;clear c7;obtain ⟨y204,hy204⟩:∃ y_:List Int,y_=(x5_1 ++ [rd l0 x10_1]):=⟨_,rfl⟩;replace H:(spec_l11Without.l0 k1 a1 y204 l0 (l0.length:Int) (wrap64 (x10_1 + 1)))=some r:=by first|(rw [hy204];with_reducible exact H)|(have H2_:=(Option.bind_some _ _).symm.trans H;rw [hy204];with_reducible exact H2_)|(have H2_:=(Option.bind_some _ _).symm.trans H;with_reducible exact H2_)|with_reducible exact H|(rw [hy204];exact H)|exact H
        have Ny204:=qK hy204;clear hy204;have H':=qK H;clear H;have p203:0≤(x10_1:Int):=of_decide_eq_true (by first|(with_reducible assumption)|assumption);have q203:x10_1 < (l0.length:Int):=of_decide_eq_true (by first|(with_reducible assumption)|assumption);obtain ⟨ad203,e203,hx203_0⟩:=Kd.at_int HR0.out x10_1 p203 q203;cases e203
        replace hx203_0:=(HB.out.cell (World.block_lt_of_cell? w _ hx203_0)).trans hx203_0;replace p203:=eq_true p203;replace q203:=eq_true q203;go_wp2_with (first|((with_reducible refine gate_builtin (b:=.append) (xs:=#[.tmp 17,.tmp 19]) rfl ?_);at_builtin;refine Kd.R_append (Kd.int .i64) (w0:=w) w.heap.size rfl (.tmp 17) (.tmp 19) 22 3 (.int .i64 0) 8 rfl Try.underlying22 info3 rfl (by decide) (by omega) u5 x5_1 (rd l0 x10_1) [.int .i64 (rd l0 x10_1)] (fun _=>True) (fun _=>False) rfl rfl ?aP (fun _ hk=>hk.elim) ?aF ?aO ?aB ?aS ?aL ?_;(case aP=>exact rfl);(case aB=>exact (by repeat (with_reducible first|exact HB.out|apply qA|apply qD|apply qO)));(case aF=>exact (fun _ _=>trivial));(case aO=>exact (by (with_reducible repeat (first|apply rL|apply rN|apply rW));exact HO_5.out));(case aS=>exact (qZ (by repeat (with_reducible first|exact HB.out|apply qA|apply qD|apply qO))));(case aL=>have:=LMc7.out;omega);intro v205 w8 ho hb hg hat;rw [← Ny204.out] at ho;have n0_:=qK (hb);have n1_:=qK (ho);clear HB;clear HO_5;have HB:=n0_;have HO206:=n1_;clear n0_ n1_;clear ho hb hg hat))
        go_roundg k1
        case measure=>have:=HK1.out;omega
        case rel=>exact ⟨(y204),(wrap64 (x10_1 + 1)),(by first|rfl|(simp;done)|(simp [*];done)),H',⟨by have:=HK1.out;omega⟩,⟨by (with_reducible repeat (first|apply rL|apply rN|apply rW));exact HO206.out⟩,⟨by repeat (first|(with_reducible first|exact HB.out|apply qA|apply qD|apply qO)|exact HB.out)⟩⟩
       ·rw [if_neg c7] at H;exact absurd H (by simp)
     ·rw [if_neg c5] at H;exact absurd H (by simp)
    ·rw [if_neg c4] at H;exact absurd H (by simp)
   ·rw [if_neg c3] at H;have c3b0:decide (x10_1 < (l0.length:Int))=false:=decide_eq_false c3;clear c3;obtain rfl:=Option.some.inj H;go_wp2
    go_ret
    exact ⟨_,by first|rfl|(simp [errW_none,errW_some] <;> rfl)|(simp [*,errW_none,errW_some] <;> rfl),by (with_reducible repeat (first|apply rL|apply rN|apply rW));exact HO_5.out,by repeat (first|(with_reducible first|exact HB.out|apply qA|apply qD|apply qO)|exact HB.out)⟩

end Go.Proofs.Ytecebaeifmddnaa.PFnExactBestOrder
