/-
  A text of this claim's own, printed by a program of the session (wip/tools/xprint.py): functions of the program as Lean functions, each with what its call comes to.
-/
import Derived.Test.YtboligpcbndkjaaPFnExactCoreOfx0
import Derived.Test.YtboligpcbndkjaaPFnExactCoreOfx5
namespace Go.Proofs.Ytboligpcbndkjaa.PFnExactCoreOf
open Go.Proofs.YtboligpcbndkjaaW.PrintWords renaming pw_below_drewN → qD, blk_cell → qC, below_drew1 → qO, below_alloc → qA, blk_frozen → qF, below_set → qS, blk_drewN → qN, blk_alloc → qL, blk_drew → qW, below_size → qZ, below_step → qT, blk_below → qB, blk_far → qR, blk_put → qP
open Go.Proofs.YtboligpcbndkjaaW.PrintWords.Aside0 renaming mk → qK
open Bool renaming true → Y, false → Z
open List renaming setIfInBounds_toArray → sIb, set_cons_zero → sZ, set_cons_succ → sS, map_toArray → mT, map_cons → mC, map_nil → mN, length_drop → lD, length_take → lT
open Go.Proofs.YtboligpcbndkjaaW.PrintWords.Kd renaming C_alloc → cL, C_drewN → cN, C_drew → cW, C_below → cB, R_alloc → rL, R_drewN → rN, R_drew → rW, R_below → rB
open Go.RowKit Go.Proofs.YtboligpcbndkjaaW.PrintWords Go.Proofs.YtboligpcbndkjaaW.PrintLast Go.Proofs.YtboligpcbndkjaaW.PrintMore
attribute [local go_sem] max2_int min2_int max_two min_two max_three min_three max_four min_four   -- for this text's walks alone
set_option linter.unusedVariables false
set_option linter.unusedSimpArgs false

/-! ### spec_GoodQuery: function 75 -/
mutual
def spec_GoodQuery.j0 : Nat→List Int→Bool→List Int→List (S97)→Option (Bool)
 | 0,_,_,_,_=>none
 | k + 1,x1,x24,x290000,x290001=>if x24=true then (some false) else (spec_GoodQuery.l0 k x1 x290001 (x290001.length:Int) 0 x290000 x290001)
def spec_GoodQuery.l0 : Nat→List Int→List (S97)→Int→Int→List Int→List (S97)→Option (Bool)
 | 0,_,_,_,_,_,_=>none
 | k + 1,x1,x26,x27,x28,x290000,x290001=>if x28 < x27 then (if 0≤x28 then (if x28 < (x26.length:Int) then (if ((rd_T97 x26 x28).f0) < 0 then (spec_GoodQuery.j2 k x1 x26 x27 x28 true x290000 x290001 ((rd_T97 x26 x28).f0) ((rd_T97 x26 x28).f1)) else (if ((rd_T97 x26 x28).f0) ≥ (x1.length:Int) then (spec_GoodQuery.j2 k x1 x26 x27 x28 true x290000 x290001 ((rd_T97 x26 x28).f0) ((rd_T97 x26 x28).f1)) else (if 0≤((rd_T97 x26 x28).f0) then (if ((rd_T97 x26 x28).f0) < (x1.length:Int) then (spec_GoodQuery.j2 k x1 x26 x27 x28 ((((rd_T97 x26 x28).f1).length:Int) != (rd x1 ((rd_T97 x26 x28).f0))) x290000 x290001 ((rd_T97 x26 x28).f0) ((rd_T97 x26 x28).f1)) else (none)) else (none)))) else (none)) else (none)) else ((spec_l10Vars.f k x290000 x290001).bind fun t292=>((spec_l7All.f k t292 x290000).bind fun t295=>(some t295)))
def spec_GoodQuery.j2 : Nat→List Int→List (S97)→Int→Int→Bool→List Int→List (S97)→Int→List Int→Option (Bool)
 | 0,_,_,_,_,_,_,_,_,_=>none
 | k + 1,x1,x26,x27,x28,x52,x290000,x290001,x298000,x298001=>if x52=true then (some false) else (spec_GoodQuery.l1 k x1 x26 x27 x28 x298001 (x298001.length:Int) 0 x290000 x290001)
def spec_GoodQuery.l1 : Nat→List Int→List (S97)→Int→Int→List Int→Int→Int→List Int→List (S97)→Option (Bool)
 | 0,_,_,_,_,_,_,_,_,_=>none
 | k + 1,x1,x26,x27,x28,x54,x55,x56,x290000,x290001=>if x56 < x55 then (if 0≤x56 then (if x56 < (x54.length:Int) then ((spec_l10Var.f (rd x54 x56)).bind fun t300=>(if t300=true then (spec_GoodQuery.l1 k x1 x26 x27 x28 x54 x55 (wrap64 (x56 + 1)) x290000 x290001) else (some false))) else (none)) else (none)) else (spec_GoodQuery.l0 k x1 x26 x27 (wrap64 (x28 + 1)) x290000 x290001)
end
def spec_GoodQuery.f (k:Nat) (l0_0:List Int) (l0_1:List (S97)) (l1:List Int):Option (Bool):=(spec_l10Tables.f k l1).bind fun t290=>(if t290=true then ((spec_l1In.f (l0_1.length:Int) 1 5).bind fun t291=>(if t291=true then (spec_GoodQuery.j0 k l1 (decide ((l0_0.length:Int) > 6)) l0_0 l0_1) else (spec_GoodQuery.j0 k l1 true l0_0 l0_1))) else (spec_GoodQuery.j0 k l1 true l0_0 l0_1))
theorem spec_GoodQuery.mono_l : ∀ k,(∀ y0 y1 y2 y3,LeO (spec_GoodQuery.j0 k y0 y1 y2 y3) (spec_GoodQuery.j0 (k + 1) y0 y1 y2 y3))∧(∀ y0 y1 y2 y3 y4 y5,LeO (spec_GoodQuery.l0 k y0 y1 y2 y3 y4 y5) (spec_GoodQuery.l0 (k + 1) y0 y1 y2 y3 y4 y5))∧(∀ y0 y1 y2 y3 y4 y5 y6 y7 y8,LeO (spec_GoodQuery.j2 k y0 y1 y2 y3 y4 y5 y6 y7 y8) (spec_GoodQuery.j2 (k + 1) y0 y1 y2 y3 y4 y5 y6 y7 y8))∧(∀ y0 y1 y2 y3 y4 y5 y6 y7 y8,LeO (spec_GoodQuery.l1 k y0 y1 y2 y3 y4 y5 y6 y7 y8) (spec_GoodQuery.l1 (k + 1) y0 y1 y2 y3 y4 y5 y6 y7 y8))
 | 0=>⟨fun _ _ _ _ r h=>by simp [spec_GoodQuery.j0] at h,fun _ _ _ _ _ _ r h=>by simp [spec_GoodQuery.l0] at h,fun _ _ _ _ _ _ _ _ _ r h=>by simp [spec_GoodQuery.j2] at h,fun _ _ _ _ _ _ _ _ _ r h=>by simp [spec_GoodQuery.l1] at h⟩
 | k + 1=>by
  obtain ⟨aa,ab,ac,ad⟩:=spec_GoodQuery.mono_l k;refine ⟨?_,?_,?_,?_⟩
  ·intro y0 y1 y2 y3;unfold spec_GoodQuery.j0
   repeat' first
   | (with_reducible exact aa _ _ _ _)
   | (with_reducible exact ab _ _ _ _ _ _)
   | (with_reducible exact ac _ _ _ _ _ _ _ _ _)
   | (with_reducible exact ad _ _ _ _ _ _ _ _ _)
   | (with_reducible exact spec_l10Tables.mono _ _)
   | (with_reducible exact spec_l10Vars.mono _ _ _)
   | (with_reducible exact spec_l7All.mono _ _ _)
   | (with_reducible exact LeO.refl _)
   | (with_reducible exact LeO.none _)
   | (with_reducible refine LeO.ite ?_ ?_)
   | (with_reducible refine LeO.bind ?_ (fun _=>?_))
   | exact aa _ _ _ _
   | exact ab _ _ _ _ _ _
   | exact ac _ _ _ _ _ _ _ _ _
   | exact ad _ _ _ _ _ _ _ _ _
   | exact spec_l10Tables.mono _ _
   | exact spec_l10Vars.mono _ _ _
   | exact spec_l7All.mono _ _ _
   | exact LeO.none _
   | refine LeO.ite ?_ ?_
   | refine LeO.bind ?_ (fun _=>?_)
  ·intro y0 y1 y2 y3 y4 y5;unfold spec_GoodQuery.l0
   repeat' first
   | (with_reducible exact aa _ _ _ _)
   | (with_reducible exact ab _ _ _ _ _ _)
   | (with_reducible exact ac _ _ _ _ _ _ _ _ _)
   | (with_reducible exact ad _ _ _ _ _ _ _ _ _)
   | (with_reducible exact spec_l10Tables.mono _ _)
   | (with_reducible exact spec_l10Vars.mono _ _ _)
   | (with_reducible exact spec_l7All.mono _ _ _)
   | (with_reducible exact LeO.refl _)
   | (with_reducible exact LeO.none _)
   | (with_reducible refine LeO.ite ?_ ?_)
   | (with_reducible refine LeO.bind ?_ (fun _=>?_))
   | exact aa _ _ _ _
   | exact ab _ _ _ _ _ _
   | exact ac _ _ _ _ _ _ _ _ _
   | exact ad _ _ _ _ _ _ _ _ _
   | exact spec_l10Tables.mono _ _
   | exact spec_l10Vars.mono _ _ _
   | exact spec_l7All.mono _ _ _
   | exact LeO.none _
   | refine LeO.ite ?_ ?_
   | refine LeO.bind ?_ (fun _=>?_)
  ·intro y0 y1 y2 y3 y4 y5 y6 y7 y8;unfold spec_GoodQuery.j2
   repeat' first
   | (with_reducible exact aa _ _ _ _)
   | (with_reducible exact ab _ _ _ _ _ _)
   | (with_reducible exact ac _ _ _ _ _ _ _ _ _)
   | (with_reducible exact ad _ _ _ _ _ _ _ _ _)
   | (with_reducible exact spec_l10Tables.mono _ _)
   | (with_reducible exact spec_l10Vars.mono _ _ _)
   | (with_reducible exact spec_l7All.mono _ _ _)
   | (with_reducible exact LeO.refl _)
   | (with_reducible exact LeO.none _)
   | (with_reducible refine LeO.ite ?_ ?_)
   | (with_reducible refine LeO.bind ?_ (fun _=>?_))
   | exact aa _ _ _ _
   | exact ab _ _ _ _ _ _
   | exact ac _ _ _ _ _ _ _ _ _
   | exact ad _ _ _ _ _ _ _ _ _
   | exact spec_l10Tables.mono _ _
   | exact spec_l10Vars.mono _ _ _
   | exact spec_l7All.mono _ _ _
   | exact LeO.none _
   | refine LeO.ite ?_ ?_
   | refine LeO.bind ?_ (fun _=>?_)
  ·intro y0 y1 y2 y3 y4 y5 y6 y7 y8;unfold spec_GoodQuery.l1
   repeat' first
   | (with_reducible exact aa _ _ _ _)
   | (with_reducible exact ab _ _ _ _ _ _)
   | (with_reducible exact ac _ _ _ _ _ _ _ _ _)
   | (with_reducible exact ad _ _ _ _ _ _ _ _ _)
   | (with_reducible exact spec_l10Tables.mono _ _)
   | (with_reducible exact spec_l10Vars.mono _ _ _)
   | (with_reducible exact spec_l7All.mono _ _ _)
   | (with_reducible exact LeO.refl _)
   | (with_reducible exact LeO.none _)
   | (with_reducible refine LeO.ite ?_ ?_)
   | (with_reducible refine LeO.bind ?_ (fun _=>?_))
   | exact aa _ _ _ _
   | exact ab _ _ _ _ _ _
   | exact ac _ _ _ _ _ _ _ _ _
   | exact ad _ _ _ _ _ _ _ _ _
   | exact spec_l10Tables.mono _ _
   | exact spec_l10Vars.mono _ _ _
   | exact spec_l7All.mono _ _ _
   | exact LeO.none _
   | refine LeO.ite ?_ ?_
   | refine LeO.bind ?_ (fun _=>?_)
theorem spec_GoodQuery.mono : ∀ a0 a1 a2 k,LeO (spec_GoodQuery.f k a0 a1 a2) (spec_GoodQuery.f (k + 1) a0 a1 a2):=by
 intro a0 a1 a2 k;obtain ⟨aa,ab,ac,ad⟩:=spec_GoodQuery.mono_l k;unfold spec_GoodQuery.f
 repeat' first
   | (with_reducible exact aa _ _ _ _)
   | (with_reducible exact ab _ _ _ _ _ _)
   | (with_reducible exact ac _ _ _ _ _ _ _ _ _)
   | (with_reducible exact ad _ _ _ _ _ _ _ _ _)
   | (with_reducible exact spec_l10Tables.mono _ _)
   | (with_reducible exact spec_l10Vars.mono _ _ _)
   | (with_reducible exact spec_l7All.mono _ _ _)
   | (with_reducible exact LeO.refl _)
   | (with_reducible exact LeO.none _)
   | (with_reducible refine LeO.ite ?_ ?_)
   | (with_reducible refine LeO.bind ?_ (fun _=>?_))
   | exact aa _ _ _ _
   | exact ab _ _ _ _ _ _
   | exact ac _ _ _ _ _ _ _ _ _
   | exact ad _ _ _ _ _ _ _ _ _
   | exact spec_l10Tables.mono _ _
   | exact spec_l10Vars.mono _ _ _
   | exact spec_l7All.mono _ _ _
   | exact LeO.none _
   | refine LeO.ite ?_ ?_
   | refine LeO.bind ?_ (fun _=>?_)
def spec_GoodQuery.T6 : Bool × List (List Nat × List Nat):=(true,[([],[]),([0],[0]),([1],[1]),([2],[2]),([3],[3]),([4,3],[3,4]),([3],[3]),([6,3],[3,6]),([5,7,3],[3,5,7]),([3,8],[3,8]),([9,3],[9]),([10],[10]),([11,10],[10,11]),([12,10],[10,12]),([10],[10]),([10],[10]),([15,10],[10,15]),([14,16,10],[10,14,16]),([17,10],[10,17]),([13,18,10],[10,13,18]),([10,19],[10,19])])
def spec_GoodQuery.B6 : List Nat:=[0,1,3,7,15,31,15,79,255,511,1023,2047,4095,8191,2047,2047,34815,116735,247807,524287,1048575]
theorem spec_GoodQuery.tab6 : rtab .any (opsOf Try.f75 6)=spec_GoodQuery.T6:=by kernel_rfl
theorem spec_GoodQuery.bits6 : waitsOk spec_GoodQuery.T6.2 spec_GoodQuery.B6=true:=by kernel_rfl
set_option maxHeartbeats 8000000 in
set_option maxRecDepth 100000 in
theorem spec_GoodQuery.calls (k:Nat) (an:Option Addr) (ao:Nat) (af:List Int) (aD:Option Addr) (ap:Nat) (ab:List (S97)) (A1:Option Addr) (c1:Nat) (l1:List Int) (r:Bool) (w:World) (hr0_0:Kd.C (Kd.int .i64) w an af.length af) (hc0_0:af.length≤ao) (hr0_1:Kd.C k97 w aD ab.length ab) (hc0_1:ab.length≤ap) (hr1:Kd.C (Kd.int .i64) w A1 l1.length l1) (hc1:l1.length≤c1) (h:spec_GoodQuery.f k af ab l1=some r) :
  Calls Try.prog 75 #[.agg #[.slice an af.length ao,.slice aD ab.length ap],.slice A1 l1.length c1] w fun e w'=>e=.returned (.bool r)∧Below w.heap.size w w':=by
 have cl:=Try.underlying32;have cm:=Try.underlying97;have bs:=qK hr0_0;have bt:=qK hc0_0;clear hr0_0 hc0_0;have bu:=qK hr0_1;have bF:=qK hc0_1;clear hr0_1 hc0_1;have bN:=qK hr1;have bQ:=qK hc1;clear hr1 hc1;have HB:=qK (Below.refl w.heap.size w);have H:((spec_l10Tables.f k l1).bind fun bk=>(if bk=true then ((spec_l1In.f (ab.length:Int) 1 5).bind fun aP=>(if aP=true then (spec_GoodQuery.j0 k l1 (decide ((af.length:Int) > 6)) af ab) else (spec_GoodQuery.j0 k l1 true af ab))) else (spec_GoodQuery.j0 k l1 true af ab)))=some r:=h;clear h;have bR:=qK H;clear H;go_enter Try.func75,Try.ntmps75
 go_upto_region 1 with (first|((with_reducible refine gate_dst (N:=2) rfl ?_);(try (refine gate_guard (by rfl) ?_;dsimp only));refine box_event ?hg (N:=2) ?hd (cs:=#[.slice an af.length ao,.slice aD ab.length ap]) (t:=32) ?hr ?_;(case hd=>rfl);(case hg=>rfl);(case hr=>(go_simp;try rfl));intro ai hg w4 hbox hb;have al:=qK (qT HB.out hb);have am:=qK (hbox);have aq:=qK ((by rw [hg];exact (qZ HB.out):w.heap.size≤ai));have bE:=aq;clear HB;have HB:=al;have ac:=am;have bY:=aq;have av:=bE;clear al am aq bE;clear hb hbox hg))
 (try simp only [Act.put,List.setIfInBounds_toArray,List.set_cons_zero,List.set_cons_succ]);go_cut [24] (fun cn wc=>∃ (kq:Nat) (aT:Bool),cn=.bool aT∧Aside0 (spec_GoodQuery.j0 kq l1 aT af ab=some r)∧Aside0 (kq≤k)∧Aside0 (wc.heap[ai]?=some (.cells #[(.slice an af.length ao),(.slice aD ab.length ap)] 32 (0,0)))∧Aside0 (Below w.heap.size w wc))
 case first =>
  have H:=bR.out;clear bR;replace H:=Option.bind_eq_some_iff.mp H;obtain ⟨bk,bZ,H⟩:=H;replace H:(if bk=true then ((spec_l1In.f (ab.length:Int) 1 5).bind fun aP=>(if aP=true then (spec_GoodQuery.j0 k l1 (decide ((af.length:Int) > 6)) af ab) else (spec_GoodQuery.j0 k l1 true af ab))) else (spec_GoodQuery.j0 k l1 true af ab))=some r:=H;have A5:=qK bZ;clear bZ;by_cases c6:bk=true
  ·subst c6;have H1:((spec_l1In.f (ab.length:Int) 1 5).bind fun aP=>(if aP=true then (spec_GoodQuery.j0 k l1 (decide ((af.length:Int) > 6)) af ab) else (spec_GoodQuery.j0 k l1 true af ab)))=some r:=by rw [if_pos rfl] at H;exact H
   clear H;have H:=H1;clear H1;replace H:=Option.bind_eq_some_iff.mp H;obtain ⟨aP,ca,H⟩:=H;replace H:(if aP=true then (spec_GoodQuery.j0 k l1 (decide ((af.length:Int) > 6)) af ab) else (spec_GoodQuery.j0 k l1 true af ab))=some r:=H;have A7:=qK ca;clear ca;by_cases c8:aP=true
   ·subst c8;have H1:(spec_GoodQuery.j0 k l1 (decide ((af.length:Int) > 6)) af ab)=some r:=by rw [if_pos rfl] at H;exact H
    clear H;have H:=H1;clear H1;have H':=qK H;clear H;go_wp2_with (first|((with_reducible refine gate_callee (f:=138) rfl ?_);refine goesL_ (some 10) rfl rfl Try.func138 (by kernel_rfl) rfl #[.slice A1 l1.length c1] rfl (by (try simp only [mT,mC,mN]);first|done|rfl|(simp only [lD,lT];rfl)) ?_;(with_reducible refine (spec_l10Tables.calls k _ _ l1 true _ ?side1 ?side2 A5.out).mono ?_);(case side1=>exact (cB bN.out (by repeat (with_reducible first|exact HB.out|apply qA|apply qD|apply qO|refine qS ?_ av.out))));(case side2=>exact bQ.out);rintro e w' ⟨rfl,⟨nd,rfl⟩⟩;refine ⟨_,rfl,?_⟩;have aG:w4.cell? ⟨ai,0,none⟩=some (.slice an af.length ao):=(qC ac.out 0).trans rfl;have aH:w4.cell? ⟨ai,1,none⟩=some (.slice aD ab.length ap):=(qC ac.out 1).trans rfl;have aI:=qF ac.out 0;have aJ:=qF ac.out 1)|(go_at_call 109;(with_reducible refine (spec_l1In.calls (ab.length:Int) 1 5 true _ A7.out).mono ?_);rintro e w' ⟨rfl,⟨nd,rfl⟩⟩))
    go_meet
    case rel=>exact ⟨_,(decide ((af.length:Int) > 6)),(by rfl),H',⟨by first|omega|exact Nat.le_refl _⟩,⟨ac.out⟩,⟨by repeat (first|(with_reducible first|exact HB.out|apply qA|apply qD|apply qO|refine qS ?_ av.out)|exact HB.out)⟩⟩
   ·replace c8:=Bool.eq_false_iff.mpr c8;subst c8;have H1:(spec_GoodQuery.j0 k l1 true af ab)=some r:=by rw [if_neg (show ¬ (false=true) by decide)] at H;exact H
    clear H;have H:=H1;clear H1;have H':=qK H;clear H;go_wp2_with (first|((with_reducible refine gate_callee (f:=138) rfl ?_);refine goesL_ (some 10) rfl rfl Try.func138 (by kernel_rfl) rfl #[.slice A1 l1.length c1] rfl (by (try simp only [mT,mC,mN]);first|done|rfl|(simp only [lD,lT];rfl)) ?_;(with_reducible refine (spec_l10Tables.calls k _ _ l1 true _ ?side1 ?side2 A5.out).mono ?_);(case side1=>exact (cB bN.out (by repeat (with_reducible first|exact HB.out|apply qA|apply qD|apply qO|refine qS ?_ av.out))));(case side2=>exact bQ.out);rintro e w' ⟨rfl,⟨nd,rfl⟩⟩;refine ⟨_,rfl,?_⟩;have az:w4.cell? ⟨ai,0,none⟩=some (.slice an af.length ao):=(qC ac.out 0).trans rfl;have aA:w4.cell? ⟨ai,1,none⟩=some (.slice aD ab.length ap):=(qC ac.out 1).trans rfl;have aB:=qF ac.out 0;have aC:=qF ac.out 1)|(go_at_call 109;(with_reducible refine (spec_l1In.calls (ab.length:Int) 1 5 false _ A7.out).mono ?_);rintro e w' ⟨rfl,⟨nd,rfl⟩⟩))
    go_meet
    case rel=>exact ⟨_,(true),(by rfl),H',⟨by first|omega|exact Nat.le_refl _⟩,⟨ac.out⟩,⟨by repeat (first|(with_reducible first|exact HB.out|apply qA|apply qD|apply qO|refine qS ?_ av.out)|exact HB.out)⟩⟩
  ·replace c6:=Bool.eq_false_iff.mpr c6;subst c6;have H1:(spec_GoodQuery.j0 k l1 true af ab)=some r:=by rw [if_neg (show ¬ (false=true) by decide)] at H;exact H
   clear H;have H:=H1;clear H1;have H':=qK H;clear H;go_wp2_with (first|((with_reducible refine gate_callee (f:=138) rfl ?_);refine goesL_ (some 10) rfl rfl Try.func138 (by kernel_rfl) rfl #[.slice A1 l1.length c1] rfl (by (try simp only [mT,mC,mN]);first|done|rfl|(simp only [lD,lT];rfl)) ?_;(with_reducible refine (spec_l10Tables.calls k _ _ l1 false _ ?side1 ?side2 A5.out).mono ?_);(case side1=>exact (cB bN.out (by repeat (with_reducible first|exact HB.out|apply qA|apply qD|apply qO|refine qS ?_ av.out))));(case side2=>exact bQ.out);rintro e w' ⟨rfl,⟨nd,rfl⟩⟩;refine ⟨_,rfl,?_⟩))
   go_meet
   case rel=>exact ⟨_,(true),(by rfl),H',⟨by first|omega|exact Nat.le_refl _⟩,⟨ac.out⟩,⟨by repeat (first|(with_reducible first|exact HB.out|apply qA|apply qD|apply qO|refine qS ?_ av.out)|exact HB.out)⟩⟩
 case rest =>
  clear bR;try clear c1
  try clear p2
  try clear c6
  try clear c7
  try clear c8
  try clear az
  try clear aA
  try clear aG
  try clear aH
  try clear aB
  try clear aC
  try clear aI
  try clear aJ
  obtain ⟨kq,aT,rfl,HA,bA,ac,HB⟩:=hcut;cases kq with
  | zero=>exact absurd HA.out (by simp [spec_GoodQuery.j0])
  | succ kj2 =>
   have H:=HA.out;clear HA;simp only [spec_GoodQuery.j0] at H;by_cases c11:aT=true
   ·subst c11;have H1:(some false)=some r:=by rw [if_pos rfl] at H;exact H
    clear H;have H:=H1;clear H1;obtain rfl:=Option.some.inj H;go_wp2
    go_ret
    exact ⟨by rfl,HB.out⟩
   ·replace c11:=Bool.eq_false_iff.mpr c11;subst c11;have H1:(spec_GoodQuery.l0 kj2 l1 ab (ab.length:Int) 0 af ab)=some r:=by rw [if_neg (show ¬ (false=true) by decide)] at H;exact H
    clear H;have H:=H1;clear H1;have H':=qK H;clear H;have aK:wc.cell? ⟨ai,0,none⟩=some (.slice an af.length ao):=(qC ac.out 0).trans rfl;have aL:wc.cell? ⟨ai,1,none⟩=some (.slice aD ab.length ap):=(qC ac.out 1).trans rfl;have aM:=qF ac.out 0;have aN:=qF ac.out 1;go_wp2
    go_loopg [28] kj2 (fun kq co w'=>∃ (aa:Int),co=.int .i64 aa∧Aside0 (spec_GoodQuery.l0 kq l1 ab (ab.length:Int) aa af ab=some r)∧Aside0 (kq≤kj2)∧Aside0 (w'.heap[ai]?=some (.cells #[(.slice an af.length ao),(.slice aD ab.length ap)] 32 (0,0)))∧Aside0 (Below w.heap.size w w'))
    case atStart=>exact ⟨(0),(by rfl),H',⟨Nat.le_refl _⟩,⟨ac.out⟩,⟨HB.out⟩⟩
    case round =>
     clear H';try clear c1
     try clear p2
     try clear c6
     try clear c7
     try clear c8
     try clear c11
     try clear az
     try clear aA
     try clear aK
     try clear aL
     try clear aG
     try clear aH
     try clear aB
     try clear aC
     try clear aM
     try clear aN
     try clear aI
     try clear aJ
     try clear p2
     obtain ⟨aa,rfl,HA,bB,ac,HB⟩:=hrel;cases gk with
     | zero=>exact absurd HA.out (by simp [spec_GoodQuery.l0])
     | succ k2 =>
      have H:=HA.out;clear HA;simp only [spec_GoodQuery.l0] at H;by_cases c13:aa < (ab.length:Int)
      ·rw [if_pos c13] at H;have bd:decide (aa < (ab.length:Int))=true:=decide_eq_true c13;clear c13;by_cases c14:0≤aa
       ·rw [if_pos c14] at H;have bv:decide (0≤aa)=true:=decide_eq_true c14;clear c14;by_cases c15:aa < (ab.length:Int)
        ·rw [if_pos c15] at H;have bw:decide (aa < (ab.length:Int))=true:=decide_eq_true c15;clear c15;have bC:=qK H;clear H;have be:0≤(aa:Int):=of_decide_eq_true (by assumption);have bf:aa < (ab.length:Int):=of_decide_eq_true (by assumption);obtain ⟨ay,ag,ah,bS,aw,ax,aU,aV⟩:=at_T97 bu.out aa be bf;cases bS
         replace aw:=(HB.out.cell (World.block_lt_of_cell? w _ aw)).trans aw;replace ax:=(HB.out.cell (World.block_lt_of_cell? w _ ax)).trans ax;have aW:=qK aV;have bO:=qK aU;clear aV aU;replace be:=eq_true be;replace bf:=eq_true bf;go_upto_region 6 with (first|((with_reducible refine gate_dst (N:=6) rfl ?_);(try (refine gate_guard (by rfl) ?_;dsimp only));refine box_event ?hg (N:=6) ?hd (cs:=#[.int .i64 0,.slice none 0 0]) (t:=97) ?hr ?_;(case hd=>rfl);(case hg=>rfl);(case hr=>(go_simp;try rfl));intro ae hg aX hbox hb;have al:=qK (qB (g:=ai) (o:=_) ac.out hb);have am:=qK (qT HB.out hb);have aq:=qK (hbox);have bE:=qK ((by rw [hg];exact (qZ HB.out):w.heap.size≤ae));have cb:=bE;have bT:=qK ((by rw [hg];exact Nat.ne_of_lt (blk_lt (g:=ai) (o:=_) ac.out):ai ≠ ae));have cc:=qK bT.out.symm;clear ac HB;have ac:=al;have HB:=am;have ad:=aq;have cd:=bE;have aQ:=cb;have ak:=bT;have aF:=cc;clear al am aq bE cb bT cc hb hbox hg;have ce:=aF.out;have cf:=ak.out;have aY:aX.cell? ⟨ae,0,none⟩=some (.int .i64 0):=(qC ad.out 0).trans rfl;have aZ:aX.cell? ⟨ae,1,none⟩=some (.slice none 0 0):=(qC ad.out 1).trans rfl;have ba:=qF ad.out 0;have bb:=qF ad.out 1))
         (try simp only [Act.put,List.setIfInBounds_toArray,List.set_cons_zero,List.set_cons_succ]);go_cut [52] (fun cp wc=>∃ (kq:Nat) (aO:Bool),cp=.bool aO∧Aside0 (spec_GoodQuery.j2 kq l1 ab (ab.length:Int) aa aO af ab ((rd_T97 ab aa).f0) ((rd_T97 ab aa).f1)=some r)∧Aside0 (kq≤k2)∧Aside0 (wc.heap[ai]?=some (.cells #[(.slice an af.length ao),(.slice (some ay) ab.length ap)] 32 (0,0)))∧Aside0 (wc.heap[ae]?=some (.cells #[.int .i64 ((rd_T97 ab aa).f0),(.slice ag ((rd_T97 ab aa).f1).length ah)] 97 (0,0)))∧Aside0 (Below w.heap.size w wc))
         case first =>
          have H:=bC.out;clear bC;by_cases c20:((rd_T97 ab aa).f0) < 0
          ·rw [if_pos c20] at H;have aE:decide (((rd_T97 ab aa).f0) < 0)=true:=decide_eq_true c20;clear c20;(first|rw [aE]|(simp only [i64_w,i32_w];rw [aE])|skip);have H':=qK H;clear H;try go_wp2
           have al:Aside0 (((aX.setCell ⟨ae,0,none⟩ (.int .i64 ((rd_T97 ab aa).f0))).setCell ⟨ae,1,none⟩ (.slice ag ((rd_T97 ab aa).f1).length ah)).heap[ai]?=some (.cells #[.slice an af.length ao,.slice (some ay) ab.length ap] 32 (0,0))):=⟨by (with_reducible repeat (first|refine qN ?_ _|refine qW ?_|refine qL ?_ _));refine qR ?_ ak.out _;(with_reducible repeat (first|refine qN ?_ _|refine qW ?_|refine qL ?_ _));refine qR ?_ ak.out _;(with_reducible repeat (first|refine qN ?_ _|refine qW ?_|refine qL ?_ _));exact ac.out⟩;have am:Aside0 (((aX.setCell ⟨ae,0,none⟩ (.int .i64 ((rd_T97 ab aa).f0))).setCell ⟨ae,1,none⟩ (.slice ag ((rd_T97 ab aa).f1).length ah)).heap[ae]?=some (.cells #[.int .i64 ((rd_T97 ab aa).f0),.slice ag ((rd_T97 ab aa).f1).length ah] 97 (0,0))):=⟨by (with_reducible repeat (first|refine qN ?_ _|refine qW ?_|refine qL ?_ _));refine qP (cs:=#[.int .i64 ((rd_T97 ab aa).f0),.slice none 0 0]) ?_ 1 _ rfl;(with_reducible repeat (first|refine qN ?_ _|refine qW ?_|refine qL ?_ _));refine qP (cs:=#[.int .i64 0,.slice none 0 0]) ?_ 0 _ rfl;(with_reducible repeat (first|refine qN ?_ _|refine qW ?_|refine qL ?_ _));exact ad.out⟩;have aq:Aside0 (Below w.heap.size w ((aX.setCell ⟨ae,0,none⟩ (.int .i64 ((rd_T97 ab aa).f0))).setCell ⟨ae,1,none⟩ (.slice ag ((rd_T97 ab aa).f1).length ah))):=⟨by repeat (first|(with_reducible first|exact HB.out|apply qA|apply qD|apply qO|refine qS ?_ av.out|refine qS ?_ aQ.out)|exact HB.out)⟩;(try clear ac);(try clear ad);(try clear HB);generalize ((aX.setCell ⟨ae,0,none⟩ (.int .i64 ((rd_T97 ab aa).f0))).setCell ⟨ae,1,none⟩ (.slice ag ((rd_T97 ab aa).f1).length ah))=w21 at al am aq ⊢
           have ac:=al;have ad:=am;have HB:=aq;clear al am aq;(try (rw [drewN_self w21];generalize hq_:World.drewN w21 _=w21;have al:Aside0 (w21.heap[ai]?=some (.cells #[.slice an af.length ao,.slice (some ay) ab.length ap] 32 (0,0))):=⟨by rw [← hq_];exact ac.out⟩;have am:Aside0 (w21.heap[ae]?=some (.cells #[.int .i64 ((rd_T97 ab aa).f0),.slice ag ((rd_T97 ab aa).f1).length ah] 97 (0,0))):=⟨by rw [← hq_];exact ad.out⟩;have aq:Aside0 (Below w.heap.size w w21):=⟨by rw [← hq_];exact HB.out⟩;clear ac ad HB hq_;have ac:=al;have ad:=am;have HB:=aq;clear al am aq));have al:=qK (qW ac.out);have am:=qK (qW ad.out);have aq:=qK (qO HB.out);clear ac ad HB;have ac:=al;have ad:=am;have HB:=aq;clear al am aq;refine start_ (n:=21) (S:=fun w'=>w'.cell? ⟨ae,0,none⟩=some (.int .i64 ((rd_T97 ab aa).f0))∧w'.cell? ⟨ae,1,none⟩=some (.slice ag ((rd_T97 ab aa).f1).length ah)) (ds:=[]) #[Z,Z,Z,Z,Z,Z,Z,Z,Z,Z,Z,Z,Z,Z,Z,Z,Z,Z,Z,Z,Z] (by kernel_rfl) rfl rfl ⟨(qC ad.out 0).trans rfl,(qC ad.out 1).trans rfl⟩ (fun hHeld=>?_);refine with_tabW spec_GoodQuery.tab6 spec_GoodQuery.bits6 (fun HT_ HW_=>?_);generalize w21.drew=w22 at ac ad HB hHeld ⊢
           refine pure_ (i:=0) (N:=some 32) (v:=?_) (a':=?_) #[Y,Z,Z,Z,Z,Z,Z,Z,Z,Z,Z,Z,Z,Z,Z,Z,Z,Z,Z,Z,Z] rfl rfl (any_of HT_.out (by kernel_rfl)) (fun _ _ _ h=>h) (Or.inl ⟨by rfl,?_⟩) ?_ ?_;rotate_left
           ·intro w';go_simp;with_reducible rfl
           rotate_left
           ·simp only [Act.put,sIb,sZ,sS,i64_w,i32_w];rfl
           refine take_ (i:=1) (N:=some 33) (v:=?_) (a':=?_) #[Y,Y,Z,Z,Z,Z,Z,Z,Z,Z,Z,Z,Z,Z,Z,Z,Z,Z,Z,Z,Z] rfl rfl (take_ofW HT_.out HW_.out (by kernel_rfl)) (fun _ _ _ h=>h) (Or.inl ⟨by rfl,?_⟩) hHeld ?_ ?_;rotate_left
           ·rintro w' ⟨s0,s1⟩;go_simp;with_reducible rfl
           rotate_left
           ·simp only [Act.put,sIb,sZ,sS,i64_w,i32_w];rfl
           refine pure_ (i:=2) (N:=some 34) (v:=?_) (a':=?_) #[Y,Y,Y,Z,Z,Z,Z,Z,Z,Z,Z,Z,Z,Z,Z,Z,Z,Z,Z,Z,Z] rfl rfl (any_of HT_.out (by kernel_rfl)) (fun _ _ _ h=>h) (Or.inl ⟨by rfl,?_⟩) ?_ ?_;rotate_left
           ·intro w';go_simp;with_reducible rfl
           rotate_left
           ·simp only [Act.put,sIb,sZ,sS,i64_w,i32_w];rfl
           refine pure_ (i:=3) (N:=some 35) (v:=?_) (a':=?_) #[Y,Y,Y,Y,Z,Z,Z,Z,Z,Z,Z,Z,Z,Z,Z,Z,Z,Z,Z,Z,Z] rfl rfl (any_of HT_.out (by kernel_rfl)) (fun _ _ _ h=>h) (Or.inl ⟨by rfl,?_⟩) ?_ ?_;rotate_left
           ·intro w';go_simp;with_reducible rfl
           rotate_left
           ·simp only [Act.put,sIb,sZ,sS,i64_w,i32_w];rfl
           refine pure_ (i:=4) (N:=some 36) (v:=undef) (a':=?_) #[Y,Y,Y,Y,Y,Z,Z,Z,Z,Z,Z,Z,Z,Z,Z,Z,Z,Z,Z,Z,Z] rfl rfl (any_of HT_.out (by kernel_rfl)) (fun _ _ _ h=>h) (Or.inr ⟨by rfl,rfl⟩) ?_ ?_;rotate_left
           ·simp only [Act.put,sIb,sZ,sS,i64_w,i32_w];rfl
           refine pure_ (i:=5) (N:=some 37) (v:=undef) (a':=?_) #[Y,Y,Y,Y,Y,Y,Z,Z,Z,Z,Z,Z,Z,Z,Z,Z,Z,Z,Z,Z,Z] rfl rfl (any_of HT_.out (by kernel_rfl)) (fun _ _ _ h=>h) (Or.inr ⟨by rfl,rfl⟩) ?_ ?_;rotate_left
           ·simp only [Act.put,sIb,sZ,sS,i64_w,i32_w];rfl
           refine pure_ (i:=6) (N:=some 38) (v:=undef) (a':=?_) #[Y,Y,Y,Y,Y,Y,Y,Z,Z,Z,Z,Z,Z,Z,Z,Z,Z,Z,Z,Z,Z] rfl rfl (any_of HT_.out (by kernel_rfl)) (fun _ _ _ h=>h) (Or.inr ⟨by rfl,rfl⟩) ?_ ?_;rotate_left
           ·simp only [Act.put,sIb,sZ,sS,i64_w,i32_w];rfl
           refine pure_ (i:=7) (N:=some 39) (v:=undef) (a':=?_) #[Y,Y,Y,Y,Y,Y,Y,Y,Z,Z,Z,Z,Z,Z,Z,Z,Z,Z,Z,Z,Z] rfl rfl (any_of HT_.out (by kernel_rfl)) (fun _ _ _ h=>h) (Or.inr ⟨by rfl,rfl⟩) ?_ ?_;rotate_left
           ·simp only [Act.put,sIb,sZ,sS,i64_w,i32_w];rfl
           refine pure_ (i:=8) (N:=some 40) (v:=undef) (a':=?_) #[Y,Y,Y,Y,Y,Y,Y,Y,Y,Z,Z,Z,Z,Z,Z,Z,Z,Z,Z,Z,Z] rfl rfl (any_of HT_.out (by kernel_rfl)) (fun _ _ _ h=>h) (Or.inr ⟨by rfl,rfl⟩) ?_ ?_;rotate_left
           ·simp only [Act.put,sIb,sZ,sS,i64_w,i32_w];rfl
           refine pure_ (i:=9) (N:=some 41) (v:=?_) (a':=?_) #[Y,Y,Y,Y,Y,Y,Y,Y,Y,Y,Z,Z,Z,Z,Z,Z,Z,Z,Z,Z,Z] rfl rfl (any_of HT_.out (by kernel_rfl)) (fun _ _ _ h=>h) (Or.inl ⟨by rfl,?_⟩) ?_ ?_;rotate_left
           ·intro w';go_simp;with_reducible rfl
           rotate_left
           ·simp only [Act.put,sIb,sZ,sS,i64_w,i32_w];rfl
           refine pure_ (i:=10) (N:=some 42) (v:=?_) (a':=?_) #[Y,Y,Y,Y,Y,Y,Y,Y,Y,Y,Y,Z,Z,Z,Z,Z,Z,Z,Z,Z,Z] rfl rfl (any_of HT_.out (by kernel_rfl)) (fun _ _ _ h=>h) (Or.inl ⟨by rfl,?_⟩) ?_ ?_;rotate_left
           ·intro w';go_simp;with_reducible rfl
           rotate_left
           ·simp only [Act.put,sIb,sZ,sS,i64_w,i32_w];rfl
           refine pure_ (i:=11) (N:=some 43) (v:=undef) (a':=?_) #[Y,Y,Y,Y,Y,Y,Y,Y,Y,Y,Y,Y,Z,Z,Z,Z,Z,Z,Z,Z,Z] rfl rfl (any_of HT_.out (by kernel_rfl)) (fun _ _ _ h=>h) (Or.inr ⟨by rfl,rfl⟩) ?_ ?_;rotate_left
           ·simp only [Act.put,sIb,sZ,sS,i64_w,i32_w];rfl
           refine pure_ (i:=12) (N:=some 44) (v:=undef) (a':=?_) #[Y,Y,Y,Y,Y,Y,Y,Y,Y,Y,Y,Y,Y,Z,Z,Z,Z,Z,Z,Z,Z] rfl rfl (any_of HT_.out (by kernel_rfl)) (fun _ _ _ h=>h) (Or.inr ⟨by rfl,rfl⟩) ?_ ?_;rotate_left
           ·simp only [Act.put,sIb,sZ,sS,i64_w,i32_w];rfl
           refine pure_ (i:=13) (N:=some 45) (v:=undef) (a':=?_) #[Y,Y,Y,Y,Y,Y,Y,Y,Y,Y,Y,Y,Y,Y,Z,Z,Z,Z,Z,Z,Z] rfl rfl (any_of HT_.out (by kernel_rfl)) (fun _ _ _ h=>h) (Or.inr ⟨by rfl,rfl⟩) ?_ ?_;rotate_left
           ·simp only [Act.put,sIb,sZ,sS,i64_w,i32_w];rfl
           refine pure_ (i:=14) (N:=some 46) (v:=undef) (a':=?_) #[Y,Y,Y,Y,Y,Y,Y,Y,Y,Y,Y,Y,Y,Y,Y,Z,Z,Z,Z,Z,Z] rfl rfl (any_of HT_.out (by kernel_rfl)) (fun _ _ _ h=>h) (Or.inr ⟨by rfl,rfl⟩) ?_ ?_;rotate_left
           ·simp only [Act.put,sIb,sZ,sS,i64_w,i32_w];rfl
           refine pure_ (i:=15) (N:=some 47) (v:=undef) (a':=?_) #[Y,Y,Y,Y,Y,Y,Y,Y,Y,Y,Y,Y,Y,Y,Y,Y,Z,Z,Z,Z,Z] rfl rfl (any_of HT_.out (by kernel_rfl)) (fun _ _ _ h=>h) (Or.inr ⟨by rfl,rfl⟩) ?_ ?_;rotate_left
           ·simp only [Act.put,sIb,sZ,sS,i64_w,i32_w];rfl
           refine pure_ (i:=16) (N:=some 48) (v:=undef) (a':=?_) #[Y,Y,Y,Y,Y,Y,Y,Y,Y,Y,Y,Y,Y,Y,Y,Y,Y,Z,Z,Z,Z] rfl rfl (any_of HT_.out (by kernel_rfl)) (fun _ _ _ h=>h) (Or.inr ⟨by rfl,rfl⟩) ?_ ?_;rotate_left
           ·simp only [Act.put,sIb,sZ,sS,i64_w,i32_w];rfl
           refine pure_ (i:=17) (N:=some 49) (v:=undef) (a':=?_) #[Y,Y,Y,Y,Y,Y,Y,Y,Y,Y,Y,Y,Y,Y,Y,Y,Y,Y,Z,Z,Z] rfl rfl (any_of HT_.out (by kernel_rfl)) (fun _ _ _ h=>h) (Or.inr ⟨by rfl,rfl⟩) ?_ ?_;rotate_left
           ·simp only [Act.put,sIb,sZ,sS,i64_w,i32_w];rfl
           refine pure_ (i:=18) (N:=some 50) (v:=undef) (a':=?_) #[Y,Y,Y,Y,Y,Y,Y,Y,Y,Y,Y,Y,Y,Y,Y,Y,Y,Y,Y,Z,Z] rfl rfl (any_of HT_.out (by kernel_rfl)) (fun _ _ _ h=>h) (Or.inr ⟨by rfl,rfl⟩) ?_ ?_;rotate_left
           ·simp only [Act.put,sIb,sZ,sS,i64_w,i32_w];rfl
           refine pure_ (i:=19) (N:=some 51) (v:=undef) (a':=?_) #[Y,Y,Y,Y,Y,Y,Y,Y,Y,Y,Y,Y,Y,Y,Y,Y,Y,Y,Y,Y,Z] rfl rfl (any_of HT_.out (by kernel_rfl)) (fun _ _ _ h=>h) (Or.inr ⟨by rfl,rfl⟩) ?_ ?_;rotate_left
           ·simp only [Act.put,sIb,sZ,sS,i64_w,i32_w];rfl
           refine pure_ (i:=20) (N:=some 52) (v:=?_) (a':=?_) #[Y,Y,Y,Y,Y,Y,Y,Y,Y,Y,Y,Y,Y,Y,Y,Y,Y,Y,Y,Y,Y] rfl rfl (any_of HT_.out (by kernel_rfl)) (fun _ _ _ h=>h) (Or.inl ⟨by rfl,?_⟩) ?_ ?_;rotate_left
           ·intro w';go_simp;with_reducible rfl
           rotate_left
           ·simp only [Act.put,sIb,sZ,sS,i64_w,i32_w];rfl
           refine done_ (done_of HT_.out (by kernel_rfl)) ?_;try go_wp2
           go_meet
           case rel=>exact ⟨_,(true),(by rfl),H',⟨by have:=bA.out;have:=bB.out;first|omega|exact Nat.le_refl _⟩,⟨ac.out⟩,⟨ad.out⟩,⟨HB.out⟩⟩
          ·rw [if_neg c20] at H;have aE:decide (((rd_T97 ab aa).f0) < 0)=false:=decide_eq_false c20;clear c20;(first|rw [aE]|(simp only [i64_w,i32_w];rw [aE])|skip);by_cases c23:((rd_T97 ab aa).f0) ≥ (l1.length:Int)
           ·rw [if_pos c23] at H;have bg:decide ((l1.length:Int)≤((rd_T97 ab aa).f0))=true:=decide_eq_true c23;clear c23;have H':=qK H;clear H;try go_wp2
            have al:Aside0 (((aX.setCell ⟨ae,0,none⟩ (.int .i64 ((rd_T97 ab aa).f0))).setCell ⟨ae,1,none⟩ (.slice ag ((rd_T97 ab aa).f1).length ah)).heap[ai]?=some (.cells #[.slice an af.length ao,.slice (some ay) ab.length ap] 32 (0,0))):=⟨by (with_reducible repeat (first|refine qN ?_ _|refine qW ?_|refine qL ?_ _));refine qR ?_ ak.out _;(with_reducible repeat (first|refine qN ?_ _|refine qW ?_|refine qL ?_ _));refine qR ?_ ak.out _;(with_reducible repeat (first|refine qN ?_ _|refine qW ?_|refine qL ?_ _));exact ac.out⟩;have am:Aside0 (((aX.setCell ⟨ae,0,none⟩ (.int .i64 ((rd_T97 ab aa).f0))).setCell ⟨ae,1,none⟩ (.slice ag ((rd_T97 ab aa).f1).length ah)).heap[ae]?=some (.cells #[.int .i64 ((rd_T97 ab aa).f0),.slice ag ((rd_T97 ab aa).f1).length ah] 97 (0,0))):=⟨by (with_reducible repeat (first|refine qN ?_ _|refine qW ?_|refine qL ?_ _));refine qP (cs:=#[.int .i64 ((rd_T97 ab aa).f0),.slice none 0 0]) ?_ 1 _ rfl;(with_reducible repeat (first|refine qN ?_ _|refine qW ?_|refine qL ?_ _));refine qP (cs:=#[.int .i64 0,.slice none 0 0]) ?_ 0 _ rfl;(with_reducible repeat (first|refine qN ?_ _|refine qW ?_|refine qL ?_ _));exact ad.out⟩;have aq:Aside0 (Below w.heap.size w ((aX.setCell ⟨ae,0,none⟩ (.int .i64 ((rd_T97 ab aa).f0))).setCell ⟨ae,1,none⟩ (.slice ag ((rd_T97 ab aa).f1).length ah))):=⟨by repeat (first|(with_reducible first|exact HB.out|apply qA|apply qD|apply qO|refine qS ?_ av.out|refine qS ?_ aQ.out)|exact HB.out)⟩;(try clear ac);(try clear ad);(try clear HB);generalize ((aX.setCell ⟨ae,0,none⟩ (.int .i64 ((rd_T97 ab aa).f0))).setCell ⟨ae,1,none⟩ (.slice ag ((rd_T97 ab aa).f1).length ah))=w24 at al am aq ⊢
            have ac:=al;have ad:=am;have HB:=aq;clear al am aq;(try (rw [drewN_self w24];generalize hq_:World.drewN w24 _=w24;have al:Aside0 (w24.heap[ai]?=some (.cells #[.slice an af.length ao,.slice (some ay) ab.length ap] 32 (0,0))):=⟨by rw [← hq_];exact ac.out⟩;have am:Aside0 (w24.heap[ae]?=some (.cells #[.int .i64 ((rd_T97 ab aa).f0),.slice ag ((rd_T97 ab aa).f1).length ah] 97 (0,0))):=⟨by rw [← hq_];exact ad.out⟩;have aq:Aside0 (Below w.heap.size w w24):=⟨by rw [← hq_];exact HB.out⟩;clear ac ad HB hq_;have ac:=al;have ad:=am;have HB:=aq;clear al am aq));have al:=qK (qW ac.out);have am:=qK (qW ad.out);have aq:=qK (qO HB.out);clear ac ad HB;have ac:=al;have ad:=am;have HB:=aq;clear al am aq;refine start_ (n:=21) (S:=fun w'=>w'.cell? ⟨ae,0,none⟩=some (.int .i64 ((rd_T97 ab aa).f0))∧w'.cell? ⟨ae,1,none⟩=some (.slice ag ((rd_T97 ab aa).f1).length ah)) (ds:=[]) #[Z,Z,Z,Z,Z,Z,Z,Z,Z,Z,Z,Z,Z,Z,Z,Z,Z,Z,Z,Z,Z] (by kernel_rfl) rfl rfl ⟨(qC ad.out 0).trans rfl,(qC ad.out 1).trans rfl⟩ (fun hHeld=>?_);refine with_tabW spec_GoodQuery.tab6 spec_GoodQuery.bits6 (fun HT_ HW_=>?_);generalize w24.drew=w25 at ac ad HB hHeld ⊢
            refine pure_ (i:=0) (N:=some 32) (v:=?_) (a':=?_) #[Y,Z,Z,Z,Z,Z,Z,Z,Z,Z,Z,Z,Z,Z,Z,Z,Z,Z,Z,Z,Z] rfl rfl (any_of HT_.out (by kernel_rfl)) (fun _ _ _ h=>h) (Or.inl ⟨by rfl,?_⟩) ?_ ?_;rotate_left
            ·intro w';go_simp;with_reducible rfl
            rotate_left
            ·simp only [Act.put,sIb,sZ,sS,i64_w,i32_w];rfl
            refine take_ (i:=1) (N:=some 33) (v:=?_) (a':=?_) #[Y,Y,Z,Z,Z,Z,Z,Z,Z,Z,Z,Z,Z,Z,Z,Z,Z,Z,Z,Z,Z] rfl rfl (take_ofW HT_.out HW_.out (by kernel_rfl)) (fun _ _ _ h=>h) (Or.inl ⟨by rfl,?_⟩) hHeld ?_ ?_;rotate_left
            ·rintro w' ⟨s0,s1⟩;go_simp;with_reducible rfl
            rotate_left
            ·simp only [Act.put,sIb,sZ,sS,i64_w,i32_w];rfl
            refine pure_ (i:=2) (N:=some 34) (v:=?_) (a':=?_) #[Y,Y,Y,Z,Z,Z,Z,Z,Z,Z,Z,Z,Z,Z,Z,Z,Z,Z,Z,Z,Z] rfl rfl (any_of HT_.out (by kernel_rfl)) (fun _ _ _ h=>h) (Or.inl ⟨by rfl,?_⟩) ?_ ?_;rotate_left
            ·intro w';go_simp;with_reducible rfl
            rotate_left
            ·simp only [Act.put,sIb,sZ,sS,i64_w,i32_w];rfl
            refine pure_ (i:=3) (N:=some 35) (v:=?_) (a':=?_) #[Y,Y,Y,Y,Z,Z,Z,Z,Z,Z,Z,Z,Z,Z,Z,Z,Z,Z,Z,Z,Z] rfl rfl (any_of HT_.out (by kernel_rfl)) (fun _ _ _ h=>h) (Or.inl ⟨by rfl,?_⟩) ?_ ?_;rotate_left
            ·intro w';go_simp;with_reducible rfl
            rotate_left
            ·simp only [Act.put,sIb,sZ,sS,i64_w,i32_w];rfl
            refine pure_ (i:=4) (N:=some 36) (v:=?_) (a':=?_) #[Y,Y,Y,Y,Y,Z,Z,Z,Z,Z,Z,Z,Z,Z,Z,Z,Z,Z,Z,Z,Z] rfl rfl (any_of HT_.out (by kernel_rfl)) (fun _ _ _ h=>h) (Or.inl ⟨by rfl,?_⟩) ?_ ?_;rotate_left
            ·intro w';go_simp;with_reducible rfl
            rotate_left
            ·simp only [Act.put,sIb,sZ,sS,i64_w,i32_w];rfl
            refine pure_ (i:=6) (N:=some 38) (v:=?_) (a':=?_) #[Y,Y,Y,Y,Y,Z,Y,Z,Z,Z,Z,Z,Z,Z,Z,Z,Z,Z,Z,Z,Z] rfl rfl (any_of HT_.out (by kernel_rfl)) (fun _ _ _ h=>h) (Or.inl ⟨by rfl,?_⟩) ?_ ?_;rotate_left
            ·intro w';go_simp;with_reducible rfl
            rotate_left
            ·simp only [Act.put,sIb,sZ,sS,i64_w,i32_w];rfl
            refine pure_ (i:=7) (N:=some 39) (v:=?_) (a':=?_) #[Y,Y,Y,Y,Y,Z,Y,Y,Z,Z,Z,Z,Z,Z,Z,Z,Z,Z,Z,Z,Z] rfl rfl (any_of HT_.out (by kernel_rfl)) (fun _ _ _ h=>h) (Or.inl ⟨by rfl,?_⟩) ?_ ?_;rotate_left
            ·intro w';go_simp;with_reducible rfl
            rotate_left
            ·simp only [Act.put,sIb,sZ,sS,i64_w,i32_w];rfl
            refine take_ (i:=5) (N:=some 37) (v:=?_) (a':=?_) #[Y,Y,Y,Y,Y,Y,Y,Y,Z,Z,Z,Z,Z,Z,Z,Z,Z,Z,Z,Z,Z] rfl rfl (take_ofW HT_.out HW_.out (by kernel_rfl)) (fun _ _ _ h=>h) (Or.inl ⟨by rfl,?_⟩) hHeld ?_ ?_;rotate_left
            ·rintro w' ⟨s0,s1⟩;go_simp;with_reducible rfl
            rotate_left
            ·simp only [Act.put,sIb,sZ,sS,i64_w,i32_w];rfl
            refine pure_ (i:=8) (N:=some 40) (v:=?_) (a':=?_) #[Y,Y,Y,Y,Y,Y,Y,Y,Y,Z,Z,Z,Z,Z,Z,Z,Z,Z,Z,Z,Z] rfl rfl (any_of HT_.out (by kernel_rfl)) (fun _ _ _ h=>h) (Or.inl ⟨by rfl,?_⟩) ?_ ?_;rotate_left
            ·intro w';go_simp;with_reducible rfl
            rotate_left
            ·simp only [Act.put,sIb,sZ,sS,i64_w,i32_w];rfl
            refine pure_ (i:=9) (N:=some 41) (v:=?_) (a':=?_) #[Y,Y,Y,Y,Y,Y,Y,Y,Y,Y,Z,Z,Z,Z,Z,Z,Z,Z,Z,Z,Z] rfl rfl (any_of HT_.out (by kernel_rfl)) (fun _ _ _ h=>h) (Or.inl ⟨by rfl,?_⟩) ?_ ?_;rotate_left
            ·intro w';go_simp;with_reducible rfl
            rotate_left
            ·simp only [Act.put,sIb,sZ,sS,i64_w,i32_w];rfl
            refine pure_ (i:=10) (N:=some 42) (v:=?_) (a':=?_) #[Y,Y,Y,Y,Y,Y,Y,Y,Y,Y,Y,Z,Z,Z,Z,Z,Z,Z,Z,Z,Z] rfl rfl (any_of HT_.out (by kernel_rfl)) (fun _ _ _ h=>h) (Or.inl ⟨by rfl,?_⟩) ?_ ?_;rotate_left
            ·intro w';go_simp;with_reducible rfl
            rotate_left
            ·simp only [Act.put,sIb,sZ,sS,i64_w,i32_w];rfl
            refine pure_ (i:=11) (N:=some 43) (v:=undef) (a':=?_) #[Y,Y,Y,Y,Y,Y,Y,Y,Y,Y,Y,Y,Z,Z,Z,Z,Z,Z,Z,Z,Z] rfl rfl (any_of HT_.out (by kernel_rfl)) (fun _ _ _ h=>h) (Or.inr ⟨by rfl,rfl⟩) ?_ ?_;rotate_left
            ·simp only [Act.put,sIb,sZ,sS,i64_w,i32_w];rfl
            refine pure_ (i:=12) (N:=some 44) (v:=undef) (a':=?_) #[Y,Y,Y,Y,Y,Y,Y,Y,Y,Y,Y,Y,Y,Z,Z,Z,Z,Z,Z,Z,Z] rfl rfl (any_of HT_.out (by kernel_rfl)) (fun _ _ _ h=>h) (Or.inr ⟨by rfl,rfl⟩) ?_ ?_;rotate_left
            ·simp only [Act.put,sIb,sZ,sS,i64_w,i32_w];rfl
            refine pure_ (i:=13) (N:=some 45) (v:=undef) (a':=?_) #[Y,Y,Y,Y,Y,Y,Y,Y,Y,Y,Y,Y,Y,Y,Z,Z,Z,Z,Z,Z,Z] rfl rfl (any_of HT_.out (by kernel_rfl)) (fun _ _ _ h=>h) (Or.inr ⟨by rfl,rfl⟩) ?_ ?_;rotate_left
            ·simp only [Act.put,sIb,sZ,sS,i64_w,i32_w];rfl
            refine pure_ (i:=14) (N:=some 46) (v:=undef) (a':=?_) #[Y,Y,Y,Y,Y,Y,Y,Y,Y,Y,Y,Y,Y,Y,Y,Z,Z,Z,Z,Z,Z] rfl rfl (any_of HT_.out (by kernel_rfl)) (fun _ _ _ h=>h) (Or.inr ⟨by rfl,rfl⟩) ?_ ?_;rotate_left
            ·simp only [Act.put,sIb,sZ,sS,i64_w,i32_w];rfl
            refine pure_ (i:=15) (N:=some 47) (v:=undef) (a':=?_) #[Y,Y,Y,Y,Y,Y,Y,Y,Y,Y,Y,Y,Y,Y,Y,Y,Z,Z,Z,Z,Z] rfl rfl (any_of HT_.out (by kernel_rfl)) (fun _ _ _ h=>h) (Or.inr ⟨by rfl,rfl⟩) ?_ ?_;rotate_left
            ·simp only [Act.put,sIb,sZ,sS,i64_w,i32_w];rfl
            refine pure_ (i:=16) (N:=some 48) (v:=undef) (a':=?_) #[Y,Y,Y,Y,Y,Y,Y,Y,Y,Y,Y,Y,Y,Y,Y,Y,Y,Z,Z,Z,Z] rfl rfl (any_of HT_.out (by kernel_rfl)) (fun _ _ _ h=>h) (Or.inr ⟨by rfl,rfl⟩) ?_ ?_;rotate_left
            ·simp only [Act.put,sIb,sZ,sS,i64_w,i32_w];rfl
            refine pure_ (i:=17) (N:=some 49) (v:=undef) (a':=?_) #[Y,Y,Y,Y,Y,Y,Y,Y,Y,Y,Y,Y,Y,Y,Y,Y,Y,Y,Z,Z,Z] rfl rfl (any_of HT_.out (by kernel_rfl)) (fun _ _ _ h=>h) (Or.inr ⟨by rfl,rfl⟩) ?_ ?_;rotate_left
            ·simp only [Act.put,sIb,sZ,sS,i64_w,i32_w];rfl
            refine pure_ (i:=18) (N:=some 50) (v:=undef) (a':=?_) #[Y,Y,Y,Y,Y,Y,Y,Y,Y,Y,Y,Y,Y,Y,Y,Y,Y,Y,Y,Z,Z] rfl rfl (any_of HT_.out (by kernel_rfl)) (fun _ _ _ h=>h) (Or.inr ⟨by rfl,rfl⟩) ?_ ?_;rotate_left
            ·simp only [Act.put,sIb,sZ,sS,i64_w,i32_w];rfl
            refine pure_ (i:=19) (N:=some 51) (v:=undef) (a':=?_) #[Y,Y,Y,Y,Y,Y,Y,Y,Y,Y,Y,Y,Y,Y,Y,Y,Y,Y,Y,Y,Z] rfl rfl (any_of HT_.out (by kernel_rfl)) (fun _ _ _ h=>h) (Or.inr ⟨by rfl,rfl⟩) ?_ ?_;rotate_left
            ·simp only [Act.put,sIb,sZ,sS,i64_w,i32_w];rfl
            refine pure_ (i:=20) (N:=some 52) (v:=?_) (a':=?_) #[Y,Y,Y,Y,Y,Y,Y,Y,Y,Y,Y,Y,Y,Y,Y,Y,Y,Y,Y,Y,Y] rfl rfl (any_of HT_.out (by kernel_rfl)) (fun _ _ _ h=>h) (Or.inl ⟨by rfl,?_⟩) ?_ ?_;rotate_left
            ·intro w';go_simp;with_reducible rfl
            rotate_left
            ·simp only [Act.put,sIb,sZ,sS,i64_w,i32_w];rfl
            refine done_ (done_of HT_.out (by kernel_rfl)) ?_;try go_wp2
            go_meet
            case rel=>exact ⟨_,(true),(by rfl),H',⟨by have:=bA.out;have:=bB.out;first|omega|exact Nat.le_refl _⟩,⟨ac.out⟩,⟨ad.out⟩,⟨HB.out⟩⟩
           ·rw [if_neg c23] at H;have bg:decide ((l1.length:Int)≤((rd_T97 ab aa).f0))=false:=decide_eq_false c23;clear c23;by_cases c26:0≤((rd_T97 ab aa).f0)
            ·rw [if_pos c26] at H;have bx:decide (0≤((rd_T97 ab aa).f0))=true:=decide_eq_true c26;clear c26;by_cases c27:((rd_T97 ab aa).f0) < (l1.length:Int)
             ·rw [if_pos c27] at H;have bz:decide (((rd_T97 ab aa).f0) < (l1.length:Int))=true:=decide_eq_true c27;clear c27;have H':=qK H;clear H;try go_wp2
              have al:Aside0 (((aX.setCell ⟨ae,0,none⟩ (.int .i64 ((rd_T97 ab aa).f0))).setCell ⟨ae,1,none⟩ (.slice ag ((rd_T97 ab aa).f1).length ah)).heap[ai]?=some (.cells #[.slice an af.length ao,.slice (some ay) ab.length ap] 32 (0,0))):=⟨by (with_reducible repeat (first|refine qN ?_ _|refine qW ?_|refine qL ?_ _));refine qR ?_ ak.out _;(with_reducible repeat (first|refine qN ?_ _|refine qW ?_|refine qL ?_ _));refine qR ?_ ak.out _;(with_reducible repeat (first|refine qN ?_ _|refine qW ?_|refine qL ?_ _));exact ac.out⟩;have am:Aside0 (((aX.setCell ⟨ae,0,none⟩ (.int .i64 ((rd_T97 ab aa).f0))).setCell ⟨ae,1,none⟩ (.slice ag ((rd_T97 ab aa).f1).length ah)).heap[ae]?=some (.cells #[.int .i64 ((rd_T97 ab aa).f0),.slice ag ((rd_T97 ab aa).f1).length ah] 97 (0,0))):=⟨by (with_reducible repeat (first|refine qN ?_ _|refine qW ?_|refine qL ?_ _));refine qP (cs:=#[.int .i64 ((rd_T97 ab aa).f0),.slice none 0 0]) ?_ 1 _ rfl;(with_reducible repeat (first|refine qN ?_ _|refine qW ?_|refine qL ?_ _));refine qP (cs:=#[.int .i64 0,.slice none 0 0]) ?_ 0 _ rfl;(with_reducible repeat (first|refine qN ?_ _|refine qW ?_|refine qL ?_ _));exact ad.out⟩;have aq:Aside0 (Below w.heap.size w ((aX.setCell ⟨ae,0,none⟩ (.int .i64 ((rd_T97 ab aa).f0))).setCell ⟨ae,1,none⟩ (.slice ag ((rd_T97 ab aa).f1).length ah))):=⟨by repeat (first|(with_reducible first|exact HB.out|apply qA|apply qD|apply qO|refine qS ?_ av.out|refine qS ?_ aQ.out)|exact HB.out)⟩;(try clear ac);(try clear ad);(try clear HB);generalize ((aX.setCell ⟨ae,0,none⟩ (.int .i64 ((rd_T97 ab aa).f0))).setCell ⟨ae,1,none⟩ (.slice ag ((rd_T97 ab aa).f1).length ah))=w28 at al am aq ⊢
              have ac:=al;have ad:=am;have HB:=aq;clear al am aq;(try (rw [drewN_self w28];generalize hq_:World.drewN w28 _=w28;have al:Aside0 (w28.heap[ai]?=some (.cells #[.slice an af.length ao,.slice (some ay) ab.length ap] 32 (0,0))):=⟨by rw [← hq_];exact ac.out⟩;have am:Aside0 (w28.heap[ae]?=some (.cells #[.int .i64 ((rd_T97 ab aa).f0),.slice ag ((rd_T97 ab aa).f1).length ah] 97 (0,0))):=⟨by rw [← hq_];exact ad.out⟩;have aq:Aside0 (Below w.heap.size w w28):=⟨by rw [← hq_];exact HB.out⟩;clear ac ad HB hq_;have ac:=al;have ad:=am;have HB:=aq;clear al am aq));have al:=qK (qW ac.out);have am:=qK (qW ad.out);have aq:=qK (qO HB.out);clear ac ad HB;have ac:=al;have ad:=am;have HB:=aq;clear al am aq;have bh:0≤(((rd_T97 ab aa).f0):Int):=of_decide_eq_true (by assumption);have bi:((rd_T97 ab aa).f0) < (l1.length:Int):=of_decide_eq_true (by assumption);obtain ⟨bG,bU,ar⟩:=Kd.at_int bN.out ((rd_T97 ab aa).f0) bh bi;have bc:=ar;cases bU
              replace ar:=(HB.out.cell (World.block_lt_of_cell? w _ ar)).trans ar;replace bh:=eq_true bh;replace bi:=eq_true bi;refine start_ (n:=21) (S:=fun w'=>w'.cell? ⟨ae,0,none⟩=some (.int .i64 ((rd_T97 ab aa).f0))∧w'.cell? ⟨ae,1,none⟩=some (.slice ag ((rd_T97 ab aa).f1).length ah)∧w'.cell? (bG.add (((rd_T97 ab aa).f0)).toNat)=some (.int .i64 (rd l1 ((rd_T97 ab aa).f0)))) (ds:=[]) #[Z,Z,Z,Z,Z,Z,Z,Z,Z,Z,Z,Z,Z,Z,Z,Z,Z,Z,Z,Z,Z] (by kernel_rfl) rfl rfl ⟨(qC ad.out 0).trans rfl,(qC ad.out 1).trans rfl,((HB.out.cell (World.block_lt_of_cell? w _ bc)).trans bc)⟩ (fun hHeld=>?_);refine with_tabW spec_GoodQuery.tab6 spec_GoodQuery.bits6 (fun HT_ HW_=>?_);generalize w28.drew=w29 at ac ad HB ar hHeld ⊢
              refine pure_ (i:=0) (N:=some 32) (v:=?_) (a':=?_) #[Y,Z,Z,Z,Z,Z,Z,Z,Z,Z,Z,Z,Z,Z,Z,Z,Z,Z,Z,Z,Z] rfl rfl (any_of HT_.out (by kernel_rfl)) (fun _ _ _ h=>h) (Or.inl ⟨by rfl,?_⟩) ?_ ?_;rotate_left
              ·intro w';go_simp;with_reducible rfl
              rotate_left
              ·simp only [Act.put,sIb,sZ,sS,i64_w,i32_w];rfl
              refine take_ (i:=1) (N:=some 33) (v:=?_) (a':=?_) #[Y,Y,Z,Z,Z,Z,Z,Z,Z,Z,Z,Z,Z,Z,Z,Z,Z,Z,Z,Z,Z] rfl rfl (take_ofW HT_.out HW_.out (by kernel_rfl)) (fun _ _ _ h=>h) (Or.inl ⟨by rfl,?_⟩) hHeld ?_ ?_;rotate_left
              ·rintro w' ⟨s0,s1,s2⟩;go_simp;with_reducible rfl
              rotate_left
              ·simp only [Act.put,sIb,sZ,sS,i64_w,i32_w];rfl
              refine pure_ (i:=2) (N:=some 34) (v:=?_) (a':=?_) #[Y,Y,Y,Z,Z,Z,Z,Z,Z,Z,Z,Z,Z,Z,Z,Z,Z,Z,Z,Z,Z] rfl rfl (any_of HT_.out (by kernel_rfl)) (fun _ _ _ h=>h) (Or.inl ⟨by rfl,?_⟩) ?_ ?_;rotate_left
              ·intro w';go_simp;with_reducible rfl
              rotate_left
              ·simp only [Act.put,sIb,sZ,sS,i64_w,i32_w];rfl
              refine pure_ (i:=3) (N:=some 35) (v:=?_) (a':=?_) #[Y,Y,Y,Y,Z,Z,Z,Z,Z,Z,Z,Z,Z,Z,Z,Z,Z,Z,Z,Z,Z] rfl rfl (any_of HT_.out (by kernel_rfl)) (fun _ _ _ h=>h) (Or.inl ⟨by rfl,?_⟩) ?_ ?_;rotate_left
              ·intro w';go_simp;with_reducible rfl
              rotate_left
              ·simp only [Act.put,sIb,sZ,sS,i64_w,i32_w];rfl
              refine pure_ (i:=4) (N:=some 36) (v:=?_) (a':=?_) #[Y,Y,Y,Y,Y,Z,Z,Z,Z,Z,Z,Z,Z,Z,Z,Z,Z,Z,Z,Z,Z] rfl rfl (any_of HT_.out (by kernel_rfl)) (fun _ _ _ h=>h) (Or.inl ⟨by rfl,?_⟩) ?_ ?_;rotate_left
              ·intro w';go_simp;with_reducible rfl
              rotate_left
              ·simp only [Act.put,sIb,sZ,sS,i64_w,i32_w];rfl
              refine pure_ (i:=6) (N:=some 38) (v:=?_) (a':=?_) #[Y,Y,Y,Y,Y,Z,Y,Z,Z,Z,Z,Z,Z,Z,Z,Z,Z,Z,Z,Z,Z] rfl rfl (any_of HT_.out (by kernel_rfl)) (fun _ _ _ h=>h) (Or.inl ⟨by rfl,?_⟩) ?_ ?_;rotate_left
              ·intro w';go_simp;with_reducible rfl
              rotate_left
              ·simp only [Act.put,sIb,sZ,sS,i64_w,i32_w];rfl
              refine pure_ (i:=7) (N:=some 39) (v:=?_) (a':=?_) #[Y,Y,Y,Y,Y,Z,Y,Y,Z,Z,Z,Z,Z,Z,Z,Z,Z,Z,Z,Z,Z] rfl rfl (any_of HT_.out (by kernel_rfl)) (fun _ _ _ h=>h) (Or.inl ⟨by rfl,?_⟩) ?_ ?_;rotate_left
              ·intro w';go_simp;with_reducible rfl
              rotate_left
              ·simp only [Act.put,sIb,sZ,sS,i64_w,i32_w];rfl
              refine take_ (i:=5) (N:=some 37) (v:=?_) (a':=?_) #[Y,Y,Y,Y,Y,Y,Y,Y,Z,Z,Z,Z,Z,Z,Z,Z,Z,Z,Z,Z,Z] rfl rfl (take_ofW HT_.out HW_.out (by kernel_rfl)) (fun _ _ _ h=>h) (Or.inl ⟨by rfl,?_⟩) hHeld ?_ ?_;rotate_left
              ·rintro w' ⟨s0,s1,s2⟩;go_simp;with_reducible rfl
              rotate_left
              ·simp only [Act.put,sIb,sZ,sS,i64_w,i32_w];rfl
              refine pure_ (i:=8) (N:=some 40) (v:=?_) (a':=?_) #[Y,Y,Y,Y,Y,Y,Y,Y,Y,Z,Z,Z,Z,Z,Z,Z,Z,Z,Z,Z,Z] rfl rfl (any_of HT_.out (by kernel_rfl)) (fun _ _ _ h=>h) (Or.inl ⟨by rfl,?_⟩) ?_ ?_;rotate_left
              ·intro w';go_simp;with_reducible rfl
              rotate_left
              ·simp only [Act.put,sIb,sZ,sS,i64_w,i32_w];rfl
              refine pure_ (i:=9) (N:=some 41) (v:=?_) (a':=?_) #[Y,Y,Y,Y,Y,Y,Y,Y,Y,Y,Z,Z,Z,Z,Z,Z,Z,Z,Z,Z,Z] rfl rfl (any_of HT_.out (by kernel_rfl)) (fun _ _ _ h=>h) (Or.inl ⟨by rfl,?_⟩) ?_ ?_;rotate_left
              ·intro w';go_simp;with_reducible rfl
              rotate_left
              ·simp only [Act.put,sIb,sZ,sS,i64_w,i32_w];rfl
              refine pure_ (i:=10) (N:=some 42) (v:=?_) (a':=?_) #[Y,Y,Y,Y,Y,Y,Y,Y,Y,Y,Y,Z,Z,Z,Z,Z,Z,Z,Z,Z,Z] rfl rfl (any_of HT_.out (by kernel_rfl)) (fun _ _ _ h=>h) (Or.inl ⟨by rfl,?_⟩) ?_ ?_;rotate_left
              ·intro w';go_simp;with_reducible rfl
              rotate_left
              ·simp only [Act.put,sIb,sZ,sS,i64_w,i32_w];rfl
              refine pure_ (i:=11) (N:=some 43) (v:=?_) (a':=?_) #[Y,Y,Y,Y,Y,Y,Y,Y,Y,Y,Y,Y,Z,Z,Z,Z,Z,Z,Z,Z,Z] rfl rfl (any_of HT_.out (by kernel_rfl)) (fun _ _ _ h=>h) (Or.inl ⟨by rfl,?_⟩) ?_ ?_;rotate_left
              ·intro w';go_simp;with_reducible rfl
              rotate_left
              ·simp only [Act.put,sIb,sZ,sS,i64_w,i32_w];rfl
              refine pure_ (i:=14) (N:=some 46) (v:=?_) (a':=?_) #[Y,Y,Y,Y,Y,Y,Y,Y,Y,Y,Y,Y,Z,Z,Y,Z,Z,Z,Z,Z,Z] rfl rfl (any_of HT_.out (by kernel_rfl)) (fun _ _ _ h=>h) (Or.inl ⟨by rfl,?_⟩) ?_ ?_;rotate_left
              ·intro w';go_simp;with_reducible rfl
              rotate_left
              ·simp only [Act.put,sIb,sZ,sS,i64_w,i32_w];rfl
              refine pure_ (i:=15) (N:=some 47) (v:=?_) (a':=?_) #[Y,Y,Y,Y,Y,Y,Y,Y,Y,Y,Y,Y,Z,Z,Y,Y,Z,Z,Z,Z,Z] rfl rfl (any_of HT_.out (by kernel_rfl)) (fun _ _ _ h=>h) (Or.inl ⟨by rfl,?_⟩) ?_ ?_;rotate_left
              ·intro w';go_simp;with_reducible rfl
              rotate_left
              ·simp only [Act.put,sIb,sZ,sS,i64_w,i32_w];rfl
              refine take_ (i:=12) (N:=some 44) (v:=?_) (a':=?_) #[Y,Y,Y,Y,Y,Y,Y,Y,Y,Y,Y,Y,Y,Z,Y,Y,Z,Z,Z,Z,Z] rfl rfl (take_ofW HT_.out HW_.out (by kernel_rfl)) (fun _ _ _ h=>h) (Or.inl ⟨by rfl,?_⟩) hHeld ?_ ?_;rotate_left
              ·rintro w' ⟨s0,s1,s2⟩;go_simp;with_reducible rfl
              rotate_left
              ·simp only [Act.put,sIb,sZ,sS,i64_w,i32_w];rfl
              refine pure_ (i:=13) (N:=some 45) (v:=?_) (a':=?_) #[Y,Y,Y,Y,Y,Y,Y,Y,Y,Y,Y,Y,Y,Y,Y,Y,Z,Z,Z,Z,Z] rfl rfl (any_of HT_.out (by kernel_rfl)) (fun _ _ _ h=>h) (Or.inl ⟨by rfl,?_⟩) ?_ ?_;rotate_left
              ·intro w';go_simp;with_reducible rfl
              rotate_left
              ·simp only [Act.put,sIb,sZ,sS,i64_w,i32_w];rfl
              refine take_ (i:=16) (N:=some 48) (v:=?_) (a':=?_) #[Y,Y,Y,Y,Y,Y,Y,Y,Y,Y,Y,Y,Y,Y,Y,Y,Y,Z,Z,Z,Z] rfl rfl (take_ofW HT_.out HW_.out (by kernel_rfl)) (fun _ _ _ h=>h) (Or.inl ⟨by rfl,?_⟩) hHeld ?_ ?_;rotate_left
              ·rintro w' ⟨s0,s1,s2⟩;go_simp;with_reducible rfl
              rotate_left
              ·simp only [Act.put,sIb,sZ,sS,i64_w,i32_w];rfl
              refine pure_ (i:=17) (N:=some 49) (v:=?_) (a':=?_) #[Y,Y,Y,Y,Y,Y,Y,Y,Y,Y,Y,Y,Y,Y,Y,Y,Y,Y,Z,Z,Z] rfl rfl (any_of HT_.out (by kernel_rfl)) (fun _ _ _ h=>h) (Or.inl ⟨by rfl,?_⟩) ?_ ?_;rotate_left
              ·intro w';go_simp;with_reducible rfl
              rotate_left
              ·simp only [Act.put,sIb,sZ,sS,i64_w,i32_w];rfl
              refine take_ (i:=18) (N:=some 50) (v:=?_) (a':=?_) #[Y,Y,Y,Y,Y,Y,Y,Y,Y,Y,Y,Y,Y,Y,Y,Y,Y,Y,Y,Z,Z] rfl rfl (take_ofW HT_.out HW_.out (by kernel_rfl)) (fun _ _ _ h=>h) (Or.inl ⟨by rfl,?_⟩) hHeld ?_ ?_;rotate_left
              ·rintro w' ⟨s0,s1,s2⟩;go_simp;with_reducible rfl
              rotate_left
              ·simp only [Act.put,sIb,sZ,sS,i64_w,i32_w];rfl
              refine pure_ (i:=19) (N:=some 51) (v:=?_) (a':=?_) #[Y,Y,Y,Y,Y,Y,Y,Y,Y,Y,Y,Y,Y,Y,Y,Y,Y,Y,Y,Y,Z] rfl rfl (any_of HT_.out (by kernel_rfl)) (fun _ _ _ h=>h) (Or.inl ⟨by rfl,?_⟩) ?_ ?_;rotate_left
              ·intro w';go_simp;with_reducible rfl
              rotate_left
              ·simp only [Act.put,sIb,sZ,sS,i64_w,i32_w];rfl
              refine pure_ (i:=20) (N:=some 52) (v:=?_) (a':=?_) #[Y,Y,Y,Y,Y,Y,Y,Y,Y,Y,Y,Y,Y,Y,Y,Y,Y,Y,Y,Y,Y] rfl rfl (any_of HT_.out (by kernel_rfl)) (fun _ _ _ h=>h) (Or.inl ⟨by rfl,?_⟩) ?_ ?_;rotate_left
              ·intro w';go_simp;with_reducible rfl
              rotate_left
              ·simp only [Act.put,sIb,sZ,sS,i64_w,i32_w];rfl
              refine done_ (done_of HT_.out (by kernel_rfl)) ?_;try go_wp2
              go_meet
              case rel=>exact ⟨_,(((((rd_T97 ab aa).f1).length:Int) != (rd l1 ((rd_T97 ab aa).f0)))),(by rfl),H',⟨by have:=bA.out;have:=bB.out;first|omega|exact Nat.le_refl _⟩,⟨ac.out⟩,⟨ad.out⟩,⟨HB.out⟩⟩
             ·rw [if_neg c27] at H;exact absurd H (by simp)
            ·rw [if_neg c26] at H;exact absurd H (by simp)
         case rest =>
          clear bC;try clear c1
          try clear c2
          try clear p2
          try clear q2
          try clear hx2
          try clear c6
          try clear c7
          try clear c8
          try clear c11
          try clear c13
          try clear bd
          try clear c14
          try clear bv
          try clear c15
          try clear bw
          try clear c18
          try clear c20
          try clear aE
          try clear c23
          try clear bg
          try clear c26
          try clear bx
          try clear c27
          try clear bz
          try clear c29
          try clear p29
          try clear q29
          try clear hx29
          try clear az
          try clear aA
          try clear aK
          try clear aL
          try clear aY
          try clear aZ
          try clear aG
          try clear aH
          try clear aB
          try clear aC
          try clear aM
          try clear aN
          try clear ba
          try clear bb
          try clear aI
          try clear aJ
          try clear aw
          try clear ax
          try clear ar
          try clear p2
          try clear be
          try clear bh
          try clear bf
          try clear bi
          obtain ⟨kq,aO,rfl,HA,bl,ac,ad,HB⟩:=hcut;cases kq with
          | zero=>exact absurd HA.out (by simp [spec_GoodQuery.j2])
          | succ kj15 =>
           have H:=HA.out;clear HA;simp only [spec_GoodQuery.j2] at H;by_cases c30:aO=true
           ·subst c30;have H1:(some false)=some r:=by rw [if_pos rfl] at H;exact H
            clear H;have H:=H1;clear H1;obtain rfl:=Option.some.inj H;go_wp2
            go_ret
            exact ⟨by rfl,HB.out⟩
           ·replace c30:=Bool.eq_false_iff.mpr c30;subst c30;have H1:(spec_GoodQuery.l1 kj15 l1 ab (ab.length:Int) aa ((rd_T97 ab aa).f1) (((rd_T97 ab aa).f1).length:Int) 0 af ab)=some r:=by rw [if_neg (show ¬ (false=true) by decide)] at H;exact H
            clear H;have H:=H1;clear H1;have H':=qK H;clear H;have cg:=aF.out;have ch:=ak.out;have bm:wc.cell? ⟨ae,0,none⟩=some (.int .i64 ((rd_T97 ab aa).f0)):=(qC ad.out 0).trans rfl;have bn:wc.cell? ⟨ae,1,none⟩=some (.slice ag ((rd_T97 ab aa).f1).length ah):=(qC ad.out 1).trans rfl;have bo:=qF ad.out 0;have bp:=qF ad.out 1;go_wp2
            go_loopg [56] kj15 (fun kq cq w'=>∃ (aj:Int),cq=.int .i64 aj∧Aside0 (spec_GoodQuery.l1 kq l1 ab (ab.length:Int) aa ((rd_T97 ab aa).f1) (((rd_T97 ab aa).f1).length:Int) aj af ab=some r)∧Aside0 (kq≤kj15)∧Aside0 (w'.heap[ai]?=some (.cells #[(.slice an af.length ao),(.slice (some ay) ab.length ap)] 32 (0,0)))∧Aside0 (w'.heap[ae]?=some (.cells #[.int .i64 ((rd_T97 ab aa).f0),(.slice ag ((rd_T97 ab aa).f1).length ah)] 97 (0,0)))∧Aside0 (Below w.heap.size w w'))
            case atStart=>exact ⟨(0),(by rfl),H',⟨Nat.le_refl _⟩,⟨ac.out⟩,⟨ad.out⟩,⟨HB.out⟩⟩
            case round =>
             clear H';try clear c1
             try clear c2
             try clear p2
             try clear q2
             try clear hx2
             try clear c3
             try clear c6
             try clear c7
             try clear c8
             try clear c11
             try clear c13
             try clear bd
             try clear c14
             try clear bv
             try clear c15
             try clear bw
             try clear c18
             try clear c20
             try clear aE
             try clear c23
             try clear bg
             try clear c26
             try clear bx
             try clear c27
             try clear bz
             try clear c29
             try clear p29
             try clear q29
             try clear hx29
             try clear c30
             try clear c31
             try clear az
             try clear aA
             try clear aK
             try clear aL
             try clear aY
             try clear aZ
             try clear bm
             try clear bn
             try clear aG
             try clear aH
             try clear aB
             try clear aC
             try clear aM
             try clear aN
             try clear ba
             try clear bb
             try clear bo
             try clear bp
             try clear aI
             try clear aJ
             try clear aw
             try clear ax
             try clear ar
             try clear p2
             try clear p29
             try clear be
             try clear bh
             try clear q2
             try clear q29
             try clear bf
             try clear bi
             obtain ⟨aj,rfl,HA,bP,ac,ad,HB⟩:=hrel;cases gk with
             | zero=>exact absurd HA.out (by simp [spec_GoodQuery.l1])
             | succ k4 =>
              have H:=HA.out;clear HA;simp only [spec_GoodQuery.l1] at H;by_cases c33:aj < (((rd_T97 ab aa).f1).length:Int)
              ·rw [if_pos c33] at H;have bH:decide (aj < (((rd_T97 ab aa).f1).length:Int))=true:=decide_eq_true c33;clear c33;by_cases c34:0≤aj
               ·rw [if_pos c34] at H;have ci:decide (0≤aj)=true:=decide_eq_true c34;clear c34;by_cases c35:aj < (((rd_T97 ab aa).f1).length:Int)
                ·rw [if_pos c35] at H;have cj:decide (aj < (((rd_T97 ab aa).f1).length:Int))=true:=decide_eq_true c35;clear c35;replace H:=Option.bind_eq_some_iff.mp H;obtain ⟨bI,bJ,H⟩:=H;replace H:(if bI=true then (spec_GoodQuery.l1 k4 l1 ab (ab.length:Int) aa ((rd_T97 ab aa).f1) (((rd_T97 ab aa).f1).length:Int) (wrap64 (aj + 1)) af ab) else (some false))=some r:=H;have ck:=qK bJ;clear bJ;by_cases c37:bI=true
                 ·subst c37;have H1:(spec_GoodQuery.l1 k4 l1 ab (ab.length:Int) aa ((rd_T97 ab aa).f1) (((rd_T97 ab aa).f1).length:Int) (wrap64 (aj + 1)) af ab)=some r:=by rw [if_pos rfl] at H;exact H
                  clear H;have H:=H1;clear H1;have H':=qK H;clear H;have aR:0≤(aj:Int):=of_decide_eq_true (by assumption);have aS:aj < (((rd_T97 ab aa).f1).length:Int):=of_decide_eq_true (by assumption);obtain ⟨bK,bD,au⟩:=Kd.at_int aW.out aj aR aS;cases bD
                  replace au:=(HB.out.cell (World.block_lt_of_cell? w _ au)).trans au;replace aR:=eq_true aR;replace aS:=eq_true aS;go_wp2_with (first|((with_reducible refine gate_callee (f:=139) rfl ?_);refine goesL_ (some 61) rfl rfl Try.func139 (by kernel_rfl) rfl #[.int .i64 (rd ((rd_T97 ab aa).f1) aj)] rfl (by (try simp only [mT,mC,mN]);first|done|rfl|(simp only [lD,lT];rfl)) ?_;(with_reducible refine (spec_l10Var.calls (rd ((rd_T97 ab aa).f1) aj) true _ ck.out).mono ?_);rintro e w' ⟨rfl,⟨nd,rfl⟩⟩;refine ⟨_,rfl,?_⟩))
                  go_roundg k4
                  case measure=>have:=bA.out;have:=bB.out;have:=bl.out;have:=bP.out;omega
                  case rel=>exact ⟨(wrap64 (aj + 1)),(by rfl),H',⟨by have:=bA.out;have:=bB.out;have:=bl.out;have:=bP.out;omega⟩,⟨ac.out⟩,⟨ad.out⟩,⟨by repeat (first|(with_reducible first|exact HB.out|apply qA|apply qD|apply qO|refine qS ?_ av.out|refine qS ?_ aQ.out)|exact HB.out)⟩⟩
                 ·replace c37:=Bool.eq_false_iff.mpr c37;subst c37;have H1:(some false)=some r:=by rw [if_neg (show ¬ (false=true) by decide)] at H;exact H
                  clear H;have H:=H1;clear H1;obtain rfl:=Option.some.inj H;have aR:0≤(aj:Int):=of_decide_eq_true (by assumption);have aS:aj < (((rd_T97 ab aa).f1).length:Int):=of_decide_eq_true (by assumption);obtain ⟨bK,bD,au⟩:=Kd.at_int aW.out aj aR aS;cases bD
                  replace au:=(HB.out.cell (World.block_lt_of_cell? w _ au)).trans au;replace aR:=eq_true aR;replace aS:=eq_true aS;go_wp2_with (first|((with_reducible refine gate_callee (f:=139) rfl ?_);refine goesL_ (some 61) rfl rfl Try.func139 (by kernel_rfl) rfl #[.int .i64 (rd ((rd_T97 ab aa).f1) aj)] rfl (by (try simp only [mT,mC,mN]);first|done|rfl|(simp only [lD,lT];rfl)) ?_;(with_reducible refine (spec_l10Var.calls (rd ((rd_T97 ab aa).f1) aj) false _ ck.out).mono ?_);rintro e w' ⟨rfl,⟨nd,rfl⟩⟩;refine ⟨_,rfl,?_⟩))
                  go_ret
                  exact ⟨by rfl,by repeat (first|(with_reducible first|exact HB.out|apply qA|apply qD|apply qO|refine qS ?_ av.out|refine qS ?_ aQ.out)|exact HB.out)⟩
                ·rw [if_neg c35] at H;exact absurd H (by simp)
               ·rw [if_neg c34] at H;exact absurd H (by simp)
              ·rw [if_neg c33] at H;have bH:decide (aj < (((rd_T97 ab aa).f1).length:Int))=false:=decide_eq_false c33;clear c33;have H':=qK H;clear H;go_wp2
               go_roundg k4
               case measure=>have:=bA.out;have:=bB.out;have:=bl.out;have:=bP.out;omega
               case rel=>exact ⟨(wrap64 (aa + 1)),(by rfl),H',⟨by have:=bA.out;have:=bB.out;have:=bl.out;have:=bP.out;omega⟩,⟨ac.out⟩,⟨HB.out⟩⟩
        ·rw [if_neg c15] at H;exact absurd H (by simp)
       ·rw [if_neg c14] at H;exact absurd H (by simp)
      ·rw [if_neg c13] at H;have bd:decide (aa < (ab.length:Int))=false:=decide_eq_false c13;clear c13;replace H:=Option.bind_eq_some_iff.mp H;obtain ⟨bq,bL,H⟩:=H;replace H:((spec_l7All.f k2 bq af).bind fun br=>(some br))=some r:=H;have cr:=qK bL;clear bL;replace H:=Option.bind_eq_some_iff.mp H;obtain ⟨br,bM,H⟩:=H;replace H:(some br)=some r:=H;have ct:=qK bM;clear bM;obtain rfl:=Option.some.inj H;try go_wp2
       (try (rw [drewN_self wr];generalize hq_:World.drewN wr _=wr;have al:Aside0 (wr.heap[ai]?=some (.cells #[.slice an af.length ao,.slice aD ab.length ap] 32 (0,0))):=⟨by rw [← hq_];exact ac.out⟩;have am:Aside0 (Below w.heap.size w wr):=⟨by rw [← hq_];exact HB.out⟩;clear ac HB hq_;have ac:=al;have HB:=am;clear al am));have al:=qK (qW ac.out);have am:=qK (qO HB.out);clear ac HB;have ac:=al;have HB:=am;clear al am;refine start_ (n:=6) (S:=fun w'=>w'.cell? ⟨ai,0,none⟩=some (.slice an af.length ao)∧w'.cell? ⟨ai,1,none⟩=some (.slice aD ab.length ap)) (ds:=[]) #[Z,Z,Z,Z,Z,Z] (by kernel_rfl) rfl rfl ⟨(qC ac.out 0).trans rfl,(qC ac.out 1).trans rfl⟩ (fun hHeld=>?_);generalize wr.drew=w40 at ac HB hHeld ⊢
       refine pure_ (i:=2) (N:=some 67) (v:=?_) (a':=?_) #[Z,Z,Y,Z,Z,Z] rfl rfl (by kernel_rfl) (fun _ _ _ h=>h) (Or.inl ⟨by rfl,?_⟩) ?_ ?_;rotate_left
       ·intro w';go_simp;with_reducible rfl
       rotate_left
       ·simp only [Act.put,sIb,sZ,sS,i64_w,i32_w];rfl
       refine take_ (i:=0) (N:=some 65) (v:=?_) (a':=?_) #[Y,Z,Y,Z,Z,Z] rfl rfl (by kernel_rfl) (fun _ _ _ h=>h) (Or.inl ⟨by rfl,?_⟩) hHeld ?_ ?_;rotate_left
       ·rintro w' ⟨s0,s1⟩;go_simp;with_reducible rfl
       rotate_left
       ·simp only [Act.put,sIb,sZ,sS,i64_w,i32_w];rfl
       refine take_ (i:=3) (N:=some 68) (v:=?_) (a':=?_) #[Y,Z,Y,Y,Z,Z] rfl rfl (by kernel_rfl) (fun _ _ _ h=>h) (Or.inl ⟨by rfl,?_⟩) hHeld ?_ ?_;rotate_left
       ·rintro w' ⟨s0,s1⟩;go_simp;with_reducible rfl
       rotate_left
       ·simp only [Act.put,sIb,sZ,sS,i64_w,i32_w];rfl
       refine one_ (i:=1) (N:=some 66) #[Y,Y,Y,Y,Z,Z] rfl rfl (by kernel_rfl) (by decide) (fun K hK=>?_);refine goes_ Try.func140 (by kernel_rfl) rfl #[.agg #[.slice an af.length ao,.slice aD ab.length ap]] (by rfl) rfl rfl (by (try simp only [mT,mC,mN]);first|done|rfl|(simp only [lD,lT];rfl)) ?_;with_reducible refine (spec_l10Vars.calls k2 _ _ af _ _ ab bq _ ?side1 ?side2 ?side3 ?side4 cr.out).mono ?_
       (case side1=>exact (cB bs.out HB.out));(case side2=>exact bt.out);(case side3=>exact (cB bu.out HB.out));(case side4=>exact bF.out);rintro e cv ⟨cu,rfl,ho0,hb⟩;refine ⟨_,rfl,?_⟩;have al:=qK (Kd.V_lower (Kd.V_mono (ok':=fun k_=>k_ ≠ ai) ho0 (fun k_ hk_=>(Kd.freshB (g:=ai) (o:=_) ac.out k_ hk_))) (qZ HB.out));have am:=qK (qB (g:=ai) (o:=_) ac.out hb);have aq:=qK (qT HB.out hb);clear ac HB;have bj:=al;have ac:=am;have HB:=aq;clear al am aq;(try clear hb);(try clear ho0);obtain ⟨bV,bW,bX⟩:=Kd.V_slice bj.out;subst bX;refine hK.out _ _ ⟨(qC ac.out 0).trans rfl,(qC ac.out 1).trans rfl⟩ (fun hHeld=>?_);clear hK K;refine norm_ (a':=?_) ?_ ?_;rotate_left
       ·show Act.put _ (some 66) _=_
        simp only [Act.put,sIb,sZ,sS,i64_w,i32_w];rfl
       refine one_ (i:=4) (N:=some 69) #[Y,Y,Y,Y,Y,Z] rfl rfl (by kernel_rfl) (by decide) (fun K hK=>?_);refine goes_ Try.func83 (by kernel_rfl) rfl #[.slice bV bq.length bW,.slice an af.length ao] (by rfl) rfl rfl (by (try simp only [mT,mC,mN]);first|done|rfl|(simp only [lD,lT];rfl)) ?_;with_reducible refine (spec_l7All.calls k2 _ _ bq _ _ af br _ ?side1 ?side2 ?side3 ?side4 ct.out).mono ?_
       (case side1=>exact (Kd.V_reads' bj.out).2.2);(case side2=>exact (Kd.V_reads' bj.out).2.1);(case side3=>exact (cB bs.out HB.out));(case side4=>exact bt.out);rintro e w' ⟨rfl,⟨nd,rfl⟩⟩;refine ⟨_,rfl,?_⟩;refine hK.out _ _ ⟨(qC ac.out 0).trans rfl,(qC ac.out 1).trans rfl⟩ (fun hHeld=>?_);clear hK K;refine norm_ (a':=?_) ?_ ?_;rotate_left
       ·show Act.put _ (some 69) _=_
        simp only [Act.put,sIb,sZ,sS,i64_w,i32_w];rfl
       refine pure_ (i:=5) (N:=some 4) (v:=?_) (a':=?_) #[Y,Y,Y,Y,Y,Y] rfl rfl (by kernel_rfl) (fun _ _ _ h=>h) (Or.inl ⟨by rfl,?_⟩) ?_ ?_;rotate_left
       ·intro w';go_simp;with_reducible rfl
       rotate_left
       ·simp only [Act.put,sIb,sZ,sS,i64_w,i32_w];rfl
       refine done_ (by kernel_rfl) ?_;try go_wp2
       go_ret
       exact ⟨by rfl,by repeat (first|(with_reducible first|exact HB.out|apply qA|apply qD|apply qO|refine qS ?_ av.out)|exact HB.out)⟩

/-! ### spec_l10HasAtom: function 183 -/
mutual
def spec_l10HasAtom.l0 : Nat→List Int→List (S97)→Int→Int→Int→List Int→Option (Bool)
 | 0,_,_,_,_,_,_=>none
 | k + 1,x2,x13,x14,x15,x303000,x303001=>if x15 < x14 then (if 0≤x15 then (if x15 < (x13.length:Int) then (if ((rd_T97 x13 x15).f0)=x303000 then (spec_l10HasAtom.l1 k x2 true x13 x14 x15 x303001 (x303001.length:Int) 0 x303000 x303001 ((rd_T97 x13 x15).f0) ((rd_T97 x13 x15).f1)) else (spec_l10HasAtom.l0 k x2 x13 x14 (wrap64 (x15 + 1)) x303000 x303001)) else (none)) else (none)) else (some false)
def spec_l10HasAtom.l1 : Nat→List Int→Bool→List (S97)→Int→Int→List Int→Int→Int→Int→List Int→Int→List Int→Option (Bool)
 | 0,_,_,_,_,_,_,_,_,_,_,_,_=>none
 | k + 1,x2,x9,x13,x14,x15,x25,x26,x27,x303000,x303001,x305000,x305001=>if x27 < x26 then (if 0≤x27 then (if x27 < (x25.length:Int) then (if (rd x25 x27) < (x2.length:Int) then (if 0≤(rd x25 x27) then (if x27 < (x305001.length:Int) then (if (rd x2 (rd x25 x27))=(rd x305001 x27) then (spec_l10HasAtom.l1 k x2 x9 x13 x14 x15 x25 x26 (wrap64 (x27 + 1)) x303000 x303001 x305000 x305001) else (spec_l10HasAtom.l1 k x2 false x13 x14 x15 x25 x26 (wrap64 (x27 + 1)) x303000 x303001 x305000 x305001)) else (none)) else (none)) else (spec_l10HasAtom.l1 k x2 x9 x13 x14 x15 x25 x26 (wrap64 (x27 + 1)) x303000 x303001 x305000 x305001)) else (none)) else (none)) else (if x9=true then (some true) else (spec_l10HasAtom.l0 k x2 x13 x14 (wrap64 (x15 + 1)) x303000 x303001))
end
def spec_l10HasAtom.f (k:Nat) (l0_0:List Int) (l0_1:List (S97)) (a1_0:Int) (l1_1:List Int) (l2:List Int):Option (Bool):=spec_l10HasAtom.l0 k l2 l0_1 (l0_1.length:Int) 0 a1_0 l1_1
theorem spec_l10HasAtom.mono_l : ∀ k,(∀ y0 y1 y2 y3 y4 y5,LeO (spec_l10HasAtom.l0 k y0 y1 y2 y3 y4 y5) (spec_l10HasAtom.l0 (k + 1) y0 y1 y2 y3 y4 y5))∧(∀ y0 y1 y2 y3 y4 y5 y6 y7 y8 y9 ac ad,LeO (spec_l10HasAtom.l1 k y0 y1 y2 y3 y4 y5 y6 y7 y8 y9 ac ad) (spec_l10HasAtom.l1 (k + 1) y0 y1 y2 y3 y4 y5 y6 y7 y8 y9 ac ad))
 | 0=>⟨fun _ _ _ _ _ _ r h=>by simp [spec_l10HasAtom.l0] at h,fun _ _ _ _ _ _ _ _ _ _ _ _ r h=>by simp [spec_l10HasAtom.l1] at h⟩
 | k + 1=>by
  obtain ⟨aa,ab⟩:=spec_l10HasAtom.mono_l k;refine ⟨?_,?_⟩
  ·intro y0 y1 y2 y3 y4 y5;unfold spec_l10HasAtom.l0
   repeat' first
   | (with_reducible exact aa _ _ _ _ _ _)
   | (with_reducible exact ab _ _ _ _ _ _ _ _ _ _ _ _)
   | (with_reducible exact LeO.refl _)
   | (with_reducible exact LeO.none _)
   | (with_reducible refine LeO.ite ?_ ?_)
   | (with_reducible refine LeO.bind ?_ (fun _=>?_))
   | exact aa _ _ _ _ _ _
   | exact ab _ _ _ _ _ _ _ _ _ _ _ _
   | exact LeO.none _
   | refine LeO.ite ?_ ?_
   | refine LeO.bind ?_ (fun _=>?_)
  ·intro y0 y1 y2 y3 y4 y5 y6 y7 y8 y9 ac ad;unfold spec_l10HasAtom.l1
   repeat' first
   | (with_reducible exact aa _ _ _ _ _ _)
   | (with_reducible exact ab _ _ _ _ _ _ _ _ _ _ _ _)
   | (with_reducible exact LeO.refl _)
   | (with_reducible exact LeO.none _)
   | (with_reducible refine LeO.ite ?_ ?_)
   | (with_reducible refine LeO.bind ?_ (fun _=>?_))
   | exact aa _ _ _ _ _ _
   | exact ab _ _ _ _ _ _ _ _ _ _ _ _
   | exact LeO.none _
   | refine LeO.ite ?_ ?_
   | refine LeO.bind ?_ (fun _=>?_)
theorem spec_l10HasAtom.mono : ∀ a0 a1 a2 a3 a4 k,LeO (spec_l10HasAtom.f k a0 a1 a2 a3 a4) (spec_l10HasAtom.f (k + 1) a0 a1 a2 a3 a4):=by
 intro a0 a1 a2 a3 a4 k;obtain ⟨aa,ab⟩:=spec_l10HasAtom.mono_l k;unfold spec_l10HasAtom.f
 repeat' first
   | (with_reducible exact aa _ _ _ _ _ _)
   | (with_reducible exact ab _ _ _ _ _ _ _ _ _ _ _ _)
   | (with_reducible exact LeO.refl _)
   | (with_reducible exact LeO.none _)
   | (with_reducible refine LeO.ite ?_ ?_)
   | (with_reducible refine LeO.bind ?_ (fun _=>?_))
   | exact aa _ _ _ _ _ _
   | exact ab _ _ _ _ _ _ _ _ _ _ _ _
   | exact LeO.none _
   | refine LeO.ite ?_ ?_
   | refine LeO.bind ?_ (fun _=>?_)
set_option maxHeartbeats 8000000 in
set_option maxRecDepth 100000 in
theorem spec_l10HasAtom.calls (k:Nat) (aQ:Option Addr) (aR:Nat) (aI:List Int) (aT:Option Addr) (aS:Nat) (ak:List (S97)) (ar:Int) (aJ:Option Addr) (aK:Nat) (an:List Int) (A2:Option Addr) (c2:Nat) (l2:List Int) (r:Bool) (w:World) (hr0_0:Kd.C (Kd.int .i64) w aQ aI.length aI) (hc0_0:aI.length≤aR) (hr0_1:Kd.C k97 w aT ak.length ak) (hc0_1:ak.length≤aS) (hr1_1:Kd.C (Kd.int .i64) w aJ an.length an) (hc1_1:an.length≤aK) (cz:Kd.C (Kd.int .i64) w A2 l2.length l2) (cA:l2.length≤c2) (h:spec_l10HasAtom.f k aI ak ar an l2=some r) :
  Calls Try.prog 183 #[.agg #[.slice aQ aI.length aR,.slice aT ak.length aS],.agg #[.int .i64 ar,.slice aJ an.length aK],.slice A2 l2.length c2] w fun e w'=>e=.returned (.bool r)∧Below w.heap.size w w':=by
 have cV:=Try.underlying32;have cX:=Try.underlying97;have cC:=qK hr0_0;have cD:=qK hc0_0;clear hr0_0 hc0_0;have bI:=qK hr0_1;have cE:=qK hc0_1;clear hr0_1 hc0_1;have bE:=qK hr1_1;have cF:=qK hc1_1;clear hr1_1 hc1_1;have cG:=qK cz;have da:=qK cA;clear cz cA;have HB:=qK (Below.refl w.heap.size w);have H:(spec_l10HasAtom.l0 k l2 ak (ak.length:Int) 0 ar an)=some r:=h;clear h;have H':=qK H;clear H;go_enter Try.func183,Try.ntmps183
 go_wp2_with (first|((with_reducible refine gate_dst (N:=3) rfl ?_);refine box_event ?hg (N:=3) ?hd (cs:=#[.slice aQ aI.length aR,.slice aT ak.length aS]) (t:=32) ?hr ?_;(case hd=>rfl);(case hg=>rfl);(case hr=>(go_simp;try rfl));intro ah hg w4 hbox hb;have aA:=qK (qT HB.out hb);have aB:=qK (hbox);have ay:=qK ((by rw [hg];exact (qZ HB.out):w.heap.size≤ah));have az:=ay;clear HB;have HB:=aA;have aa:=aB;have bJ:=ay;have aL:=az;clear aA aB ay az;clear hb hbox hg)|((with_reducible refine gate_dst (N:=4) rfl ?_);refine box_event ?hg (N:=4) ?hd (cs:=#[.int .i64 ar,.slice aJ an.length aK]) (t:=97) ?hr ?_;(case hd=>rfl);(case hg=>rfl);(case hr=>(go_simp;try rfl));intro ai hg w5 hbox hb;have aA:=qK (qB (g:=ah) (o:=_) aa.out hb);have aB:=qK (qT HB.out hb);have ay:=qK (hbox);have az:=qK ((by rw [hg];exact (qZ HB.out):w.heap.size≤ai));have aC:=az;have aF:=qK ((by rw [hg];exact Nat.ne_of_lt (blk_lt (g:=ah) (o:=_) aa.out):ah ≠ ai));have aD:=qK aF.out.symm;clear aa HB;have aa:=aA;have HB:=aB;have ab:=ay;have bK:=az;have aM:=aC;have ao:=aF;have ap:=aD;clear aA aB ay az aC aF aD hb hbox hg;have cf:=ao.out;have cg:=ap.out;have aU:w5.cell? ⟨ah,0,none⟩=some (.slice aQ aI.length aR):=(qC aa.out 0).trans rfl;have aV:w5.cell? ⟨ah,1,none⟩=some (.slice aT ak.length aS):=(qC aa.out 1).trans rfl;have aW:=qF aa.out 0;have aX:=qF aa.out 1))
 repeat (go_quiet (first|((with_reducible refine gate_dst (N:=3) rfl ?_);refine box_event ?hg (N:=3) ?hd (cs:=#[.slice aQ aI.length aR,.slice aT ak.length aS]) (t:=32) ?hr ?_;(case hd=>rfl);(case hg=>rfl);(case hr=>(go_simp;try rfl));intro ah hg w4 hbox hb;have aA:=qK (qT HB.out hb);have aB:=qK (hbox);have ay:=qK ((by rw [hg];exact (qZ HB.out):w.heap.size≤ah));have az:=ay;clear HB;have HB:=aA;have aa:=aB;have bJ:=ay;have aL:=az;clear aA aB ay az;clear hb hbox hg)|((with_reducible refine gate_dst (N:=4) rfl ?_);refine box_event ?hg (N:=4) ?hd (cs:=#[.int .i64 ar,.slice aJ an.length aK]) (t:=97) ?hr ?_;(case hd=>rfl);(case hg=>rfl);(case hr=>(go_simp;try rfl));intro ai hg w5 hbox hb;have aA:=qK (qB (g:=ah) (o:=_) aa.out hb);have aB:=qK (qT HB.out hb);have ay:=qK (hbox);have az:=qK ((by rw [hg];exact (qZ HB.out):w.heap.size≤ai));have aC:=az;have aF:=qK ((by rw [hg];exact Nat.ne_of_lt (blk_lt (g:=ah) (o:=_) aa.out):ah ≠ ai));have aD:=qK aF.out.symm;clear aa HB;have aa:=aA;have HB:=aB;have ab:=ay;have bK:=az;have aM:=aC;have ao:=aF;have ap:=aD;clear aA aB ay az aC aF aD hb hbox hg;have cf:=ao.out;have cg:=ap.out;have aU:w5.cell? ⟨ah,0,none⟩=some (.slice aQ aI.length aR):=(qC aa.out 0).trans rfl;have aV:w5.cell? ⟨ah,1,none⟩=some (.slice aT ak.length aS):=(qC aa.out 1).trans rfl;have aW:=qF aa.out 0;have aX:=qF aa.out 1));try go_wp2_with (first|((with_reducible refine gate_dst (N:=3) rfl ?_);refine box_event ?hg (N:=3) ?hd (cs:=#[.slice aQ aI.length aR,.slice aT ak.length aS]) (t:=32) ?hr ?_;(case hd=>rfl);(case hg=>rfl);(case hr=>(go_simp;try rfl));intro ah hg w4 hbox hb;have aA:=qK (qT HB.out hb);have aB:=qK (hbox);have ay:=qK ((by rw [hg];exact (qZ HB.out):w.heap.size≤ah));have az:=ay;clear HB;have HB:=aA;have aa:=aB;have bJ:=ay;have aL:=az;clear aA aB ay az;clear hb hbox hg)|((with_reducible refine gate_dst (N:=4) rfl ?_);refine box_event ?hg (N:=4) ?hd (cs:=#[.int .i64 ar,.slice aJ an.length aK]) (t:=97) ?hr ?_;(case hd=>rfl);(case hg=>rfl);(case hr=>(go_simp;try rfl));intro ai hg w5 hbox hb;have aA:=qK (qB (g:=ah) (o:=_) aa.out hb);have aB:=qK (qT HB.out hb);have ay:=qK (hbox);have az:=qK ((by rw [hg];exact (qZ HB.out):w.heap.size≤ai));have aC:=az;have aF:=qK ((by rw [hg];exact Nat.ne_of_lt (blk_lt (g:=ah) (o:=_) aa.out):ah ≠ ai));have aD:=qK aF.out.symm;clear aa HB;have aa:=aA;have HB:=aB;have ab:=ay;have bK:=az;have aM:=aC;have ao:=aF;have ap:=aD;clear aA aB ay az aC aF aD hb hbox hg;have cf:=ao.out;have cg:=ap.out;have aU:w5.cell? ⟨ah,0,none⟩=some (.slice aQ aI.length aR):=(qC aa.out 0).trans rfl;have aV:w5.cell? ⟨ah,1,none⟩=some (.slice aT ak.length aS):=(qC aa.out 1).trans rfl;have aW:=qF aa.out 0;have aX:=qF aa.out 1)))
 go_loopg [15] k (fun kq cY w'=>∃ (ad:Int),cY=.int .i64 ad∧Aside0 (spec_l10HasAtom.l0 kq l2 ak (ak.length:Int) ad ar an=some r)∧Aside0 (kq≤k)∧Aside0 (w'.heap[ah]?=some (.cells #[(.slice aQ aI.length aR),(.slice aT ak.length aS)] 32 (0,0)))∧Aside0 (w'.heap[ai]?=some (.cells #[.int .i64 ar,(.slice aJ an.length aK)] 97 (0,0)))∧Aside0 (Below w.heap.size w w'))
 case atStart=>exact ⟨(0),(by rfl),H',⟨Nat.le_refl _⟩,⟨aa.out⟩,⟨ab.out⟩,⟨HB.out⟩⟩
 case round =>
  clear H';try clear c1
  try clear c2
  try clear p2
  try clear c6
  try clear aU
  try clear aV
  try clear aW
  try clear aX
  obtain ⟨ad,rfl,HA,bG,aa,ab,HB⟩:=hrel;cases gk with
  | zero=>exact absurd HA.out (by simp [spec_l10HasAtom.l0])
  | succ k1 =>
   have H:=HA.out;clear HA;simp only [spec_l10HasAtom.l0] at H;by_cases c8:ad < (ak.length:Int)
   ·rw [if_pos c8] at H;have ch:decide (ad < (ak.length:Int))=true:=decide_eq_true c8;clear c8;by_cases c9:0≤ad
    ·rw [if_pos c9] at H;have cy:decide (0≤ad)=true:=decide_eq_true c9;clear c9;by_cases c10:ad < (ak.length:Int)
     ·rw [if_pos c10] at H;have ci:decide (ad < (ak.length:Int))=true:=decide_eq_true c10;clear c10;by_cases c11:((rd_T97 ak ad).f0)=ar
      ·rw [if_pos c11] at H;have bL:(((rd_T97 ak ad).f0) == ar)=true:=beq_iff_eq.mpr c11;have bM:(((rd_T97 ak ad).f0) != ar)=false:=bne_eq_false_iff_eq.mpr c11;clear c11;have H':=qK H;clear H;have bj:0≤(ad:Int):=of_decide_eq_true (by assumption);have bk:ad < (ak.length:Int):=of_decide_eq_true (by assumption);obtain ⟨bN,aY,aZ,cc,au,av,aG,aH⟩:=at_T97 bI.out ad bj bk;cases cc
       replace au:=(HB.out.cell (World.block_lt_of_cell? w _ au)).trans au;replace av:=(HB.out.cell (World.block_lt_of_cell? w _ av)).trans av;have ba:=qK aH;have bH:=qK aG;clear aH aG;replace bj:=eq_true bj;replace bk:=eq_true bk;go_wp2_with (first|((with_reducible refine gate_dst (N:=8) rfl ?_);refine box_event ?hg (N:=8) ?hd (cs:=#[.int .i64 0,.slice none 0 0]) (t:=97) ?hr ?_;(case hd=>rfl);(case hg=>rfl);(case hr=>(go_simp;try rfl));intro aj hg bs hbox hb;have aA:=qK (qB (g:=ah) (o:=_) aa.out hb);have aB:=qK (qB (g:=ai) (o:=_) ab.out hb);have ay:=qK (qT HB.out hb);have az:=qK (hbox);have aC:=qK ((by rw [hg];exact (qZ HB.out):w.heap.size≤aj));have aF:=aC;have aD:=qK ((by rw [hg];exact Nat.ne_of_lt (blk_lt (g:=ah) (o:=_) aa.out):ah ≠ aj));have bl:=qK aD.out.symm;have aN:=qK ((by rw [hg];exact Nat.ne_of_lt (blk_lt (g:=ai) (o:=_) ab.out):ai ≠ aj));have bm:=qK aN.out.symm;clear aa ab HB;have aa:=aA;have ab:=aB;have HB:=ay;have ae:=az;have bn:=aC;have aE:=aF;have af:=aD;have al:=bl;have ag:=aN;have am:=bm;clear aA aB ay az aC aF aD bl aN bm hb hbox hg;have bO:=al.out;have bP:=af.out;have bQ:=am.out;have bR:=ag.out;have bb:bs.cell? ⟨aj,0,none⟩=some (.int .i64 0):=(qC ae.out 0).trans rfl;have bc:bs.cell? ⟨aj,1,none⟩=some (.slice none 0 0):=(qC ae.out 1).trans rfl;have bd:=qF ae.out 0;have be:=qF ae.out 1;have bS:=ap.out;have bT:=ao.out;have bf:bs.cell? ⟨ai,0,none⟩=some (.int .i64 ar):=(qC ab.out 0).trans rfl;have bg:bs.cell? ⟨ai,1,none⟩=some (.slice aJ an.length aK):=(qC ab.out 1).trans rfl;have bh:=qF ab.out 0;have bi:=qF ab.out 1))
       repeat (go_quiet (first|((with_reducible refine gate_dst (N:=8) rfl ?_);refine box_event ?hg (N:=8) ?hd (cs:=#[.int .i64 0,.slice none 0 0]) (t:=97) ?hr ?_;(case hd=>rfl);(case hg=>rfl);(case hr=>(go_simp;try rfl));intro aj hg bs hbox hb;have aA:=qK (qB (g:=ah) (o:=_) aa.out hb);have aB:=qK (qB (g:=ai) (o:=_) ab.out hb);have ay:=qK (qT HB.out hb);have az:=qK (hbox);have aC:=qK ((by rw [hg];exact (qZ HB.out):w.heap.size≤aj));have aF:=aC;have aD:=qK ((by rw [hg];exact Nat.ne_of_lt (blk_lt (g:=ah) (o:=_) aa.out):ah ≠ aj));have bl:=qK aD.out.symm;have aN:=qK ((by rw [hg];exact Nat.ne_of_lt (blk_lt (g:=ai) (o:=_) ab.out):ai ≠ aj));have bm:=qK aN.out.symm;clear aa ab HB;have aa:=aA;have ab:=aB;have HB:=ay;have ae:=az;have bn:=aC;have aE:=aF;have af:=aD;have al:=bl;have ag:=aN;have am:=bm;clear aA aB ay az aC aF aD bl aN bm hb hbox hg;have bO:=al.out;have bP:=af.out;have bQ:=am.out;have bR:=ag.out;have bb:bs.cell? ⟨aj,0,none⟩=some (.int .i64 0):=(qC ae.out 0).trans rfl;have bc:bs.cell? ⟨aj,1,none⟩=some (.slice none 0 0):=(qC ae.out 1).trans rfl;have bd:=qF ae.out 0;have be:=qF ae.out 1;have bS:=ap.out;have bT:=ao.out;have bf:bs.cell? ⟨ai,0,none⟩=some (.int .i64 ar):=(qC ab.out 0).trans rfl;have bg:bs.cell? ⟨ai,1,none⟩=some (.slice aJ an.length aK):=(qC ab.out 1).trans rfl;have bh:=qF ab.out 0;have bi:=qF ab.out 1));try go_wp2_with (first|((with_reducible refine gate_dst (N:=8) rfl ?_);refine box_event ?hg (N:=8) ?hd (cs:=#[.int .i64 0,.slice none 0 0]) (t:=97) ?hr ?_;(case hd=>rfl);(case hg=>rfl);(case hr=>(go_simp;try rfl));intro aj hg bs hbox hb;have aA:=qK (qB (g:=ah) (o:=_) aa.out hb);have aB:=qK (qB (g:=ai) (o:=_) ab.out hb);have ay:=qK (qT HB.out hb);have az:=qK (hbox);have aC:=aC;have aF:=aC;have aD:=qK ((by rw [hg];exact Nat.ne_of_lt (blk_lt (g:=ah) (o:=_) aa.out):ah ≠ aj));have bl:=qK aD.out.symm;have aN:=qK ((by rw [hg];exact Nat.ne_of_lt (blk_lt (g:=ai) (o:=_) ab.out):ai ≠ aj));have bm:=qK aN.out.symm;clear aa ab HB;have aa:=aA;have ab:=aB;have HB:=ay;have ae:=az;have bn:=aC;have aE:=aF;have af:=aD;have al:=bl;have ag:=aN;have am:=bm;clear aA aB ay az aC aF aD bl aN bm hb hbox hg;have bO:=al.out;have bP:=af.out;have bQ:=am.out;have bR:=ag.out;have bb:bs.cell? ⟨aj,0,none⟩=some (.int .i64 0):=(qC ae.out 0).trans rfl;have bc:bs.cell? ⟨aj,1,none⟩=some (.slice none 0 0):=(qC ae.out 1).trans rfl;have bd:=qF ae.out 0;have be:=qF ae.out 1;have bS:=ap.out;have bT:=ao.out;have bf:bs.cell? ⟨ai,0,none⟩=some (.int .i64 ar):=(qC ab.out 0).trans rfl;have bg:bs.cell? ⟨ai,1,none⟩=some (.slice aJ an.length aK):=(qC ab.out 1).trans rfl;have bh:=qF ab.out 0;have bi:=qF ab.out 1)))
       go_loopg [9,27] k1 (fun kq v9 cZ w'=>∃ (bD:Bool) (ac:Int),v9=.bool bD∧cZ=.int .i64 ac∧Aside0 (spec_l10HasAtom.l1 kq l2 bD ak (ak.length:Int) ad an (an.length:Int) ac ar an ((rd_T97 ak ad).f0) ((rd_T97 ak ad).f1)=some r)∧Aside0 (kq≤k1)∧Aside0 (w'.heap[ah]?=some (.cells #[(.slice aQ aI.length aR),(.slice (some bN) ak.length aS)] 32 (0,0)))∧Aside0 (w'.heap[ai]?=some (.cells #[.int .i64 ar,(.slice aJ an.length aK)] 97 (0,0)))∧Aside0 (w'.heap[aj]?=some (.cells #[.int .i64 ((rd_T97 ak ad).f0),(.slice aY ((rd_T97 ak ad).f1).length aZ)] 97 (0,0)))∧Aside0 (Below w.heap.size w w'))
       case atStart=>exact ⟨(true),(0),(by rfl),(by rfl),H',⟨Nat.le_refl _⟩,⟨by (with_reducible repeat (first|refine qN ?_ _|refine qW ?_|refine qL ?_ _));refine qR ?_ af.out _;(with_reducible repeat (first|refine qN ?_ _|refine qW ?_|refine qL ?_ _));refine qR ?_ af.out _;(with_reducible repeat (first|refine qN ?_ _|refine qW ?_|refine qL ?_ _));exact aa.out⟩,⟨by (with_reducible repeat (first|refine qN ?_ _|refine qW ?_|refine qL ?_ _));refine qR ?_ ag.out _;(with_reducible repeat (first|refine qN ?_ _|refine qW ?_|refine qL ?_ _));refine qR ?_ ag.out _;(with_reducible repeat (first|refine qN ?_ _|refine qW ?_|refine qL ?_ _));exact ab.out⟩,⟨by (with_reducible repeat (first|refine qN ?_ _|refine qW ?_|refine qL ?_ _));refine qP (cs:=#[.int .i64 ((rd_T97 ak ad).f0),.slice none 0 0]) ?_ 1 _ rfl;(with_reducible repeat (first|refine qN ?_ _|refine qW ?_|refine qL ?_ _));refine qP (cs:=#[.int .i64 0,.slice none 0 0]) ?_ 0 _ rfl;(with_reducible repeat (first|refine qN ?_ _|refine qW ?_|refine qL ?_ _));exact ae.out⟩,⟨by repeat (first|(with_reducible first|exact HB.out|apply qA|apply qD|apply qO|refine qS ?_ aL.out|refine qS ?_ aM.out|refine qS ?_ aE.out)|exact HB.out)⟩⟩
       case round =>
        clear H';try clear c1
        try clear c2
        try clear p2
        try clear c3
        try clear p3
        try clear q3
        try clear hx3
        try clear c6
        try clear c8
        try clear ch
        try clear c9
        try clear cy
        try clear c10
        try clear ci
        try clear c11
        try clear bL
        try clear bM
        try clear c13
        try clear c14
        try clear c16
        try clear bb
        try clear bc
        try clear bf
        try clear bg
        try clear aU
        try clear aV
        try clear bd
        try clear be
        try clear bh
        try clear bi
        try clear aW
        try clear aX
        try clear au
        try clear av
        try clear p2
        try clear bj
        try clear bk
        obtain ⟨bD,ac,rfl,rfl,HA,bU,aa,ab,ae,HB⟩:=hrel;cases gk with
        | zero=>exact absurd HA.out (by simp [spec_l10HasAtom.l1])
        | succ k2 =>
         have H:=HA.out;clear HA;simp only [spec_l10HasAtom.l1] at H;by_cases c18:ac < (an.length:Int)
         ·rw [if_pos c18] at H;have cj:decide (ac < (an.length:Int))=true:=decide_eq_true c18;clear c18;by_cases c19:0≤ac
          ·rw [if_pos c19] at H;have cH:decide (0≤ac)=true:=decide_eq_true c19;clear c19;by_cases c20:ac < (an.length:Int)
           ·rw [if_pos c20] at H;have cI:decide (ac < (an.length:Int))=true:=decide_eq_true c20;clear c20;by_cases c21:(rd an ac) < (l2.length:Int)
            ·rw [if_pos c21] at H;have ck:decide ((rd an ac) < (l2.length:Int))=true:=decide_eq_true c21;clear c21;by_cases c22:0≤(rd an ac)
             ·rw [if_pos c22] at H;have cJ:decide (0≤(rd an ac))=true:=decide_eq_true c22;clear c22;by_cases c23:ac < (((rd_T97 ak ad).f1).length:Int)
              ·rw [if_pos c23] at H;have cK:decide (ac < (((rd_T97 ak ad).f1).length:Int))=true:=decide_eq_true c23;clear c23;by_cases c24:(rd l2 (rd an ac))=(rd ((rd_T97 ak ad).f1) ac)
               ·rw [if_pos c24] at H;have cl:((rd l2 (rd an ac)) == (rd ((rd_T97 ak ad).f1) ac))=true:=beq_iff_eq.mpr c24;have cm:((rd l2 (rd an ac)) != (rd ((rd_T97 ak ad).f1) ac))=false:=bne_eq_false_iff_eq.mpr c24;clear c24;have H':=qK H;clear H;have aO:0≤(ac:Int):=of_decide_eq_true (by assumption);have aP:ac < (an.length:Int):=of_decide_eq_true (by assumption);obtain ⟨bV,bF,aq⟩:=Kd.at_int bE.out ac aO aP;cases bF
                replace aq:=(HB.out.cell (World.block_lt_of_cell? w _ aq)).trans aq;replace aO:=eq_true aO;replace aP:=eq_true aP;have bo:0≤((rd an ac):Int):=of_decide_eq_true (by assumption);have bp:(rd an ac) < (l2.length:Int):=of_decide_eq_true (by assumption);obtain ⟨cn,cd,aw⟩:=Kd.at_int cG.out (rd an ac) bo bp;cases cd
                replace aw:=(HB.out.cell (World.block_lt_of_cell? w _ aw)).trans aw;replace bo:=eq_true bo;replace bp:=eq_true bp;have cM:=al.out;have cO:=af.out;have cP:=am.out;have cQ:=ag.out;have cp:wr.cell? ⟨aj,0,none⟩=some (.int .i64 ((rd_T97 ak ad).f0)):=(qC ae.out 0).trans rfl;have cq:wr.cell? ⟨aj,1,none⟩=some (.slice aY ((rd_T97 ak ad).f1).length aZ):=(qC ae.out 1).trans rfl;have cr:=qF ae.out 0;have ct:=qF ae.out 1;have bq:0≤(ac:Int):=of_decide_eq_true (by assumption);have br:ac < (((rd_T97 ak ad).f1).length:Int):=of_decide_eq_true (by assumption);obtain ⟨co,ce,ax⟩:=Kd.at_int ba.out ac bq br;cases ce
                replace ax:=(HB.out.cell (World.block_lt_of_cell? w _ ax)).trans ax;replace bq:=eq_true bq;replace br:=eq_true br;go_wp2
                repeat (go_quiet (fail);try go_wp2)
                go_roundg k2
                case measure=>have:=bG.out;have:=bU.out;omega
                case rel=>exact ⟨(bD),(wrap64 (ac + 1)),(by rfl),(by rfl),H',⟨by have:=bG.out;have:=bU.out;omega⟩,⟨aa.out⟩,⟨ab.out⟩,⟨ae.out⟩,⟨by repeat (first|(with_reducible first|exact HB.out|apply qA|apply qD|apply qO|refine qS ?_ aL.out|refine qS ?_ aM.out|refine qS ?_ aE.out)|exact HB.out)⟩⟩
               ·rw [if_neg c24] at H;have cl:((rd l2 (rd an ac)) == (rd ((rd_T97 ak ad).f1) ac))=false:=beq_eq_false_iff_ne.mpr c24;have cm:((rd l2 (rd an ac)) != (rd ((rd_T97 ak ad).f1) ac))=true:=bne_iff_ne.mpr c24;have H':=qK H;clear H;have aO:0≤(ac:Int):=of_decide_eq_true (by assumption);have aP:ac < (an.length:Int):=of_decide_eq_true (by assumption);obtain ⟨bV,bF,aq⟩:=Kd.at_int bE.out ac aO aP;cases bF
                replace aq:=(HB.out.cell (World.block_lt_of_cell? w _ aq)).trans aq;replace aO:=eq_true aO;replace aP:=eq_true aP;have bo:0≤((rd an ac):Int):=of_decide_eq_true (by assumption);have bp:(rd an ac) < (l2.length:Int):=of_decide_eq_true (by assumption);obtain ⟨cn,cd,aw⟩:=Kd.at_int cG.out (rd an ac) bo bp;cases cd
                replace aw:=(HB.out.cell (World.block_lt_of_cell? w _ aw)).trans aw;replace bo:=eq_true bo;replace bp:=eq_true bp;have cR:=al.out;have cS:=af.out;have cT:=am.out;have cU:=ag.out;have cu:wr.cell? ⟨aj,0,none⟩=some (.int .i64 ((rd_T97 ak ad).f0)):=(qC ae.out 0).trans rfl;have cv:wr.cell? ⟨aj,1,none⟩=some (.slice aY ((rd_T97 ak ad).f1).length aZ):=(qC ae.out 1).trans rfl;have cw:=qF ae.out 0;have cx:=qF ae.out 1;have bq:0≤(ac:Int):=of_decide_eq_true (by assumption);have br:ac < (((rd_T97 ak ad).f1).length:Int):=of_decide_eq_true (by assumption);obtain ⟨co,ce,ax⟩:=Kd.at_int ba.out ac bq br;cases ce
                replace ax:=(HB.out.cell (World.block_lt_of_cell? w _ ax)).trans ax;replace bq:=eq_true bq;replace br:=eq_true br;go_wp2
                repeat (go_quiet (fail);try go_wp2)
                go_roundg k2
                case measure=>have:=bG.out;have:=bU.out;omega
                case rel=>exact ⟨(false),(wrap64 (ac + 1)),(by rfl),(by rfl),H',⟨by have:=bG.out;have:=bU.out;omega⟩,⟨aa.out⟩,⟨ab.out⟩,⟨ae.out⟩,⟨by repeat (first|(with_reducible first|exact HB.out|apply qA|apply qD|apply qO|refine qS ?_ aL.out|refine qS ?_ aM.out|refine qS ?_ aE.out)|exact HB.out)⟩⟩
              ·rw [if_neg c23] at H;exact absurd H (by simp)
             ·rw [if_neg c22] at H;exact absurd H (by simp)
            ·rw [if_neg c21] at H;have ck:decide ((rd an ac) < (l2.length:Int))=false:=decide_eq_false c21;clear c21;have H':=qK H;clear H;have aO:0≤(ac:Int):=of_decide_eq_true (by assumption);have aP:ac < (an.length:Int):=of_decide_eq_true (by assumption);obtain ⟨bV,bF,aq⟩:=Kd.at_int bE.out ac aO aP;cases bF
             replace aq:=(HB.out.cell (World.block_lt_of_cell? w _ aq)).trans aq;replace aO:=eq_true aO;replace aP:=eq_true aP;go_wp2
             repeat (go_quiet (fail);try go_wp2)
             go_roundg k2
             case measure=>have:=bG.out;have:=bU.out;omega
             case rel=>exact ⟨(bD),(wrap64 (ac + 1)),(by rfl),(by rfl),H',⟨by have:=bG.out;have:=bU.out;omega⟩,⟨aa.out⟩,⟨ab.out⟩,⟨ae.out⟩,⟨by repeat (first|(with_reducible first|exact HB.out|apply qA|apply qD|apply qO|refine qS ?_ aL.out|refine qS ?_ aM.out|refine qS ?_ aE.out)|exact HB.out)⟩⟩
           ·rw [if_neg c20] at H;exact absurd H (by simp)
          ·rw [if_neg c19] at H;exact absurd H (by simp)
         ·rw [if_neg c18] at H;have cj:decide (ac < (an.length:Int))=false:=decide_eq_false c18;clear c18;by_cases c31:bD=true
          ·subst c31;have H1:(some true)=some r:=by rw [if_pos rfl] at H;exact H
           clear H;have H:=H1;clear H1;obtain rfl:=Option.some.inj H;go_wp2
           repeat (go_quiet (fail);try go_wp2)
           go_ret
           exact ⟨by rfl,HB.out⟩
          ·replace c31:=Bool.eq_false_iff.mpr c31;subst c31;have H1:(spec_l10HasAtom.l0 k2 l2 ak (ak.length:Int) (wrap64 (ad + 1)) ar an)=some r:=by rw [if_neg (show ¬ (false=true) by decide)] at H;exact H
           clear H;have H:=H1;clear H1;have H':=qK H;clear H;go_wp2
           repeat (go_quiet (fail);try go_wp2)
           go_roundg k2
           case measure=>have:=bG.out;have:=bU.out;omega
           case rel=>exact ⟨(wrap64 (ad + 1)),(by rfl),H',⟨by have:=bG.out;have:=bU.out;omega⟩,⟨aa.out⟩,⟨ab.out⟩,⟨HB.out⟩⟩
      ·rw [if_neg c11] at H;have bL:(((rd_T97 ak ad).f0) == ar)=false:=beq_eq_false_iff_ne.mpr c11;have bM:(((rd_T97 ak ad).f0) != ar)=true:=bne_iff_ne.mpr c11;have H':=qK H;clear H;have bj:0≤(ad:Int):=of_decide_eq_true (by assumption);have bk:ad < (ak.length:Int):=of_decide_eq_true (by assumption);obtain ⟨bN,aY,aZ,cc,au,av,aG,aH⟩:=at_T97 bI.out ad bj bk;cases cc
       replace au:=(HB.out.cell (World.block_lt_of_cell? w _ au)).trans au;replace av:=(HB.out.cell (World.block_lt_of_cell? w _ av)).trans av;have ba:=qK aH;have bH:=qK aG;clear aH aG;replace bj:=eq_true bj;replace bk:=eq_true bk;go_wp2_with (first|((with_reducible refine gate_dst (N:=8) rfl ?_);refine box_event ?hg (N:=8) ?hd (cs:=#[.int .i64 0,.slice none 0 0]) (t:=97) ?hr ?_;(case hd=>rfl);(case hg=>rfl);(case hr=>(go_simp;try rfl));intro aj hg bt hbox hb;have aA:=qK (qB (g:=ah) (o:=_) aa.out hb);have aB:=qK (qB (g:=ai) (o:=_) ab.out hb);have ay:=qK (qT HB.out hb);have az:=qK (hbox);have aC:=qK ((by rw [hg];exact (qZ HB.out):w.heap.size≤aj));have aF:=aC;have aD:=qK ((by rw [hg];exact Nat.ne_of_lt (blk_lt (g:=ah) (o:=_) aa.out):ah ≠ aj));have bl:=qK aD.out.symm;have aN:=qK ((by rw [hg];exact Nat.ne_of_lt (blk_lt (g:=ai) (o:=_) ab.out):ai ≠ aj));have bm:=qK aN.out.symm;clear aa ab HB;have aa:=aA;have ab:=aB;have HB:=ay;have ae:=az;have bn:=aC;have aE:=aF;have af:=aD;have al:=bl;have ag:=aN;have am:=bm;clear aA aB ay az aC aF aD bl aN bm hb hbox hg;have bW:=al.out;have bX:=af.out;have bY:=am.out;have bZ:=ag.out;have bu:bt.cell? ⟨aj,0,none⟩=some (.int .i64 0):=(qC ae.out 0).trans rfl;have bv:bt.cell? ⟨aj,1,none⟩=some (.slice none 0 0):=(qC ae.out 1).trans rfl;have bw:=qF ae.out 0;have bx:=qF ae.out 1;have ca:=ap.out;have cb:=ao.out;have bz:bt.cell? ⟨ai,0,none⟩=some (.int .i64 ar):=(qC ab.out 0).trans rfl;have bA:bt.cell? ⟨ai,1,none⟩=some (.slice aJ an.length aK):=(qC ab.out 1).trans rfl;have bB:=qF ab.out 0;have bC:=qF ab.out 1))
       repeat (go_quiet (first|((with_reducible refine gate_dst (N:=8) rfl ?_);refine box_event ?hg (N:=8) ?hd (cs:=#[.int .i64 0,.slice none 0 0]) (t:=97) ?hr ?_;(case hd=>rfl);(case hg=>rfl);(case hr=>(go_simp;try rfl));intro aj hg bt hbox hb;have aA:=qK (qB (g:=ah) (o:=_) aa.out hb);have aB:=qK (qB (g:=ai) (o:=_) ab.out hb);have ay:=qK (qT HB.out hb);have az:=qK (hbox);have aC:=qK ((by rw [hg];exact (qZ HB.out):w.heap.size≤aj));have aF:=aC;have aD:=qK ((by rw [hg];exact Nat.ne_of_lt (blk_lt (g:=ah) (o:=_) aa.out):ah ≠ aj));have bl:=qK aD.out.symm;have aN:=qK ((by rw [hg];exact Nat.ne_of_lt (blk_lt (g:=ai) (o:=_) ab.out):ai ≠ aj));have bm:=qK aN.out.symm;clear aa ab HB;have aa:=aA;have ab:=aB;have HB:=ay;have ae:=az;have bn:=aC;have aE:=aF;have af:=aD;have al:=bl;have ag:=aN;have am:=bm;clear aA aB ay az aC aF aD bl aN bm hb hbox hg;have bW:=al.out;have bX:=af.out;have bY:=am.out;have bZ:=ag.out;have bu:bt.cell? ⟨aj,0,none⟩=some (.int .i64 0):=(qC ae.out 0).trans rfl;have bv:bt.cell? ⟨aj,1,none⟩=some (.slice none 0 0):=(qC ae.out 1).trans rfl;have bw:=qF ae.out 0;have bx:=qF ae.out 1;have ca:=ap.out;have cb:=ao.out;have bz:bt.cell? ⟨ai,0,none⟩=some (.int .i64 ar):=(qC ab.out 0).trans rfl;have bA:bt.cell? ⟨ai,1,none⟩=some (.slice aJ an.length aK):=(qC ab.out 1).trans rfl;have bB:=qF ab.out 0;have bC:=qF ab.out 1));try go_wp2_with (first|((with_reducible refine gate_dst (N:=8) rfl ?_);refine box_event ?hg (N:=8) ?hd (cs:=#[.int .i64 0,.slice none 0 0]) (t:=97) ?hr ?_;(case hd=>rfl);(case hg=>rfl);(case hr=>(go_simp;try rfl));intro aj hg bt hbox hb;have aA:=qK (qB (g:=ah) (o:=_) aa.out hb);have aB:=qK (qB (g:=ai) (o:=_) ab.out hb);have ay:=qK (qT HB.out hb);have az:=qK (hbox);have aC:=aC;have aF:=aC;have aD:=qK ((by rw [hg];exact Nat.ne_of_lt (blk_lt (g:=ah) (o:=_) aa.out):ah ≠ aj));have bl:=qK aD.out.symm;have aN:=qK ((by rw [hg];exact Nat.ne_of_lt (blk_lt (g:=ai) (o:=_) ab.out):ai ≠ aj));have bm:=qK aN.out.symm;clear aa ab HB;have aa:=aA;have ab:=aB;have HB:=ay;have ae:=az;have bn:=aC;have aE:=aF;have af:=aD;have al:=bl;have ag:=aN;have am:=bm;clear aA aB ay az aC aF aD bl aN bm hb hbox hg;have bW:=al.out;have bX:=af.out;have bY:=am.out;have bZ:=ag.out;have bu:bt.cell? ⟨aj,0,none⟩=some (.int .i64 0):=(qC ae.out 0).trans rfl;have bv:bt.cell? ⟨aj,1,none⟩=some (.slice none 0 0):=(qC ae.out 1).trans rfl;have bw:=qF ae.out 0;have bx:=qF ae.out 1;have ca:=ap.out;have cb:=ao.out;have bz:bt.cell? ⟨ai,0,none⟩=some (.int .i64 ar):=(qC ab.out 0).trans rfl;have bA:bt.cell? ⟨ai,1,none⟩=some (.slice aJ an.length aK):=(qC ab.out 1).trans rfl;have bB:=qF ab.out 0;have bC:=qF ab.out 1)))
       go_roundg k1
       case measure=>have:=bG.out;omega
       case rel=>exact ⟨(wrap64 (ad + 1)),(by rfl),H',⟨by have:=bG.out;omega⟩,⟨by (with_reducible repeat (first|refine qN ?_ _|refine qW ?_|refine qL ?_ _));refine qR ?_ af.out _;(with_reducible repeat (first|refine qN ?_ _|refine qW ?_|refine qL ?_ _));refine qR ?_ af.out _;(with_reducible repeat (first|refine qN ?_ _|refine qW ?_|refine qL ?_ _));exact aa.out⟩,⟨by (with_reducible repeat (first|refine qN ?_ _|refine qW ?_|refine qL ?_ _));refine qR ?_ ag.out _;(with_reducible repeat (first|refine qN ?_ _|refine qW ?_|refine qL ?_ _));refine qR ?_ ag.out _;(with_reducible repeat (first|refine qN ?_ _|refine qW ?_|refine qL ?_ _));exact ab.out⟩,⟨by repeat (first|(with_reducible first|exact HB.out|apply qA|apply qD|apply qO|refine qS ?_ aL.out|refine qS ?_ aM.out|refine qS ?_ aE.out)|exact HB.out)⟩⟩
     ·rw [if_neg c10] at H;exact absurd H (by simp)
    ·rw [if_neg c9] at H;exact absurd H (by simp)
   ·rw [if_neg c8] at H;have ch:decide (ad < (ak.length:Int))=false:=decide_eq_false c8;clear c8;obtain rfl:=Option.some.inj H;go_wp2
    repeat (go_quiet (fail);try go_wp2)
    go_ret
    exact ⟨by rfl,HB.out⟩

end Go.Proofs.Ytboligpcbndkjaa.PFnExactCoreOf
