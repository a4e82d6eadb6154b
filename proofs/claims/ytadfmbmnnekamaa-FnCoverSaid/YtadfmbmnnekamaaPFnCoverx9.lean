/-
  A text of this claim's own, printed by a program of the session (wip/tools/xprint.py): functions of the program as Lean functions, each with what its call comes to.
-/
import Derived.Test.YtadfmbmnnekamaaPFnCoverx0
import Derived.Test.YtadfmbmnnekamaaPFnCoverx3
import Derived.Test.YtadfmbmnnekamaaPFnCoverx6
import Derived.Test.YtadfmbmnnekamaaPFnCoverx7
import Derived.Test.YtadfmbmnnekamaaPFnCoverx8
namespace Go.Proofs.Ytadfmbmnnekamaa.PFnCover
open Go.Proofs.YtadfmbmnnekamaaW.PrintWords renaming pw_below_drewN → qD, blk_cell → qC, below_drew1 → qO, below_alloc → qA, blk_frozen → qF, below_set → qS, blk_drewN → qN, blk_alloc → qL, blk_drew → qW, below_size → qZ, below_step → qT, blk_below → qB, blk_far → qR, blk_put → qP
open Go.Proofs.YtadfmbmnnekamaaW.PrintWords.Aside0 renaming mk → qK
open Bool renaming true → Y, false → Z
open List renaming setIfInBounds_toArray → sIb, set_cons_zero → sZ, set_cons_succ → sS, map_toArray → mT, map_cons → mC, map_nil → mN, length_drop → lD, length_take → lT
open Go.Proofs.YtadfmbmnnekamaaW.PrintWords.Kd renaming C_alloc → cL, C_drewN → cN, C_drew → cW, C_below → cB, R_alloc → rL, R_drewN → rN, R_drew → rW, R_below → rB
open Go.RowKit Go.Proofs.YtadfmbmnnekamaaW.PrintWords Go.Proofs.YtadfmbmnnekamaaW.PrintLast Go.Proofs.YtadfmbmnnekamaaW.PrintMore
attribute [local go_sem] max2_int min2_int max_two min_two max_three min_three max_four min_four   -- for this text's walks alone
set_option linter.unusedVariables false
set_option linter.unusedSimpArgs false

/-! ### laws_FnCover: function 4 -/
mutual
def laws_FnCover.l0 : Nat→List Int→List (S37)→Int→List (S37)→Bool→List (S37)→Int→Int→Option (Bool)
 | 0,_,_,_,_,_,_,_,_=>none
 | k + 1,x1,x5,x6,x7,x8,x9,x64,x65=>if x65 < x64 then (if 0≤x65 then (if x65 < (x7.length:Int) then (if x65 < (x9.length:Int) then ((laws_sameInts.f k ((rd_T37 x7 x65).f0) ((rd_T37 x9 x65).f0)).bind fun t466=>(if t466=true then ((laws_sameInts.f k ((rd_T37 x7 x65).f1) ((rd_T37 x9 x65).f1)).bind fun t469=>(if t469=true then (laws_FnCover.l0 k x1 x5 x6 x7 x8 x9 x64 (wrap64 (x65 + 1))) else (none))) else (none))) else (none)) else (none)) else (none)) else (if x8=true then ((impl_SameDepends.f k x5 x7 x6).bind fun bt470=>(if bt470.2=true then (if bt470.1=true then (laws_FnCover.l1 k x1 x6 x7 x7 (x7.length:Int) 0) else (none)) else (none))) else ((spec_DrawSameDepends.f k x1).bind fun bt519=>((impl_SameDepends.f k bt519.1 bt519.2.1 bt519.2.2).bind fun bt526=>((spec_SameDepends.f k bt519.1 bt519.2.1 bt519.2.2).bind fun bt528=>(if (bt526.2 == bt528.2)=true then (some (bt526.1 == bt528.1)) else (none))))))
def laws_FnCover.l1 : Nat→List Int→Int→List (S37)→List (S37)→Int→Int→Option (Bool)
 | 0,_,_,_,_,_,_=>none
 | k + 1,x1,x6,x7,x109,x110,x111=>if x111 < x110 then (if 0≤x111 then (if x111 < (x109.length:Int) then ((some (([]:List (S37)):List (S37))).bind fun y474=>(if x111≤(x7.length:Int) then ((some (x7.take (x111:Int).toNat:List (S37))).bind fun y477=>(if y474.length + y477.length < 2932031007402 then ((some (y474 ++ y477:List (S37))).bind fun y482=>(if 0≤(wrap64 (x111 + 1)) then (if (wrap64 (x111 + 1))≤(x7.length:Int) then ((some (x7.drop ((wrap64 (x111 + 1)):Int).toNat:List (S37))).bind fun y485=>(if y482.length + y485.length < 2932031007402 then ((impl_Implies.f k (y482 ++ y485) x6 ((rd_T37 x109 x111).f0) ((rd_T37 x109 x111).f1)).bind fun bt493=>(if bt493.2=true then (if bt493.1=true then (none) else (if (((rd_T37 x109 x111).f1).length:Int)=1 then (laws_FnCover.l2 k x1 x6 x7 x109 x110 x111 (((rd_T37 x109 x111).f0).length:Int) 0 ((rd_T37 x109 x111).f0) ((rd_T37 x109 x111).f1)) else (none))) else (none))) else (none))) else (none)) else (none))) else (none))) else (none))) else (none)) else (none)) else ((spec_DrawSameDepends.f k x1).bind fun bt508=>((impl_SameDepends.f k bt508.1 bt508.2.1 bt508.2.2).bind fun bt515=>((spec_SameDepends.f k bt508.1 bt508.2.1 bt508.2.2).bind fun bt517=>(if (bt515.2 == bt517.2)=true then (some (bt515.1 == bt517.1)) else (none)))))
def laws_FnCover.l2 : Nat→List Int→Int→List (S37)→List (S37)→Int→Int→Int→Int→List Int→List Int→Option (Bool)
 | 0,_,_,_,_,_,_,_,_,_,_=>none
 | k + 1,x1,x6,x7,x109,x110,x111,x146,x147,x474000,x474001=>if x147 < x146 then ((some (([]:List Int):List Int)).bind fun y495=>(if 0≤x147 then (if x147≤(x474000.length:Int) then (if y495.length + (x474000.take (x147:Int).toNat).length < 17592186044416 then ((some (y495 ++ (x474000.take (x147:Int).toNat):List Int)).bind fun y499=>(if 0≤(wrap64 (x147 + 1)) then (if (wrap64 (x147 + 1))≤(x474000.length:Int) then (if y499.length + (x474000.drop ((wrap64 (x147 + 1)):Int).toNat).length < 17592186044416 then ((impl_Implies.f k x7 x6 (y499 ++ (x474000.drop ((wrap64 (x147 + 1)):Int).toNat)) x474001).bind fun bt506=>(if bt506.2=true then (if bt506.1=true then (none) else (laws_FnCover.l2 k x1 x6 x7 x109 x110 x111 x146 (wrap64 (x147 + 1)) x474000 x474001)) else (none))) else (none)) else (none)) else (none))) else (none)) else (none)) else (none))) else (laws_FnCover.l1 k x1 x6 x7 x109 x110 (wrap64 (x111 + 1)))
end
def laws_FnCover.f (k:Nat) (l0:List Int) (l1:List Int):Option (Bool):=if (wrap64 ((l0.length:Int) + (l1.length:Int))) > 1048576 then (some true) else ((spec_DrawCoverOf.f k l0).bind fun bt452=>((impl_CoverOf.f k bt452.1 bt452.2).bind fun bt456=>((spec_CoverOf.f k bt452.1 bt452.2).bind fun bt460=>(if (bt456.2 != bt460.2)=true then (none) else (if (bt456.1.length:Int)=(bt460.1.length:Int) then (laws_FnCover.l0 k l1 bt452.1 bt452.2 bt456.1 bt456.2 bt460.1 (bt456.1.length:Int) 0) else (none))))))
theorem laws_FnCover.mono_l : ∀ k,(∀ y0 y1 y2 y3 y4 y5 y6 y7,LeO (laws_FnCover.l0 k y0 y1 y2 y3 y4 y5 y6 y7) (laws_FnCover.l0 (k + 1) y0 y1 y2 y3 y4 y5 y6 y7))∧(∀ y0 y1 y2 y3 y4 y5,LeO (laws_FnCover.l1 k y0 y1 y2 y3 y4 y5) (laws_FnCover.l1 (k + 1) y0 y1 y2 y3 y4 y5))∧(∀ y0 y1 y2 y3 y4 y5 y6 y7 y8 y9,LeO (laws_FnCover.l2 k y0 y1 y2 y3 y4 y5 y6 y7 y8 y9) (laws_FnCover.l2 (k + 1) y0 y1 y2 y3 y4 y5 y6 y7 y8 y9))
 | 0=>⟨fun _ _ _ _ _ _ _ _ r h=>by simp [laws_FnCover.l0] at h,fun _ _ _ _ _ _ r h=>by simp [laws_FnCover.l1] at h,fun _ _ _ _ _ _ _ _ _ _ r h=>by simp [laws_FnCover.l2] at h⟩
 | k + 1=>by
  obtain ⟨ih0,ih1,ih2⟩:=laws_FnCover.mono_l k;refine ⟨?_,?_,?_⟩
  ·intro y0 y1 y2 y3 y4 y5 y6 y7;unfold laws_FnCover.l0
   repeat' first
   | (with_reducible exact ih0 _ _ _ _ _ _ _ _)
   | (with_reducible exact ih1 _ _ _ _ _ _)
   | (with_reducible exact ih2 _ _ _ _ _ _ _ _ _ _)
   | (with_reducible exact impl_CoverOf.mono _ _ _)
   | (with_reducible exact impl_Implies.mono _ _ _ _ _)
   | (with_reducible exact impl_SameDepends.mono _ _ _ _)
   | (with_reducible exact laws_sameInts.mono _ _ _)
   | (with_reducible exact spec_CoverOf.mono _ _ _)
   | (with_reducible exact spec_DrawCoverOf.mono _ _)
   | (with_reducible exact spec_DrawSameDepends.mono _ _)
   | (with_reducible exact spec_SameDepends.mono _ _ _ _)
   | (with_reducible exact LeO.refl _)
   | (with_reducible exact LeO.none _)
   | (with_reducible refine LeO.ite ?_ ?_)
   | (with_reducible refine LeO.bind ?_ (fun _=>?_))
   | exact ih0 _ _ _ _ _ _ _ _
   | exact ih1 _ _ _ _ _ _
   | exact ih2 _ _ _ _ _ _ _ _ _ _
   | exact impl_CoverOf.mono _ _ _
   | exact impl_Implies.mono _ _ _ _ _
   | exact impl_SameDepends.mono _ _ _ _
   | exact laws_sameInts.mono _ _ _
   | exact spec_CoverOf.mono _ _ _
   | exact spec_DrawCoverOf.mono _ _
   | exact spec_DrawSameDepends.mono _ _
   | exact spec_SameDepends.mono _ _ _ _
   | exact LeO.none _
   | refine LeO.ite ?_ ?_
   | refine LeO.bind ?_ (fun _=>?_)
  ·intro y0 y1 y2 y3 y4 y5;unfold laws_FnCover.l1
   repeat' first
   | (with_reducible exact ih0 _ _ _ _ _ _ _ _)
   | (with_reducible exact ih1 _ _ _ _ _ _)
   | (with_reducible exact ih2 _ _ _ _ _ _ _ _ _ _)
   | (with_reducible exact impl_CoverOf.mono _ _ _)
   | (with_reducible exact impl_Implies.mono _ _ _ _ _)
   | (with_reducible exact impl_SameDepends.mono _ _ _ _)
   | (with_reducible exact laws_sameInts.mono _ _ _)
   | (with_reducible exact spec_CoverOf.mono _ _ _)
   | (with_reducible exact spec_DrawCoverOf.mono _ _)
   | (with_reducible exact spec_DrawSameDepends.mono _ _)
   | (with_reducible exact spec_SameDepends.mono _ _ _ _)
   | (with_reducible exact LeO.refl _)
   | (with_reducible exact LeO.none _)
   | (with_reducible refine LeO.ite ?_ ?_)
   | (with_reducible refine LeO.bind ?_ (fun _=>?_))
   | exact ih0 _ _ _ _ _ _ _ _
   | exact ih1 _ _ _ _ _ _
   | exact ih2 _ _ _ _ _ _ _ _ _ _
   | exact impl_CoverOf.mono _ _ _
   | exact impl_Implies.mono _ _ _ _ _
   | exact impl_SameDepends.mono _ _ _ _
   | exact laws_sameInts.mono _ _ _
   | exact spec_CoverOf.mono _ _ _
   | exact spec_DrawCoverOf.mono _ _
   | exact spec_DrawSameDepends.mono _ _
   | exact spec_SameDepends.mono _ _ _ _
   | exact LeO.none _
   | refine LeO.ite ?_ ?_
   | refine LeO.bind ?_ (fun _=>?_)
  ·intro y0 y1 y2 y3 y4 y5 y6 y7 y8 y9;unfold laws_FnCover.l2
   repeat' first
   | (with_reducible exact ih0 _ _ _ _ _ _ _ _)
   | (with_reducible exact ih1 _ _ _ _ _ _)
   | (with_reducible exact ih2 _ _ _ _ _ _ _ _ _ _)
   | (with_reducible exact impl_CoverOf.mono _ _ _)
   | (with_reducible exact impl_Implies.mono _ _ _ _ _)
   | (with_reducible exact impl_SameDepends.mono _ _ _ _)
   | (with_reducible exact laws_sameInts.mono _ _ _)
   | (with_reducible exact spec_CoverOf.mono _ _ _)
   | (with_reducible exact spec_DrawCoverOf.mono _ _)
   | (with_reducible exact spec_DrawSameDepends.mono _ _)
   | (with_reducible exact spec_SameDepends.mono _ _ _ _)
   | (with_reducible exact LeO.refl _)
   | (with_reducible exact LeO.none _)
   | (with_reducible refine LeO.ite ?_ ?_)
   | (with_reducible refine LeO.bind ?_ (fun _=>?_))
   | exact ih0 _ _ _ _ _ _ _ _
   | exact ih1 _ _ _ _ _ _
   | exact ih2 _ _ _ _ _ _ _ _ _ _
   | exact impl_CoverOf.mono _ _ _
   | exact impl_Implies.mono _ _ _ _ _
   | exact impl_SameDepends.mono _ _ _ _
   | exact laws_sameInts.mono _ _ _
   | exact spec_CoverOf.mono _ _ _
   | exact spec_DrawCoverOf.mono _ _
   | exact spec_DrawSameDepends.mono _ _
   | exact spec_SameDepends.mono _ _ _ _
   | exact LeO.none _
   | refine LeO.ite ?_ ?_
   | refine LeO.bind ?_ (fun _=>?_)
theorem laws_FnCover.mono : ∀ a0 a1 k,LeO (laws_FnCover.f k a0 a1) (laws_FnCover.f (k + 1) a0 a1):=by
 intro a0 a1 k;obtain ⟨ih0,ih1,ih2⟩:=laws_FnCover.mono_l k;unfold laws_FnCover.f
 repeat' first
   | (with_reducible exact ih0 _ _ _ _ _ _ _ _)
   | (with_reducible exact ih1 _ _ _ _ _ _)
   | (with_reducible exact ih2 _ _ _ _ _ _ _ _ _ _)
   | (with_reducible exact impl_CoverOf.mono _ _ _)
   | (with_reducible exact impl_Implies.mono _ _ _ _ _)
   | (with_reducible exact impl_SameDepends.mono _ _ _ _)
   | (with_reducible exact laws_sameInts.mono _ _ _)
   | (with_reducible exact spec_CoverOf.mono _ _ _)
   | (with_reducible exact spec_DrawCoverOf.mono _ _)
   | (with_reducible exact spec_DrawSameDepends.mono _ _)
   | (with_reducible exact spec_SameDepends.mono _ _ _ _)
   | (with_reducible exact LeO.refl _)
   | (with_reducible exact LeO.none _)
   | (with_reducible refine LeO.ite ?_ ?_)
   | (with_reducible refine LeO.bind ?_ (fun _=>?_))
   | exact ih0 _ _ _ _ _ _ _ _
   | exact ih1 _ _ _ _ _ _
   | exact ih2 _ _ _ _ _ _ _ _ _ _
   | exact impl_CoverOf.mono _ _ _
   | exact impl_Implies.mono _ _ _ _ _
   | exact impl_SameDepends.mono _ _ _ _
   | exact laws_sameInts.mono _ _ _
   | exact spec_CoverOf.mono _ _ _
   | exact spec_DrawCoverOf.mono _ _
   | exact spec_DrawSameDepends.mono _ _
   | exact spec_SameDepends.mono _ _ _ _
   | exact LeO.none _
   | refine LeO.ite ?_ ?_
   | refine LeO.bind ?_ (fun _=>?_)
def laws_FnCover.T11 : Bool × List (List Nat × List Nat):=(true,[([],[]),([],[]),([0,1],[0,1]),([2],[2]),([3],[3]),([],[]),([],[]),([5,6],[5,6]),([7],[7]),([8],[8]),([4,9],[4,9]),([10],[10]),([11,10],[11]),([12],[12]),([12],[12]),([13,14,12],[12,13,14]),([15,12],[12,15]),([16,12],[12,16]),([12],[12]),([12],[12]),([18,19,12],[12,18,19]),([20,12],[12,20]),([21,12],[12,21]),([17,22,12,12],[12,17,22]),([23,12],[12,23]),([12,24],[12,24])])
def laws_FnCover.B11 : List Nat:=[0,0,3,7,15,0,0,96,224,480,1023,2047,4095,8191,8191,32767,65535,131071,8191,8191,794623,1843199,3940351,8388607,16777215,33554431]
theorem laws_FnCover.tab11 : rtab .any (opsOf Try.f4 11)=laws_FnCover.T11:=by kernel_rfl
theorem laws_FnCover.bits11 : waitsOk laws_FnCover.T11.2 laws_FnCover.B11=true:=by kernel_rfl
def laws_FnCover.T21 : Bool × List (List Nat × List Nat):=(true,[([],[]),([],[]),([],[]),([1,2],[1,2]),([0,3],[0,3]),([],[]),([],[]),([6],[6]),([5,7],[5,7]),([4,8,4],[4,8]),([9,9,0,1,2,3,4,5,6,7,8,9],[9])])
def laws_FnCover.B21 : List Nat:=[0,0,0,6,15,0,0,64,224,511,1023]
theorem laws_FnCover.tab21 : rtab .any (opsOf Try.f4 21)=laws_FnCover.T21:=by kernel_rfl
theorem laws_FnCover.bits21 : waitsOk laws_FnCover.T21.2 laws_FnCover.B21=true:=by kernel_rfl
def laws_FnCover.T28 : Bool × List (List Nat × List Nat):=(true,[([],[]),([],[]),([1],[1]),([],[]),([2,3],[2,3]),([0,4],[0,4]),([],[]),([6],[6]),([],[]),([8],[8]),([7,9],[7,9]),([5,10,5],[5,10]),([11,11,0,1,2,3,4,5,6,7,8,9,10,11],[11])])
def laws_FnCover.B28 : List Nat:=[0,0,2,0,14,31,0,64,0,256,960,2047,4095]
theorem laws_FnCover.tab28 : rtab .any (opsOf Try.f4 28)=laws_FnCover.T28:=by kernel_rfl
theorem laws_FnCover.bits28 : waitsOk laws_FnCover.T28.2 laws_FnCover.B28=true:=by kernel_rfl
set_option maxHeartbeats 8000000 in
set_option maxRecDepth 100000 in
theorem laws_FnCover.calls (k:Nat) (A0:Option Addr) (c0:Nat) (l0:List Int) (A1:Option Addr) (c1:Nat) (l1:List Int) (r:Bool) (w:World) (hr0:Kd.C (Kd.int .u8) w A0 l0.length l0) (hc0:l0.length≤c0) (hr1:Kd.C (Kd.int .u8) w A1 l1.length l1) (hc1:l1.length≤c1) (h:laws_FnCover.f k l0 l1=some r) :
  Calls Try.prog 4 #[.slice A0 l0.length c0,.slice A1 l1.length c1] w fun e w'=>e=.returned (.bool r)∧Below w.heap.size w w':=by
 have hu37:=Try.underlying37;have HR0:=qK hr0;have HC0:=qK hc0;clear hr0 hc0;have HR1:=qK hr1;have HC1:=qK hc1;clear hr1 hc1;have HB:=qK (Below.refl w.heap.size w);have H:(if (wrap64 ((l0.length:Int) + (l1.length:Int))) > 1048576 then (some true) else ((spec_DrawCoverOf.f k l0).bind fun bt452=>((impl_CoverOf.f k bt452.1 bt452.2).bind fun bt456=>((spec_CoverOf.f k bt452.1 bt452.2).bind fun bt460=>(if (bt456.2 != bt460.2)=true then (none) else (if (bt456.1.length:Int)=(bt460.1.length:Int) then (laws_FnCover.l0 k l1 bt452.1 bt452.2 bt456.1 bt456.2 bt460.1 (bt456.1.length:Int) 0) else (none)))))))=some r:=h;clear h;by_cases c3:(wrap64 ((l0.length:Int) + (l1.length:Int))) > 1048576
 ·rw [if_pos c3] at H;have c3b0:decide (1048576 < (wrap64 ((l0.length:Int) + (l1.length:Int))))=true:=decide_eq_true c3;clear c3;obtain rfl:=Option.some.inj H;go_enter Try.func4,Try.ntmps4
  go_wp2
  go_ret
  exact ⟨by first|rfl|(simp [errW_none,errW_some] <;> rfl)|(simp [*,errW_none,errW_some] <;> rfl),by repeat (first|(with_reducible first|exact HB.out|apply qA|apply qD|apply qO)|exact HB.out)⟩
 ·rw [if_neg c3] at H;have c3b0:decide (1048576 < (wrap64 ((l0.length:Int) + (l1.length:Int))))=false:=decide_eq_false c3;clear c3;replace H:=Option.bind_eq_some_iff.mp H;obtain ⟨⟨t452,t453⟩,A40,H⟩:=H;replace H:((impl_CoverOf.f k t452 t453).bind fun bt456=>((spec_CoverOf.f k t452 t453).bind fun bt460=>(if (bt456.2 != bt460.2)=true then (none) else (if (bt456.1.length:Int)=(bt460.1.length:Int) then (laws_FnCover.l0 k l1 t452 t453 bt456.1 bt456.2 bt460.1 (bt456.1.length:Int) 0) else (none)))))=some r:=H;have A4:=qK A40;clear A40;replace H:=Option.bind_eq_some_iff.mp H;obtain ⟨⟨t456,t457⟩,A50,H⟩:=H;replace H:((spec_CoverOf.f k t452 t453).bind fun bt460=>(if (t457 != bt460.2)=true then (none) else (if (t456.length:Int)=(bt460.1.length:Int) then (laws_FnCover.l0 k l1 t452 t453 t456 t457 bt460.1 (t456.length:Int) 0) else (none))))=some r:=H;have A5:=qK A50;clear A50;replace H:=Option.bind_eq_some_iff.mp H;obtain ⟨⟨t460,t463⟩,A60,H⟩:=H;replace H:(if (t457 != t463)=true then (none) else (if (t456.length:Int)=(t460.length:Int) then (laws_FnCover.l0 k l1 t452 t453 t456 t457 t460 (t456.length:Int) 0) else (none)))=some r:=H;have A6:=qK A60;clear A60;by_cases c7:(t457 != t463)=true
  ·rw [if_pos c7] at H;exact absurd H (by simp)
  ·rw [if_neg c7] at H;have c7b0:(t457 != t463)=false:=by simpa using c7
   (try (have c7b1:decide (t457=t463)=true:=by simpa using c7));(try (have c7b2:(t457 == t463)=true:=by simpa using c7));clear c7;by_cases c8:(t456.length:Int)=(t460.length:Int)
   ·rw [if_pos c8] at H;have c8b0:((t456.length:Int) == (t460.length:Int))=true:=beq_iff_eq.mpr c8;have c8b1:((t456.length:Int) != (t460.length:Int))=false:=bne_eq_false_iff_eq.mpr c8;have c8b2:(t456.length == t460.length)=true:=by first|simpa using c8|(simp at c8 ⊢;omega)
    clear c8;have H':=qK H;clear H;go_enter Try.func4,Try.ntmps4
    go_wp2_with (first|((with_reducible refine gate_callee (f:=12) rfl ?_);refine goesL_ (some 38) rfl rfl Try.func12 (by kernel_rfl) rfl #[.slice A0 l0.length c0] rfl (by (try simp only [mT,mC,mN]);first|done|rfl|(simp only [lD,lT];rfl)) ?_;(with_reducible refine (spec_DrawCoverOf.calls k _ _ l0 t452 t453 _ ?side1 ?side2 A4.out).mono ?_);(case side1=>repeat (first|exact HR0.out|(with_reducible first|refine cL ?_ _|refine cN ?_ _|refine cW ?_)));(case side2=>exact HC0.out);rintro e w9 ⟨v454,rfl,ho0,hb⟩;refine ⟨_,rfl,?_⟩;have n0_:=qK (Kd.N_lower (Kd.N_mono (ok':=fun k_=>True) (Kd.S_N (Kd.S_bound ho0)) (fun k_ hk_=>trivial)) (qZ (by repeat (with_reducible first|exact HB.out|apply qA|apply qD|apply qO))));have n1_:=qK (qT (by repeat (with_reducible first|exact HB.out|apply qA|apply qD|apply qO)) hb);clear HB;have HO455:=n0_;have HB:=n1_;clear n0_ n1_;(try clear hb);(try clear hb2);(try clear hk);(try clear hi);(try clear ho0);obtain ⟨Ao10,co10,eo10⟩:=Kd.N_slice HO455.out;subst eo10)|((with_reducible refine gate_callee (f:=8) rfl ?_);refine goesL_ (some 44) rfl rfl Try.func8 (by kernel_rfl) rfl #[.slice Ao10 t452.length co10,.int .i64 t453] rfl (by (try simp only [mT,mC,mN]);first|done|rfl|(simp only [lD,lT];rfl)) ?_;(with_reducible refine (impl_CoverOf.calls k _ _ t452 t453 t456 t457 _ ?side1 ?side2 A5.out).mono ?_);(case side1=>repeat (first|exact (Kd.N_reads' HO455.out).2.2|(with_reducible first|refine cL ?_ _|refine cN ?_ _|refine cW ?_)));(case side2=>exact (Kd.N_reads' HO455.out).2.1);rintro e w11 ⟨v458,rfl,ho0,hb⟩;refine ⟨_,rfl,?_⟩;have n0_:=qK (Kd.N_elder' (by (with_reducible repeat (first|apply Kd.N_alloc|apply Kd.N_drewN|apply Kd.N_drew));exact HO455.out) (Kd.S_base ho0) hb);have n1_:=qK (Kd.N_lower (Kd.N_mono (ok':=fun k_=>some k_ ≠ (.slice Ao10 t452.length co10:Value).ownBlock) (Kd.S_N (Kd.S_bound ho0)) (fun k_ hk_=>(Kd.fresh' (Kd.N_lt (by (with_reducible repeat (first|apply Kd.N_alloc|apply Kd.N_drewN|apply Kd.N_drew));exact HO455.out)) k_ hk_.2.1))) (qZ (by repeat (with_reducible first|exact HB.out|apply qA|apply qD|apply qO))));have n2_:=qK (qT (by repeat (with_reducible first|exact HB.out|apply qA|apply qD|apply qO)) hb);clear HO455;clear HB;have HO455:=n0_;have HO459:=n1_;have HB:=n2_;clear n0_ n1_ n2_;(try clear hb);(try clear hb2);(try clear hk);(try clear hi);(try clear ho0))|((with_reducible refine gate_callee (f:=6) rfl ?_);refine goesL_ (some 50) rfl rfl Try.func6 (by kernel_rfl) rfl #[.slice Ao10 t452.length co10,.int .i64 t453] rfl (by (try simp only [mT,mC,mN]);first|done|rfl|(simp only [lD,lT];rfl)) ?_;(with_reducible refine (spec_CoverOf.calls k _ _ t452 t453 t460 t463 _ ?side1 ?side2 A6.out).mono ?_);(case side1=>repeat (first|exact (Kd.N_reads' HO455.out).2.2|(with_reducible first|refine cL ?_ _|refine cN ?_ _|refine cW ?_)));(case side2=>exact (Kd.N_reads' HO455.out).2.1);rintro e w12 ⟨v461,rfl,ho0,hb⟩;refine ⟨_,rfl,?_⟩;have n0_:=qK (Kd.N_elder' (by (with_reducible repeat (first|apply Kd.N_alloc|apply Kd.N_drewN|apply Kd.N_drew));exact HO455.out) (Kd.N_base ho0) hb);have n1_:=qK (Kd.N_elder' (by (with_reducible repeat (first|apply Kd.N_alloc|apply Kd.N_drewN|apply Kd.N_drew));exact HO459.out) (Kd.N_base ho0) hb);have n2_:=qK (Kd.N_lower (Kd.N_mono (ok':=fun k_=>some k_ ≠ (.slice Ao10 t452.length co10:Value).ownBlock∧some k_ ≠ (v458:Value).ownBlock) ho0 (fun k_ hk_=>⟨(Kd.fresh' (Kd.N_lt (by (with_reducible repeat (first|apply Kd.N_alloc|apply Kd.N_drewN|apply Kd.N_drew));exact HO455.out)) k_ hk_),(Kd.fresh' (Kd.N_lt (by (with_reducible repeat (first|apply Kd.N_alloc|apply Kd.N_drewN|apply Kd.N_drew));exact HO459.out)) k_ hk_)⟩)) (qZ (by repeat (with_reducible first|exact HB.out|apply qA|apply qD|apply qO))));have n3_:=qK (qT (by repeat (with_reducible first|exact HB.out|apply qA|apply qD|apply qO)) hb);clear HO455;clear HO459;clear HB;have HO455:=n0_;have HO459:=n1_;have HO462:=n2_;have HB:=n3_;clear n0_ n1_ n2_ n3_;(try clear hb);(try clear hb2);(try clear hk);(try clear hi);(try clear ho0);obtain ⟨Ao13,co13,eo13⟩:=Kd.N_slice HO459.out;subst eo13;obtain ⟨Ao14,co14,eo14⟩:=Kd.N_slice HO462.out;subst eo14))
    go_loopg [65] k (fun kq v65 w'=>∃ (x65_1:Int),v65=.int .i64 x65_1∧Aside0 (laws_FnCover.l0 kq l1 t452 t453 t456 t457 t460 (t456.length:Int) x65_1=some r)∧Aside0 (kq≤k)∧Aside0 (Kd.N k37 37 w' w.heap.size (fun k_=>some k_ ≠ ((.slice Ao13 t456.length co13):Value).ownBlock∧some k_ ≠ ((.slice Ao14 t460.length co14):Value).ownBlock) (.slice Ao10 t452.length co10) t452)∧Aside0 (Kd.N k37 37 w' w.heap.size (fun k_=>some k_ ≠ ((.slice Ao10 t452.length co10):Value).ownBlock∧some k_ ≠ ((.slice Ao14 t460.length co14):Value).ownBlock) (.slice Ao13 t456.length co13) t456)∧Aside0 (Kd.N k37 37 w' w.heap.size (fun k_=>some k_ ≠ ((.slice Ao10 t452.length co10):Value).ownBlock∧some k_ ≠ ((.slice Ao13 t456.length co13):Value).ownBlock) (.slice Ao14 t460.length co14) t460)∧Aside0 (Below w.heap.size w w'))
    case atStart=>exact ⟨(0),(by first|rfl|(simp;done)|(simp [*];done)),H',⟨Nat.le_refl _⟩,⟨by (with_reducible repeat (first|apply Kd.N_alloc|apply Kd.N_drewN|apply Kd.N_drew));exact Kd.N_mono HO455.out (fun _ hk=>⟨hk.1.2,hk.2⟩)⟩,⟨by (with_reducible repeat (first|apply Kd.N_alloc|apply Kd.N_drewN|apply Kd.N_drew));exact HO459.out⟩,⟨by (with_reducible repeat (first|apply Kd.N_alloc|apply Kd.N_drewN|apply Kd.N_drew));exact HO462.out⟩,⟨by repeat (first|(with_reducible first|exact HB.out|apply qA|apply qD|apply qO)|exact HB.out)⟩⟩
    case round =>
     clear H';try clear c1
     try clear p2
     try clear c3
     try clear c3b0
     try clear c4
     try clear c6
     try clear p6
     try clear c7
     try clear c7b0
     try clear c7b1
     try clear c7b2
     try clear c8
     try clear c8b0
     try clear c8b1
     try clear c8b2
     try clear c12
     obtain ⟨x65_1,rfl,HA,HK1,HO_5,HO_7,HO_9,HB⟩:=hrel;cases gk with
     | zero=>exact absurd HA.out (by simp [laws_FnCover.l0])
     | succ k1 =>
      have H:=HA.out;clear HA;simp only [laws_FnCover.l0] at H;by_cases c15:x65_1 < (t456.length:Int)
      ·rw [if_pos c15] at H;have c15b0:decide (x65_1 < (t456.length:Int))=true:=decide_eq_true c15;clear c15;by_cases c16:0≤x65_1
       ·rw [if_pos c16] at H;have c16b0:decide (0≤x65_1)=true:=decide_eq_true c16;clear c16;by_cases c17:x65_1 < (t456.length:Int)
        ·rw [if_pos c17] at H;have c17b0:decide (x65_1 < (t456.length:Int))=true:=decide_eq_true c17;clear c17;by_cases c18:x65_1 < (t460.length:Int)
         ·rw [if_pos c18] at H;have c18b0:decide (x65_1 < (t460.length:Int))=true:=decide_eq_true c18;clear c18;replace H:=Option.bind_eq_some_iff.mp H;obtain ⟨t466,A190,H⟩:=H;replace H:(if t466=true then ((laws_sameInts.f k1 ((rd_T37 t456 x65_1).f1) ((rd_T37 t460 x65_1).f1)).bind fun t469=>(if t469=true then (laws_FnCover.l0 k1 l1 t452 t453 t456 t457 t460 (t456.length:Int) (wrap64 (x65_1 + 1))) else (none))) else (none))=some r:=H;have A19:=qK A190;clear A190;by_cases c20:t466=true
          ·subst c20;have H1:((laws_sameInts.f k1 ((rd_T37 t456 x65_1).f1) ((rd_T37 t460 x65_1).f1)).bind fun t469=>(if t469=true then (laws_FnCover.l0 k1 l1 t452 t453 t456 t457 t460 (t456.length:Int) (wrap64 (x65_1 + 1))) else (none)))=some r:=by rw [if_pos rfl] at H;exact H
           clear H;have H:=H1;clear H1;replace H:=Option.bind_eq_some_iff.mp H;obtain ⟨t469,A210,H⟩:=H;replace H:(if t469=true then (laws_FnCover.l0 k1 l1 t452 t453 t456 t457 t460 (t456.length:Int) (wrap64 (x65_1 + 1))) else (none))=some r:=H;have A21:=qK A210;clear A210;by_cases c22:t469=true
           ·subst c22;have H1:(laws_FnCover.l0 k1 l1 t452 t453 t456 t457 t460 (t456.length:Int) (wrap64 (x65_1 + 1)))=some r:=by rw [if_pos rfl] at H;exact H
            clear H;have H:=H1;clear H1;have H':=qK H;clear H;try go_wp2
            (try (rw [drewN_self wr];generalize hq_:World.drewN wr _=wr;have n0_:Aside0 (Kd.N k37 37 wr w.heap.size (fun k_=>some k_ ≠ (.slice Ao13 t456.length co13:Value).ownBlock∧some k_ ≠ (.slice Ao14 t460.length co14:Value).ownBlock) (.slice Ao10 t452.length co10) t452):=⟨by rw [← hq_];exact (by (with_reducible repeat (first|apply Kd.N_alloc|apply Kd.N_drewN|apply Kd.N_drew));exact HO_5.out)⟩;have n1_:Aside0 (Kd.N k37 37 wr w.heap.size (fun k_=>some k_ ≠ (.slice Ao10 t452.length co10:Value).ownBlock∧some k_ ≠ (.slice Ao14 t460.length co14:Value).ownBlock) (.slice Ao13 t456.length co13) t456):=⟨by rw [← hq_];exact (by (with_reducible repeat (first|apply Kd.N_alloc|apply Kd.N_drewN|apply Kd.N_drew));exact HO_7.out)⟩;have n2_:Aside0 (Kd.N k37 37 wr w.heap.size (fun k_=>some k_ ≠ (.slice Ao10 t452.length co10:Value).ownBlock∧some k_ ≠ (.slice Ao13 t456.length co13:Value).ownBlock) (.slice Ao14 t460.length co14) t460):=⟨by rw [← hq_];exact (by (with_reducible repeat (first|apply Kd.N_alloc|apply Kd.N_drewN|apply Kd.N_drew));exact HO_9.out)⟩;have n3_:Aside0 (Below w.heap.size w wr):=⟨by rw [← hq_];exact (by repeat (with_reducible first|exact HB.out|apply qA|apply qD|apply qO))⟩;clear HO_5 HO_7 HO_9 HB hq_;have HO_5:=n0_;have HO_7:=n1_;have HO_9:=n2_;have HB:=n3_;clear n0_ n1_ n2_ n3_));have n0_:=qK (Kd.N_drew HO_5.out);have n1_:=qK (Kd.N_drew HO_7.out);have n2_:=qK (Kd.N_drew HO_9.out);have n3_:=qK (qO HB.out);clear HO_5;clear HO_7;clear HO_9;clear HB;have HO_5:=n0_;have HO_7:=n1_;have HO_9:=n2_;have HB:=n3_;clear n0_ n1_ n2_ n3_;have p464:0≤(x65_1:Int):=of_decide_eq_true (by first|(with_reducible assumption)|assumption);have q464:x65_1 < (t456.length:Int):=of_decide_eq_true (by first|(with_reducible assumption)|assumption);obtain ⟨ad464,A464_0,c464_0,A464_1,c464_1,e464,hx464_0,hx464_1,hl464_0,hi464_0,hl464_1,hi464_1⟩:=at_T37 (Kd.N_reads' HO_7.out).2.2 x65_1 p464 q464;cases e464
            obtain ⟨ce464,hce464,hMe464,hcc464⟩:=Kd.N_get HO_7.out z37 x65_1 p464 (by first|exact q464|exact of_decide_eq_true (by first|(with_reducible assumption)|assumption)|(have e_:=(Kd.N_reads' HO_7.out).1;omega));obtain ⟨ua464_0,uc464_0,ua464_1,uc464_1,rfl,ul464_0,ge464_0,ul464_1,ge464_1⟩:=k37_openF hMe464;have hv464_0:=hcc464 0 _ rfl;rw [Nat.add_zero] at hv464_0;replace hv464_0:=Option.some.inj (hv464_0.symm.trans hx464_0);injection hv464_0 with hva_ hvn_ hvc_
            rw [hva_] at ge464_0;rw [hvc_] at ul464_0;have HL464_0:=qK (show Kd.V (Kd.int .i64) 3 _ w.heap.size _ _ ((rd_T37 t456 x65_1).f0) from Kd.V_mk ul464_0 ge464_0);clear hva_ hvn_ hvc_ ge464_0 ul464_0;have hv464_1:=hcc464 1 _ rfl;rw [add_field _ _ 1 (by omega)] at hv464_1;replace hv464_1:=Option.some.inj (hv464_1.symm.trans hx464_1);injection hv464_1 with hva_ hvn_ hvc_
            rw [hva_] at ge464_1;rw [hvc_] at ul464_1;have HL464_1:=qK (show Kd.V (Kd.int .i64) 3 _ w.heap.size _ _ ((rd_T37 t456 x65_1).f1) from Kd.V_mk ul464_1 ge464_1);clear hva_ hvn_ hvc_ ge464_1 ul464_1;clear hcc464 hce464;have HR464_0:=qK hi464_0;have HC464_0:=qK hl464_0;clear hi464_0 hl464_0;have HR464_1:=qK hi464_1;have HC464_1:=qK hl464_1;clear hi464_1 hl464_1;replace p464:=eq_true p464;replace q464:=eq_true q464;have p465:0≤(x65_1:Int):=of_decide_eq_true (by first|(with_reducible assumption)|assumption);have q465:x65_1 < (t460.length:Int):=of_decide_eq_true (by first|(with_reducible assumption)|assumption);obtain ⟨ad465,A465_0,c465_0,A465_1,c465_1,e465,hx465_0,hx465_1,hl465_0,hi465_0,hl465_1,hi465_1⟩:=at_T37 (Kd.N_reads' HO_9.out).2.2 x65_1 p465 q465;cases e465
            obtain ⟨ce465,hce465,hMe465,hcc465⟩:=Kd.N_get HO_9.out z37 x65_1 p465 (by first|exact q465|exact of_decide_eq_true (by first|(with_reducible assumption)|assumption)|(have e_:=(Kd.N_reads' HO_9.out).1;omega));obtain ⟨ua465_0,uc465_0,ua465_1,uc465_1,rfl,ul465_0,ge465_0,ul465_1,ge465_1⟩:=k37_openF hMe465;have hv465_0:=hcc465 0 _ rfl;rw [Nat.add_zero] at hv465_0;replace hv465_0:=Option.some.inj (hv465_0.symm.trans hx465_0);injection hv465_0 with hva_ hvn_ hvc_
            rw [hva_] at ge465_0;rw [hvc_] at ul465_0;have HL465_0:=qK (show Kd.V (Kd.int .i64) 3 _ w.heap.size _ _ ((rd_T37 t460 x65_1).f0) from Kd.V_mk ul465_0 ge465_0);clear hva_ hvn_ hvc_ ge465_0 ul465_0;have hv465_1:=hcc465 1 _ rfl;rw [add_field _ _ 1 (by omega)] at hv465_1;replace hv465_1:=Option.some.inj (hv465_1.symm.trans hx465_1);injection hv465_1 with hva_ hvn_ hvc_
            rw [hva_] at ge465_1;rw [hvc_] at ul465_1;have HL465_1:=qK (show Kd.V (Kd.int .i64) 3 _ w.heap.size _ _ ((rd_T37 t460 x65_1).f1) from Kd.V_mk ul465_1 ge465_1);clear hva_ hvn_ hvc_ ge465_1 ul465_1;clear hcc465 hce465;have HR465_0:=qK hi465_0;have HC465_0:=qK hl465_0;clear hi465_0 hl465_0;have HR465_1:=qK hi465_1;have HC465_1:=qK hl465_1;clear hi465_1 hl465_1;replace p465:=eq_true p465;replace q465:=eq_true q465;have p467:0≤(x65_1:Int):=of_decide_eq_true (by first|(with_reducible assumption)|assumption);have q467:x65_1 < (t456.length:Int):=of_decide_eq_true (by first|(with_reducible assumption)|assumption);obtain ⟨ad467,A467_0,c467_0,A467_1,c467_1,e467,hx467_0,hx467_1,hl467_0,hi467_0,hl467_1,hi467_1⟩:=at_T37 (Kd.N_reads' HO_7.out).2.2 x65_1 p467 q467;obtain rfl:ad464=ad467:=(by injection e467);obtain ⟨ce467,hce467,hMe467,hcc467⟩:=Kd.N_get HO_7.out z37 x65_1 p467 (by first|exact q467|exact of_decide_eq_true (by first|(with_reducible assumption)|assumption)|(have e_:=(Kd.N_reads' HO_7.out).1;omega));obtain ⟨ua467_0,uc467_0,ua467_1,uc467_1,rfl,ul467_0,ge467_0,ul467_1,ge467_1⟩:=k37_openF hMe467;have hv467_0:=hcc467 0 _ rfl;rw [Nat.add_zero] at hv467_0;replace hv467_0:=Option.some.inj (hv467_0.symm.trans hx467_0);injection hv467_0 with hva_ hvn_ hvc_
            rw [hva_] at ge467_0;rw [hvc_] at ul467_0;have HL467_0:=qK (show Kd.V (Kd.int .i64) 3 _ w.heap.size _ _ ((rd_T37 t456 x65_1).f0) from Kd.V_mk ul467_0 ge467_0);clear hva_ hvn_ hvc_ ge467_0 ul467_0;have hv467_1:=hcc467 1 _ rfl;rw [add_field _ _ 1 (by omega)] at hv467_1;replace hv467_1:=Option.some.inj (hv467_1.symm.trans hx467_1);injection hv467_1 with hva_ hvn_ hvc_
            rw [hva_] at ge467_1;rw [hvc_] at ul467_1;have HL467_1:=qK (show Kd.V (Kd.int .i64) 3 _ w.heap.size _ _ ((rd_T37 t456 x65_1).f1) from Kd.V_mk ul467_1 ge467_1);clear hva_ hvn_ hvc_ ge467_1 ul467_1;clear hcc467 hce467;have HR467_0:=qK hi467_0;have HC467_0:=qK hl467_0;clear hi467_0 hl467_0;have HR467_1:=qK hi467_1;have HC467_1:=qK hl467_1;clear hi467_1 hl467_1;replace p467:=eq_true p467;replace q467:=eq_true q467;have ea_:=Option.some.inj (hx464_0.symm.trans hx467_0);injection ea_ with ea_ en_ ec_
            subst ea_;subst ec_;clear en_;have ea_:=Option.some.inj (hx464_1.symm.trans hx467_1);injection ea_ with ea_ en_ ec_
            subst ea_;subst ec_;clear en_;have p468:0≤(x65_1:Int):=of_decide_eq_true (by first|(with_reducible assumption)|assumption);have q468:x65_1 < (t460.length:Int):=of_decide_eq_true (by first|(with_reducible assumption)|assumption);obtain ⟨ad468,A468_0,c468_0,A468_1,c468_1,e468,hx468_0,hx468_1,hl468_0,hi468_0,hl468_1,hi468_1⟩:=at_T37 (Kd.N_reads' HO_9.out).2.2 x65_1 p468 q468;obtain rfl:ad465=ad468:=(by injection e468);obtain ⟨ce468,hce468,hMe468,hcc468⟩:=Kd.N_get HO_9.out z37 x65_1 p468 (by first|exact q468|exact of_decide_eq_true (by first|(with_reducible assumption)|assumption)|(have e_:=(Kd.N_reads' HO_9.out).1;omega));obtain ⟨ua468_0,uc468_0,ua468_1,uc468_1,rfl,ul468_0,ge468_0,ul468_1,ge468_1⟩:=k37_openF hMe468;have hv468_0:=hcc468 0 _ rfl;rw [Nat.add_zero] at hv468_0;replace hv468_0:=Option.some.inj (hv468_0.symm.trans hx468_0);injection hv468_0 with hva_ hvn_ hvc_
            rw [hva_] at ge468_0;rw [hvc_] at ul468_0;have HL468_0:=qK (show Kd.V (Kd.int .i64) 3 _ w.heap.size _ _ ((rd_T37 t460 x65_1).f0) from Kd.V_mk ul468_0 ge468_0);clear hva_ hvn_ hvc_ ge468_0 ul468_0;have hv468_1:=hcc468 1 _ rfl;rw [add_field _ _ 1 (by omega)] at hv468_1;replace hv468_1:=Option.some.inj (hv468_1.symm.trans hx468_1);injection hv468_1 with hva_ hvn_ hvc_
            rw [hva_] at ge468_1;rw [hvc_] at ul468_1;have HL468_1:=qK (show Kd.V (Kd.int .i64) 3 _ w.heap.size _ _ ((rd_T37 t460 x65_1).f1) from Kd.V_mk ul468_1 ge468_1);clear hva_ hvn_ hvc_ ge468_1 ul468_1;clear hcc468 hce468;have HR468_0:=qK hi468_0;have HC468_0:=qK hl468_0;clear hi468_0 hl468_0;have HR468_1:=qK hi468_1;have HC468_1:=qK hl468_1;clear hi468_1 hl468_1;replace p468:=eq_true p468;replace q468:=eq_true q468;have ea_:=Option.some.inj (hx465_0.symm.trans hx468_0);injection ea_ with ea_ en_ ec_
            subst ea_;subst ec_;clear en_;have ea_:=Option.some.inj (hx465_1.symm.trans hx468_1);injection ea_ with ea_ en_ ec_
            subst ea_;subst ec_;clear en_;refine start_ (n:=26) (S:=fun w'=>w'.cell? (ad464.add ((x65_1).toNat * 2))=some (.slice A464_0 ((rd_T37 t456 x65_1).f0).length c464_0)∧w'.cell? ⟨(ad464.add ((x65_1).toNat * 2)).block,(ad464.add ((x65_1).toNat * 2)).off + 1,none⟩=some (.slice A464_1 ((rd_T37 t456 x65_1).f1).length c464_1)∧w'.cell? (ad465.add ((x65_1).toNat * 2))=some (.slice A465_0 ((rd_T37 t460 x65_1).f0).length c465_0)∧w'.cell? ⟨(ad465.add ((x65_1).toNat * 2)).block,(ad465.add ((x65_1).toNat * 2)).off + 1,none⟩=some (.slice A465_1 ((rd_T37 t460 x65_1).f1).length c465_1)∧w'.cell? (ad464.add ((x65_1).toNat * 2))=some (.slice A464_0 ((rd_T37 t456 x65_1).f0).length c464_0)∧w'.cell? ⟨(ad464.add ((x65_1).toNat * 2)).block,(ad464.add ((x65_1).toNat * 2)).off + 1,none⟩=some (.slice A464_1 ((rd_T37 t456 x65_1).f1).length c464_1)∧w'.cell? (ad465.add ((x65_1).toNat * 2))=some (.slice A465_0 ((rd_T37 t460 x65_1).f0).length c465_0)∧w'.cell? ⟨(ad465.add ((x65_1).toNat * 2)).block,(ad465.add ((x65_1).toNat * 2)).off + 1,none⟩=some (.slice A465_1 ((rd_T37 t460 x65_1).f1).length c465_1)) (ds:=[]) #[Z,Z,Z,Z,Z,Z,Z,Z,Z,Z,Z,Z,Z,Z,Z,Z,Z,Z,Z,Z,Z,Z,Z,Z,Z,Z] (by kernel_rfl) rfl rfl ⟨hx464_0,hx464_1,hx465_0,hx465_1,hx467_0,hx467_1,hx468_0,hx468_1⟩ (fun hHeld=>?_);refine with_tabW laws_FnCover.tab11 laws_FnCover.bits11 (fun HT_ HW_=>?_);generalize wr.drew=w23 at HO_5 HO_7 HO_9 HB HL464_0 HL464_1 HL465_0 HL465_1 HL467_0 HL467_1 HL468_0 HL468_1 HR464_0 HR464_1 HR465_0 HR465_1 HR467_0 HR467_1 HR468_0 HR468_1 hx464_0 hx464_1 hx465_0 hx465_1 hx467_0 hx467_1 hx468_0 hx468_1 hHeld ⊢
            refine pure_ (i:=0) (N:=some 68) (v:=?_) (a':=?_) #[Y,Z,Z,Z,Z,Z,Z,Z,Z,Z,Z,Z,Z,Z,Z,Z,Z,Z,Z,Z,Z,Z,Z,Z,Z,Z] rfl rfl (any_of HT_.out (by kernel_rfl)) (fun _ _ _ h=>h) (Or.inl ⟨by rfl,?_⟩) ?_ ?_;rotate_left
            ·intro w';go_simp;with_reducible rfl
            rotate_left
            ·simp only [Act.put,sIb,sZ,sS,i64_w,i32_w];rfl
            refine pure_ (i:=1) (N:=some 69) (v:=?_) (a':=?_) #[Y,Y,Z,Z,Z,Z,Z,Z,Z,Z,Z,Z,Z,Z,Z,Z,Z,Z,Z,Z,Z,Z,Z,Z,Z,Z] rfl rfl (any_of HT_.out (by kernel_rfl)) (fun _ _ _ h=>h) (Or.inl ⟨by rfl,?_⟩) ?_ ?_;rotate_left
            ·intro w';go_simp;with_reducible rfl
            rotate_left
            ·simp only [Act.put,sIb,sZ,sS,i64_w,i32_w];rfl
            refine pure_ (i:=2) (N:=some 70) (v:=?_) (a':=?_) #[Y,Y,Y,Z,Z,Z,Z,Z,Z,Z,Z,Z,Z,Z,Z,Z,Z,Z,Z,Z,Z,Z,Z,Z,Z,Z] rfl rfl (any_of HT_.out (by kernel_rfl)) (fun _ _ _ h=>h) (Or.inl ⟨by rfl,?_⟩) ?_ ?_;rotate_left
            ·intro w';go_simp;with_reducible rfl
            rotate_left
            ·simp only [Act.put,sIb,sZ,sS,i64_w,i32_w];rfl
            refine pure_ (i:=3) (N:=some 71) (v:=?_) (a':=?_) #[Y,Y,Y,Y,Z,Z,Z,Z,Z,Z,Z,Z,Z,Z,Z,Z,Z,Z,Z,Z,Z,Z,Z,Z,Z,Z] rfl rfl (any_of HT_.out (by kernel_rfl)) (fun _ _ _ h=>h) (Or.inl ⟨by rfl,?_⟩) ?_ ?_;rotate_left
            ·intro w';go_simp;with_reducible rfl
            rotate_left
            ·simp only [Act.put,sIb,sZ,sS,i64_w,i32_w];rfl
            refine pure_ (i:=5) (N:=some 73) (v:=?_) (a':=?_) #[Y,Y,Y,Y,Z,Y,Z,Z,Z,Z,Z,Z,Z,Z,Z,Z,Z,Z,Z,Z,Z,Z,Z,Z,Z,Z] rfl rfl (any_of HT_.out (by kernel_rfl)) (fun _ _ _ h=>h) (Or.inl ⟨by rfl,?_⟩) ?_ ?_;rotate_left
            ·intro w';go_simp;with_reducible rfl
            rotate_left
            ·simp only [Act.put,sIb,sZ,sS,i64_w,i32_w];rfl
            refine pure_ (i:=6) (N:=some 74) (v:=?_) (a':=?_) #[Y,Y,Y,Y,Z,Y,Y,Z,Z,Z,Z,Z,Z,Z,Z,Z,Z,Z,Z,Z,Z,Z,Z,Z,Z,Z] rfl rfl (any_of HT_.out (by kernel_rfl)) (fun _ _ _ h=>h) (Or.inl ⟨by rfl,?_⟩) ?_ ?_;rotate_left
            ·intro w';go_simp;with_reducible rfl
            rotate_left
            ·simp only [Act.put,sIb,sZ,sS,i64_w,i32_w];rfl
            refine pure_ (i:=7) (N:=some 75) (v:=?_) (a':=?_) #[Y,Y,Y,Y,Z,Y,Y,Y,Z,Z,Z,Z,Z,Z,Z,Z,Z,Z,Z,Z,Z,Z,Z,Z,Z,Z] rfl rfl (any_of HT_.out (by kernel_rfl)) (fun _ _ _ h=>h) (Or.inl ⟨by rfl,?_⟩) ?_ ?_;rotate_left
            ·intro w';go_simp;with_reducible rfl
            rotate_left
            ·simp only [Act.put,sIb,sZ,sS,i64_w,i32_w];rfl
            refine pure_ (i:=8) (N:=some 76) (v:=?_) (a':=?_) #[Y,Y,Y,Y,Z,Y,Y,Y,Y,Z,Z,Z,Z,Z,Z,Z,Z,Z,Z,Z,Z,Z,Z,Z,Z,Z] rfl rfl (any_of HT_.out (by kernel_rfl)) (fun _ _ _ h=>h) (Or.inl ⟨by rfl,?_⟩) ?_ ?_;rotate_left
            ·intro w';go_simp;with_reducible rfl
            rotate_left
            ·simp only [Act.put,sIb,sZ,sS,i64_w,i32_w];rfl
            refine take_ (i:=4) (N:=some 72) (v:=?_) (a':=?_) #[Y,Y,Y,Y,Y,Y,Y,Y,Y,Z,Z,Z,Z,Z,Z,Z,Z,Z,Z,Z,Z,Z,Z,Z,Z,Z] rfl rfl (take_ofW HT_.out HW_.out (by kernel_rfl)) (fun _ _ _ h=>h) (Or.inl ⟨by rfl,?_⟩) hHeld ?_ ?_;rotate_left
            ·rintro w' ⟨s0,s1,s2,s3,s4,s5,s6,s7⟩;go_simp;with_reducible rfl
            rotate_left
            ·simp only [Act.put,sIb,sZ,sS,i64_w,i32_w];rfl
            refine take_ (i:=9) (N:=some 77) (v:=?_) (a':=?_) #[Y,Y,Y,Y,Y,Y,Y,Y,Y,Y,Z,Z,Z,Z,Z,Z,Z,Z,Z,Z,Z,Z,Z,Z,Z,Z] rfl rfl (take_ofW HT_.out HW_.out (by kernel_rfl)) (fun _ _ _ h=>h) (Or.inl ⟨by rfl,?_⟩) hHeld ?_ ?_;rotate_left
            ·rintro w' ⟨s0,s1,s2,s3,s4,s5,s6,s7⟩;go_simp;with_reducible rfl
            rotate_left
            ·simp only [Act.put,sIb,sZ,sS,i64_w,i32_w];rfl
            refine one_ (i:=10) (N:=some 78) #[Y,Y,Y,Y,Y,Y,Y,Y,Y,Y,Y,Z,Z,Z,Z,Z,Z,Z,Z,Z,Z,Z,Z,Z,Z,Z] rfl rfl (one_of HT_.out (by kernel_rfl)) (by decide) (fun K hK=>?_);refine goes_ Try.func13 (by kernel_rfl) rfl #[.slice A464_0 ((rd_T37 t456 x65_1).f0).length c464_0,.slice A465_0 ((rd_T37 t460 x65_1).f0).length c465_0] (by rfl) rfl rfl (by (try simp only [mT,mC,mN]);first|done|rfl|(simp only [lD,lT];rfl)) ?_;with_reducible refine (laws_sameInts.calls k1 _ _ ((rd_T37 t456 x65_1).f0) _ _ ((rd_T37 t460 x65_1).f0) true _ ?side1 ?side2 ?side3 ?side4 A19.out).mono ?_
            (case side1=>repeat (first|exact (by repeat (first|(with_reducible exact HR464_0.out)|(with_reducible first|refine cL ?_ _|refine cN ?_ _|refine cW ?_)|exact HR464_0.out))|(with_reducible first|refine cL ?_ _|refine cN ?_ _|refine cW ?_)));(case side2=>exact HC464_0.out);(case side3=>repeat (first|exact (by repeat (first|(with_reducible exact HR465_0.out)|(with_reducible first|refine cL ?_ _|refine cN ?_ _|refine cW ?_)|exact HR465_0.out))|(with_reducible first|refine cL ?_ _|refine cN ?_ _|refine cW ?_)));(case side4=>exact HC465_0.out);rintro e w' ⟨rfl,⟨nd,rfl⟩⟩;refine ⟨_,rfl,?_⟩;refine hK.out _ _ ⟨hHeld.1,hHeld.2.1,hHeld.2.2.1,hHeld.2.2.2.1,hHeld.2.2.2.2.1,hHeld.2.2.2.2.2.1,hHeld.2.2.2.2.2.2.1,hHeld.2.2.2.2.2.2.2⟩ (fun hHeld=>?_);clear hK K;refine norm_ (a':=?_) ?_ ?_;rotate_left
            ·show Act.put _ (some 78) _=_
             simp only [Act.put,sIb,sZ,sS,i64_w,i32_w];rfl
            refine pure_ (i:=11) (N:=some 79) (v:=?_) (a':=?_) #[Y,Y,Y,Y,Y,Y,Y,Y,Y,Y,Y,Y,Z,Z,Z,Z,Z,Z,Z,Z,Z,Z,Z,Z,Z,Z] rfl rfl (any_of HT_.out (by kernel_rfl)) (fun _ _ _ h=>h) (Or.inl ⟨by rfl,?_⟩) ?_ ?_;rotate_left
            ·intro w';go_simp;with_reducible rfl
            rotate_left
            ·simp only [Act.put,sIb,sZ,sS,i64_w,i32_w];rfl
            refine pure_ (i:=12) (N:=some 80) (v:=?_) (a':=?_) #[Y,Y,Y,Y,Y,Y,Y,Y,Y,Y,Y,Y,Y,Z,Z,Z,Z,Z,Z,Z,Z,Z,Z,Z,Z,Z] rfl rfl (any_of HT_.out (by kernel_rfl)) (fun _ _ _ h=>h) (Or.inl ⟨by rfl,?_⟩) ?_ ?_;rotate_left
            ·intro w';go_simp;with_reducible rfl
            rotate_left
            ·simp only [Act.put,sIb,sZ,sS,i64_w,i32_w];rfl
            refine pure_ (i:=13) (N:=some 81) (v:=?_) (a':=?_) #[Y,Y,Y,Y,Y,Y,Y,Y,Y,Y,Y,Y,Y,Y,Z,Z,Z,Z,Z,Z,Z,Z,Z,Z,Z,Z] rfl rfl (any_of HT_.out (by kernel_rfl)) (fun _ _ _ h=>h) (Or.inl ⟨by rfl,?_⟩) ?_ ?_;rotate_left
            ·intro w';go_simp;with_reducible rfl
            rotate_left
            ·simp only [Act.put,sIb,sZ,sS,i64_w,i32_w];rfl
            refine pure_ (i:=14) (N:=some 82) (v:=?_) (a':=?_) #[Y,Y,Y,Y,Y,Y,Y,Y,Y,Y,Y,Y,Y,Y,Y,Z,Z,Z,Z,Z,Z,Z,Z,Z,Z,Z] rfl rfl (any_of HT_.out (by kernel_rfl)) (fun _ _ _ h=>h) (Or.inl ⟨by rfl,?_⟩) ?_ ?_;rotate_left
            ·intro w';go_simp;with_reducible rfl
            rotate_left
            ·simp only [Act.put,sIb,sZ,sS,i64_w,i32_w];rfl
            refine pure_ (i:=15) (N:=some 83) (v:=?_) (a':=?_) #[Y,Y,Y,Y,Y,Y,Y,Y,Y,Y,Y,Y,Y,Y,Y,Y,Z,Z,Z,Z,Z,Z,Z,Z,Z,Z] rfl rfl (any_of HT_.out (by kernel_rfl)) (fun _ _ _ h=>h) (Or.inl ⟨by rfl,?_⟩) ?_ ?_;rotate_left
            ·intro w';go_simp;with_reducible rfl
            rotate_left
            ·simp only [Act.put,sIb,sZ,sS,i64_w,i32_w];rfl
            refine pure_ (i:=16) (N:=some 84) (v:=?_) (a':=?_) #[Y,Y,Y,Y,Y,Y,Y,Y,Y,Y,Y,Y,Y,Y,Y,Y,Y,Z,Z,Z,Z,Z,Z,Z,Z,Z] rfl rfl (any_of HT_.out (by kernel_rfl)) (fun _ _ _ h=>h) (Or.inl ⟨by rfl,?_⟩) ?_ ?_;rotate_left
            ·intro w';go_simp;with_reducible rfl
            rotate_left
            ·simp only [Act.put,sIb,sZ,sS,i64_w,i32_w];rfl
            refine pure_ (i:=18) (N:=some 86) (v:=?_) (a':=?_) #[Y,Y,Y,Y,Y,Y,Y,Y,Y,Y,Y,Y,Y,Y,Y,Y,Y,Z,Y,Z,Z,Z,Z,Z,Z,Z] rfl rfl (any_of HT_.out (by kernel_rfl)) (fun _ _ _ h=>h) (Or.inl ⟨by rfl,?_⟩) ?_ ?_;rotate_left
            ·intro w';go_simp;with_reducible rfl
            rotate_left
            ·simp only [Act.put,sIb,sZ,sS,i64_w,i32_w];rfl
            refine pure_ (i:=19) (N:=some 87) (v:=?_) (a':=?_) #[Y,Y,Y,Y,Y,Y,Y,Y,Y,Y,Y,Y,Y,Y,Y,Y,Y,Z,Y,Y,Z,Z,Z,Z,Z,Z] rfl rfl (any_of HT_.out (by kernel_rfl)) (fun _ _ _ h=>h) (Or.inl ⟨by rfl,?_⟩) ?_ ?_;rotate_left
            ·intro w';go_simp;with_reducible rfl
            rotate_left
            ·simp only [Act.put,sIb,sZ,sS,i64_w,i32_w];rfl
            refine pure_ (i:=20) (N:=some 88) (v:=?_) (a':=?_) #[Y,Y,Y,Y,Y,Y,Y,Y,Y,Y,Y,Y,Y,Y,Y,Y,Y,Z,Y,Y,Y,Z,Z,Z,Z,Z] rfl rfl (any_of HT_.out (by kernel_rfl)) (fun _ _ _ h=>h) (Or.inl ⟨by rfl,?_⟩) ?_ ?_;rotate_left
            ·intro w';go_simp;with_reducible rfl
            rotate_left
            ·simp only [Act.put,sIb,sZ,sS,i64_w,i32_w];rfl
            refine pure_ (i:=21) (N:=some 89) (v:=?_) (a':=?_) #[Y,Y,Y,Y,Y,Y,Y,Y,Y,Y,Y,Y,Y,Y,Y,Y,Y,Z,Y,Y,Y,Y,Z,Z,Z,Z] rfl rfl (any_of HT_.out (by kernel_rfl)) (fun _ _ _ h=>h) (Or.inl ⟨by rfl,?_⟩) ?_ ?_;rotate_left
            ·intro w';go_simp;with_reducible rfl
            rotate_left
            ·simp only [Act.put,sIb,sZ,sS,i64_w,i32_w];rfl
            refine take_ (i:=17) (N:=some 85) (v:=?_) (a':=?_) #[Y,Y,Y,Y,Y,Y,Y,Y,Y,Y,Y,Y,Y,Y,Y,Y,Y,Y,Y,Y,Y,Y,Z,Z,Z,Z] rfl rfl (take_ofW HT_.out HW_.out (by kernel_rfl)) (fun _ _ _ h=>h) (Or.inl ⟨by rfl,?_⟩) hHeld ?_ ?_;rotate_left
            ·rintro w' ⟨s0,s1,s2,s3,s4,s5,s6,s7⟩;go_simp;with_reducible rfl
            rotate_left
            ·simp only [Act.put,sIb,sZ,sS,i64_w,i32_w];rfl
            refine take_ (i:=22) (N:=some 90) (v:=?_) (a':=?_) #[Y,Y,Y,Y,Y,Y,Y,Y,Y,Y,Y,Y,Y,Y,Y,Y,Y,Y,Y,Y,Y,Y,Y,Z,Z,Z] rfl rfl (take_ofW HT_.out HW_.out (by kernel_rfl)) (fun _ _ _ h=>h) (Or.inl ⟨by rfl,?_⟩) hHeld ?_ ?_;rotate_left
            ·rintro w' ⟨s0,s1,s2,s3,s4,s5,s6,s7⟩;go_simp;with_reducible rfl
            rotate_left
            ·simp only [Act.put,sIb,sZ,sS,i64_w,i32_w];rfl
            refine one_ (i:=23) (N:=some 91) #[Y,Y,Y,Y,Y,Y,Y,Y,Y,Y,Y,Y,Y,Y,Y,Y,Y,Y,Y,Y,Y,Y,Y,Y,Z,Z] rfl rfl (one_of HT_.out (by kernel_rfl)) (by decide) (fun K hK=>?_);refine goes_ Try.func13 (by kernel_rfl) rfl #[.slice A464_1 ((rd_T37 t456 x65_1).f1).length c464_1,.slice A465_1 ((rd_T37 t460 x65_1).f1).length c465_1] (by rfl) rfl rfl (by (try simp only [mT,mC,mN]);first|done|rfl|(simp only [lD,lT];rfl)) ?_;with_reducible refine (laws_sameInts.calls k1 _ _ ((rd_T37 t456 x65_1).f1) _ _ ((rd_T37 t460 x65_1).f1) true _ ?side1 ?side2 ?side3 ?side4 A21.out).mono ?_
            (case side1=>repeat (first|exact (by repeat (first|(with_reducible exact HR467_1.out)|(with_reducible first|refine cL ?_ _|refine cN ?_ _|refine cW ?_)|exact HR467_1.out))|(with_reducible first|refine cL ?_ _|refine cN ?_ _|refine cW ?_)));(case side2=>exact HC467_1.out);(case side3=>repeat (first|exact (by repeat (first|(with_reducible exact HR468_1.out)|(with_reducible first|refine cL ?_ _|refine cN ?_ _|refine cW ?_)|exact HR468_1.out))|(with_reducible first|refine cL ?_ _|refine cN ?_ _|refine cW ?_)));(case side4=>exact HC468_1.out);rintro e w' ⟨rfl,⟨nd,rfl⟩⟩;refine ⟨_,rfl,?_⟩;refine hK.out _ _ ⟨hHeld.1,hHeld.2.1,hHeld.2.2.1,hHeld.2.2.2.1,hHeld.2.2.2.2.1,hHeld.2.2.2.2.2.1,hHeld.2.2.2.2.2.2.1,hHeld.2.2.2.2.2.2.2⟩ (fun hHeld=>?_);clear hK K;refine norm_ (a':=?_) ?_ ?_;rotate_left
            ·show Act.put _ (some 91) _=_
             simp only [Act.put,sIb,sZ,sS,i64_w,i32_w];rfl
            refine pure_ (i:=24) (N:=some 92) (v:=?_) (a':=?_) #[Y,Y,Y,Y,Y,Y,Y,Y,Y,Y,Y,Y,Y,Y,Y,Y,Y,Y,Y,Y,Y,Y,Y,Y,Y,Z] rfl rfl (any_of HT_.out (by kernel_rfl)) (fun _ _ _ h=>h) (Or.inl ⟨by rfl,?_⟩) ?_ ?_;rotate_left
            ·intro w';go_simp;with_reducible rfl
            rotate_left
            ·simp only [Act.put,sIb,sZ,sS,i64_w,i32_w];rfl
            refine pure_ (i:=25) (N:=some 93) (v:=?_) (a':=?_) #[Y,Y,Y,Y,Y,Y,Y,Y,Y,Y,Y,Y,Y,Y,Y,Y,Y,Y,Y,Y,Y,Y,Y,Y,Y,Y] rfl rfl (any_of HT_.out (by kernel_rfl)) (fun _ _ _ h=>h) (Or.inl ⟨by rfl,?_⟩) ?_ ?_;rotate_left
            ·intro w';go_simp;with_reducible rfl
            rotate_left
            ·simp only [Act.put,sIb,sZ,sS,i64_w,i32_w];rfl
            refine done_ (done_of HT_.out (by kernel_rfl)) ?_;try go_wp2
            go_roundg k1
            case measure=>have:=HK1.out;omega
            case rel=>exact ⟨(wrap64 (x65_1 + 1)),(by first|rfl|(simp;done)|(simp [*];done)),H',⟨by have:=HK1.out;omega⟩,⟨by (with_reducible repeat (first|apply Kd.N_alloc|apply Kd.N_drewN|apply Kd.N_drew));exact HO_5.out⟩,⟨by (with_reducible repeat (first|apply Kd.N_alloc|apply Kd.N_drewN|apply Kd.N_drew));exact HO_7.out⟩,⟨by (with_reducible repeat (first|apply Kd.N_alloc|apply Kd.N_drewN|apply Kd.N_drew));exact HO_9.out⟩,⟨by repeat (first|(with_reducible first|exact HB.out|apply qA|apply qD|apply qO)|exact HB.out)⟩⟩
           ·replace c22:=Bool.eq_false_iff.mpr c22;subst c22;have H1:(none)=some r:=by rw [if_neg (show ¬ (false=true) by decide)] at H;exact H
            clear H;have H:=H1;clear H1;exact absurd H (by simp)
          ·replace c20:=Bool.eq_false_iff.mpr c20;subst c20;have H1:(none)=some r:=by rw [if_neg (show ¬ (false=true) by decide)] at H;exact H
           clear H;have H:=H1;clear H1;exact absurd H (by simp)
         ·rw [if_neg c18] at H;exact absurd H (by simp)
        ·rw [if_neg c17] at H;exact absurd H (by simp)
       ·rw [if_neg c16] at H;exact absurd H (by simp)
      ·rw [if_neg c15] at H;have c15b0:decide (x65_1 < (t456.length:Int))=false:=decide_eq_false c15;clear c15;by_cases c24:t457=true
       ·subst c24;have H1:((impl_SameDepends.f k1 t452 t456 t453).bind fun bt470=>(if bt470.2=true then (if bt470.1=true then (laws_FnCover.l1 k1 l1 t453 t456 t456 (t456.length:Int) 0) else (none)) else (none)))=some r:=by rw [if_pos rfl] at H;exact H
        clear H;have H:=H1;clear H1;replace H:=Option.bind_eq_some_iff.mp H;obtain ⟨⟨t470,t471⟩,A250,H⟩:=H;replace H:(if t471=true then (if t470=true then (laws_FnCover.l1 k1 l1 t453 t456 t456 (t456.length:Int) 0) else (none)) else (none))=some r:=H;have A25:=qK A250;clear A250;by_cases c26:t471=true
        ·subst c26;have H1:(if t470=true then (laws_FnCover.l1 k1 l1 t453 t456 t456 (t456.length:Int) 0) else (none))=some r:=by rw [if_pos rfl] at H;exact H
         clear H;have H:=H1;clear H1;by_cases c27:t470=true
         ·subst c27;have H1:(laws_FnCover.l1 k1 l1 t453 t456 t456 (t456.length:Int) 0)=some r:=by rw [if_pos rfl] at H;exact H
          clear H;have H:=H1;clear H1;have H':=qK H;clear H;go_wp2_with (first|((with_reducible refine gate_callee (f:=14) rfl ?_);refine goesL_ (some 100) rfl rfl Try.func14 (by kernel_rfl) rfl #[.slice Ao10 t452.length co10,.slice Ao13 t456.length co13,.int .i64 t453] rfl (by (try simp only [mT,mC,mN]);first|done|rfl|(simp only [lD,lT];rfl)) ?_;(with_reducible refine (impl_SameDepends.calls k1 _ _ t452 _ _ t456 t453 true true _ ?side1 ?side2 ?side3 ?side4 A25.out).mono ?_);(case side1=>repeat (first|exact (Kd.N_reads' HO_5.out).2.2|(with_reducible first|refine cL ?_ _|refine cN ?_ _|refine cW ?_)));(case side2=>exact (Kd.N_reads' HO_5.out).2.1);(case side3=>repeat (first|exact (Kd.N_reads' HO_7.out).2.2|(with_reducible first|refine cL ?_ _|refine cN ?_ _|refine cW ?_)));(case side4=>exact (Kd.N_reads' HO_7.out).2.1);rintro e w28 ⟨rfl,hb⟩;refine ⟨_,rfl,?_⟩;have n0_:=qK (Kd.N_below (by (with_reducible repeat (first|apply Kd.N_alloc|apply Kd.N_drewN|apply Kd.N_drew));exact HO_5.out) hb);have n1_:=qK (Kd.N_below (by (with_reducible repeat (first|apply Kd.N_alloc|apply Kd.N_drewN|apply Kd.N_drew));exact HO_7.out) hb);have n2_:=qK (Kd.N_below (by (with_reducible repeat (first|apply Kd.N_alloc|apply Kd.N_drewN|apply Kd.N_drew));exact HO_9.out) hb);have n3_:=qK (qT (by repeat (with_reducible first|exact HB.out|apply qA|apply qD|apply qO)) hb);clear HO_5;clear HO_7;clear HO_9;clear HB;have HO_5:=n0_;have HO_7:=n1_;have HO_9:=n2_;have HB:=n3_;clear n0_ n1_ n2_ n3_;(try clear hb)))
          go_loopg [111] k1 (fun kq v111 w'=>∃ (x111_2:Int),v111=.int .i64 x111_2∧Aside0 (laws_FnCover.l1 kq l1 t453 t456 t456 (t456.length:Int) x111_2=some r)∧Aside0 (kq≤k1)∧Aside0 (Kd.N k37 37 w' w.heap.size (fun _=>True) (.slice Ao13 t456.length co13) t456)∧Aside0 (Kd.N k37 37 w' w.heap.size (fun _=>True) (.slice Ao13 t456.length co13) t456)∧Aside0 (Below w.heap.size w w'))
          case atStart=>exact ⟨(0),(by first|rfl|(simp;done)|(simp [*];done)),H',⟨Nat.le_refl _⟩,⟨by (with_reducible repeat (first|apply Kd.N_alloc|apply Kd.N_drewN|apply Kd.N_drew));exact Kd.N_mono HO_7.out (fun _ hk=>trivial)⟩,⟨by (with_reducible repeat (first|apply Kd.N_alloc|apply Kd.N_drewN|apply Kd.N_drew));exact Kd.N_mono HO_7.out (fun _ hk=>trivial)⟩,⟨by repeat (first|(with_reducible first|exact HB.out|apply qA|apply qD|apply qO)|exact HB.out)⟩⟩
          case round =>
           clear H';try clear c1
           try clear c2
           try clear p2
           try clear c3
           try clear c3b0
           try clear c4
           try clear p4
           try clear q4
           try clear hx4
           try clear c6
           try clear p6
           try clear c7
           try clear c7b0
           try clear c7b1
           try clear c7b2
           try clear c8
           try clear c8b0
           try clear c8b1
           try clear c8b2
           try clear c12
           try clear c13
           try clear c14
           try clear c15
           try clear c15b0
           try clear c16
           try clear c16b0
           try clear c17
           try clear c17b0
           try clear c18
           try clear c18b0
           try clear c20
           try clear c22
           try clear c24
           try clear c26
           try clear c27
           try clear hx464_0
           try clear hx464_1
           try clear hx465_0
           try clear hx465_1
           try clear hx467_0
           try clear hx467_1
           try clear hx468_0
           try clear hx468_1
           try clear p2
           try clear p464
           try clear p465
           try clear p467
           try clear p468
           try clear p6
           try clear q464
           try clear q465
           try clear q467
           try clear q468
           obtain ⟨x111_2,rfl,HA,HK2,HO_7,HO_109,HB⟩:=hrel;cases gk with
           | zero=>exact absurd HA.out (by simp [laws_FnCover.l1])
           | succ k2 =>
            have H:=HA.out;clear HA;simp only [laws_FnCover.l1] at H;by_cases c29:x111_2 < (t456.length:Int)
            ·rw [if_pos c29] at H;have c29b0:decide (x111_2 < (t456.length:Int))=true:=decide_eq_true c29;clear c29;by_cases c30:0≤x111_2
             ·rw [if_pos c30] at H;have c30b0:decide (0≤x111_2)=true:=decide_eq_true c30;clear c30;by_cases c31:x111_2 < (t456.length:Int)
              ·rw [if_pos c31] at H;have c31b0:decide (x111_2 < (t456.length:Int))=true:=decide_eq_true c31;clear c31;obtain ⟨y474,hy474⟩:∃ y_:List (S37),y_=(([]:List (S37))):=⟨_,rfl⟩;replace H:(if x111_2≤(t456.length:Int) then ((some (t456.take (x111_2:Int).toNat:List (S37))).bind fun y477=>(if y474.length + y477.length < 2932031007402 then ((some (y474 ++ y477:List (S37))).bind fun y482=>(if 0≤(wrap64 (x111_2 + 1)) then (if (wrap64 (x111_2 + 1))≤(t456.length:Int) then ((some (t456.drop ((wrap64 (x111_2 + 1)):Int).toNat:List (S37))).bind fun y485=>(if y482.length + y485.length < 2932031007402 then ((impl_Implies.f k2 (y482 ++ y485) t453 ((rd_T37 t456 x111_2).f0) ((rd_T37 t456 x111_2).f1)).bind fun bt493=>(if bt493.2=true then (if bt493.1=true then (none) else (if (((rd_T37 t456 x111_2).f1).length:Int)=1 then (laws_FnCover.l2 k2 l1 t453 t456 t456 (t456.length:Int) x111_2 (((rd_T37 t456 x111_2).f0).length:Int) 0 ((rd_T37 t456 x111_2).f0) ((rd_T37 t456 x111_2).f1)) else (none))) else (none))) else (none))) else (none)) else (none))) else (none))) else (none))=some r:=by first|(rw [hy474];with_reducible exact H)|(have H2_:=(Option.bind_some _ _).symm.trans H;rw [hy474];with_reducible exact H2_)|(have H2_:=(Option.bind_some _ _).symm.trans H;with_reducible exact H2_)|with_reducible exact H|(rw [hy474];exact H)|exact H
               have Ny474:=qK hy474;clear hy474;have c32b0:=eq_true (of_decide_eq_true (by first|(with_reducible assumption)|assumption):0≤x111_2);by_cases c33:x111_2≤(t456.length:Int)
               ·rw [if_pos c33] at H;have c33b0:=eq_true c33;have c33b1:decide (x111_2≤(t456.length:Int))=true:=decide_eq_true c33;clear c33;obtain ⟨y477,hy477⟩:∃ y_:List (S37),y_=(t456.take (x111_2:Int).toNat):=⟨_,rfl⟩;replace H:(if y474.length + y477.length < 2932031007402 then ((some (y474 ++ y477:List (S37))).bind fun y482=>(if 0≤(wrap64 (x111_2 + 1)) then (if (wrap64 (x111_2 + 1))≤(t456.length:Int) then ((some (t456.drop ((wrap64 (x111_2 + 1)):Int).toNat:List (S37))).bind fun y485=>(if y482.length + y485.length < 2932031007402 then ((impl_Implies.f k2 (y482 ++ y485) t453 ((rd_T37 t456 x111_2).f0) ((rd_T37 t456 x111_2).f1)).bind fun bt493=>(if bt493.2=true then (if bt493.1=true then (none) else (if (((rd_T37 t456 x111_2).f1).length:Int)=1 then (laws_FnCover.l2 k2 l1 t453 t456 t456 (t456.length:Int) x111_2 (((rd_T37 t456 x111_2).f0).length:Int) 0 ((rd_T37 t456 x111_2).f0) ((rd_T37 t456 x111_2).f1)) else (none))) else (none))) else (none))) else (none)) else (none))) else (none))=some r:=by first|(rw [hy477];with_reducible exact H)|(have H2_:=(Option.bind_some _ _).symm.trans H;rw [hy477];with_reducible exact H2_)|(have H2_:=(Option.bind_some _ _).symm.trans H;with_reducible exact H2_)|with_reducible exact H|(rw [hy477];exact H)|exact H
                have Ny477:=qK hy477;clear hy477;by_cases c34:y474.length + y477.length < 2932031007402
                ·rw [if_pos c34] at H;have LMc34:=qK c34;clear c34;obtain ⟨y482,hy482⟩:∃ y_:List (S37),y_=(y474 ++ y477):=⟨_,rfl⟩;replace H:(if 0≤(wrap64 (x111_2 + 1)) then (if (wrap64 (x111_2 + 1))≤(t456.length:Int) then ((some (t456.drop ((wrap64 (x111_2 + 1)):Int).toNat:List (S37))).bind fun y485=>(if y482.length + y485.length < 2932031007402 then ((impl_Implies.f k2 (y482 ++ y485) t453 ((rd_T37 t456 x111_2).f0) ((rd_T37 t456 x111_2).f1)).bind fun bt493=>(if bt493.2=true then (if bt493.1=true then (none) else (if (((rd_T37 t456 x111_2).f1).length:Int)=1 then (laws_FnCover.l2 k2 l1 t453 t456 t456 (t456.length:Int) x111_2 (((rd_T37 t456 x111_2).f0).length:Int) 0 ((rd_T37 t456 x111_2).f0) ((rd_T37 t456 x111_2).f1)) else (none))) else (none))) else (none))) else (none)) else (none))=some r:=by first|(rw [hy482];with_reducible exact H)|(have H2_:=(Option.bind_some _ _).symm.trans H;rw [hy482];with_reducible exact H2_)|(have H2_:=(Option.bind_some _ _).symm.trans H;with_reducible exact H2_)|with_reducible exact H|(rw [hy482];exact H)|exact H
                 have Ny482:=qK hy482;clear hy482;obtain ⟨ji35,hji35⟩:∃ j_:Int,(wrap64 (x111_2 + 1))=j_:=⟨_,rfl⟩;replace H:(if 0≤(ji35) then (if (ji35)≤(t456.length:Int) then ((some (t456.drop ((ji35):Int).toNat:List (S37))).bind fun y485=>(if y482.length + y485.length < 2932031007402 then ((impl_Implies.f k2 (y482 ++ y485) t453 ((rd_T37 t456 x111_2).f0) ((rd_T37 t456 x111_2).f1)).bind fun bt493=>(if bt493.2=true then (if bt493.1=true then (none) else (if (((rd_T37 t456 x111_2).f1).length:Int)=1 then (laws_FnCover.l2 k2 l1 t453 t456 t456 (t456.length:Int) x111_2 (((rd_T37 t456 x111_2).f0).length:Int) 0 ((rd_T37 t456 x111_2).f0) ((rd_T37 t456 x111_2).f1)) else (none))) else (none))) else (none))) else (none)) else (none))=some r:=by first|(rw [hji35] at H;exact H)|(simp only [hji35] at H ⊢;exact H)
                 have hji35w:(IntKind.i64.wrap (x111_2 + 1))=ji35:=(i64_w _).trans hji35;by_cases c36:0≤(ji35)
                 ·rw [if_pos c36] at H;have c36b0:=eq_true c36;have c36b1:decide (0≤(ji35))=true:=decide_eq_true c36;clear c36;by_cases c37:(ji35)≤(t456.length:Int)
                  ·rw [if_pos c37] at H;have c37b0:=eq_true c37;have c37b1:decide ((ji35)≤(t456.length:Int))=true:=decide_eq_true c37;clear c37;obtain ⟨y485,hy485⟩:∃ y_:List (S37),y_=(t456.drop ((ji35):Int).toNat):=⟨_,rfl⟩;replace H:(if y482.length + y485.length < 2932031007402 then ((impl_Implies.f k2 (y482 ++ y485) t453 ((rd_T37 t456 x111_2).f0) ((rd_T37 t456 x111_2).f1)).bind fun bt493=>(if bt493.2=true then (if bt493.1=true then (none) else (if (((rd_T37 t456 x111_2).f1).length:Int)=1 then (laws_FnCover.l2 k2 l1 t453 t456 t456 (t456.length:Int) x111_2 (((rd_T37 t456 x111_2).f0).length:Int) 0 ((rd_T37 t456 x111_2).f0) ((rd_T37 t456 x111_2).f1)) else (none))) else (none))) else (none))=some r:=by first|(rw [hy485];with_reducible exact H)|(have H2_:=(Option.bind_some _ _).symm.trans H;rw [hy485];with_reducible exact H2_)|(have H2_:=(Option.bind_some _ _).symm.trans H;with_reducible exact H2_)|with_reducible exact H|(rw [hy485];exact H)|exact H
                   have Ny485:=qK hy485;clear hy485;by_cases c38:y482.length + y485.length < 2932031007402
                   ·rw [if_pos c38] at H;have LMc38:=qK c38;clear c38;obtain ⟨y490,hy490⟩:∃ y_:List (S37),y_=(y482 ++ y485):=⟨_,rfl⟩;replace H:((impl_Implies.f k2 y490 t453 ((rd_T37 t456 x111_2).f0) ((rd_T37 t456 x111_2).f1)).bind fun bt493=>(if bt493.2=true then (if bt493.1=true then (none) else (if (((rd_T37 t456 x111_2).f1).length:Int)=1 then (laws_FnCover.l2 k2 l1 t453 t456 t456 (t456.length:Int) x111_2 (((rd_T37 t456 x111_2).f0).length:Int) 0 ((rd_T37 t456 x111_2).f0) ((rd_T37 t456 x111_2).f1)) else (none))) else (none)))=some r:=by first|(rw [hy490];with_reducible exact H)|(have H2_:=(Option.bind_some _ _).symm.trans H;rw [hy490];with_reducible exact H2_)|(have H2_:=(Option.bind_some _ _).symm.trans H;with_reducible exact H2_)|with_reducible exact H|(rw [hy490];exact H)|exact H
                    have Ny490:=qK hy490;clear hy490;replace H:=Option.bind_eq_some_iff.mp H;obtain ⟨⟨t493,t494⟩,A390,H⟩:=H;replace H:(if t494=true then (if t493=true then (none) else (if (((rd_T37 t456 x111_2).f1).length:Int)=1 then (laws_FnCover.l2 k2 l1 t453 t456 t456 (t456.length:Int) x111_2 (((rd_T37 t456 x111_2).f0).length:Int) 0 ((rd_T37 t456 x111_2).f0) ((rd_T37 t456 x111_2).f1)) else (none))) else (none))=some r:=H;have A39:=qK A390;clear A390;by_cases c40:t494=true
                    ·subst c40;have H1:(if t493=true then (none) else (if (((rd_T37 t456 x111_2).f1).length:Int)=1 then (laws_FnCover.l2 k2 l1 t453 t456 t456 (t456.length:Int) x111_2 (((rd_T37 t456 x111_2).f0).length:Int) 0 ((rd_T37 t456 x111_2).f0) ((rd_T37 t456 x111_2).f1)) else (none)))=some r:=by rw [if_pos rfl] at H;exact H
                     clear H;have H:=H1;clear H1;by_cases c41:t493=true
                     ·subst c41;have H1:(none)=some r:=by rw [if_pos rfl] at H;exact H
                      clear H;have H:=H1;clear H1;exact absurd H (by simp)
                     ·replace c41:=Bool.eq_false_iff.mpr c41;subst c41;have H1:(if (((rd_T37 t456 x111_2).f1).length:Int)=1 then (laws_FnCover.l2 k2 l1 t453 t456 t456 (t456.length:Int) x111_2 (((rd_T37 t456 x111_2).f0).length:Int) 0 ((rd_T37 t456 x111_2).f0) ((rd_T37 t456 x111_2).f1)) else (none))=some r:=by rw [if_neg (show ¬ (false=true) by decide)] at H;exact H
                      clear H;have H:=H1;clear H1;by_cases c42:(((rd_T37 t456 x111_2).f1).length:Int)=1
                      ·rw [if_pos c42] at H;have c42b0:((((rd_T37 t456 x111_2).f1).length:Int) == 1)=true:=beq_iff_eq.mpr c42;have c42b1:((((rd_T37 t456 x111_2).f1).length:Int) != 1)=false:=bne_eq_false_iff_eq.mpr c42;clear c42;have H':=qK H;clear H;have p472:0≤(x111_2:Int):=of_decide_eq_true (by first|(with_reducible assumption)|assumption);have q472:x111_2 < (t456.length:Int):=of_decide_eq_true (by first|(with_reducible assumption)|assumption);obtain ⟨ad472,A472_0,c472_0,A472_1,c472_1,e472,hx472_0,hx472_1,hl472_0,hi472_0,hl472_1,hi472_1⟩:=at_T37 (Kd.N_reads' HO_109.out).2.2 x111_2 p472 q472;cases e472
                       obtain ⟨ce472,hce472,hMe472,hcc472⟩:=Kd.N_get HO_109.out z37 x111_2 p472 (by first|exact q472|exact of_decide_eq_true (by first|(with_reducible assumption)|assumption)|(have e_:=(Kd.N_reads' HO_109.out).1;omega));obtain ⟨ua472_0,uc472_0,ua472_1,uc472_1,rfl,ul472_0,ge472_0,ul472_1,ge472_1⟩:=k37_openF hMe472;have hv472_0:=hcc472 0 _ rfl;rw [Nat.add_zero] at hv472_0;replace hv472_0:=Option.some.inj (hv472_0.symm.trans hx472_0);injection hv472_0 with hva_ hvn_ hvc_
                       rw [hva_] at ge472_0;rw [hvc_] at ul472_0;have HL472_0:=qK (show Kd.V (Kd.int .i64) 3 _ w.heap.size _ _ ((rd_T37 t456 x111_2).f0) from Kd.V_mk ul472_0 ge472_0);clear hva_ hvn_ hvc_ ge472_0 ul472_0;have hv472_1:=hcc472 1 _ rfl;rw [add_field _ _ 1 (by omega)] at hv472_1;replace hv472_1:=Option.some.inj (hv472_1.symm.trans hx472_1);injection hv472_1 with hva_ hvn_ hvc_
                       rw [hva_] at ge472_1;rw [hvc_] at ul472_1;have HL472_1:=qK (show Kd.V (Kd.int .i64) 3 _ w.heap.size _ _ ((rd_T37 t456 x111_2).f1) from Kd.V_mk ul472_1 ge472_1);clear hva_ hvn_ hvc_ ge472_1 ul472_1;clear hcc472 hce472;have HR472_0:=qK hi472_0;have HC472_0:=qK hl472_0;clear hi472_0 hl472_0;have HR472_1:=qK hi472_1;have HC472_1:=qK hl472_1;clear hi472_1 hl472_1;replace p472:=eq_true p472;replace q472:=eq_true q472;try go_wp2_with (first|((with_reducible refine gate_dst (N:=15) rfl ?_);(try (refine gate_guard (by rfl) ?_;dsimp only));refine box_event ?hg (N:=15) ?hd (cs:=#[.slice none 0 0,.slice none 0 0]) (t:=37) ?hr ?_;(case hd=>rfl);(case hg=>rfl);(case hr=>(go_simp;try rfl));intro gb473 hg w43 hbox hb;have n0_:=qK (Kd.N_below (Kd.N_elderB (by (with_reducible repeat (first|apply Kd.N_alloc|apply Kd.N_drewN|apply Kd.N_drew));exact HO_7.out) gb473 (Nat.le_of_eq hg.symm)) hb);have n1_:=qK (Kd.N_below (Kd.N_elderB (by (with_reducible repeat (first|apply Kd.N_alloc|apply Kd.N_drewN|apply Kd.N_drew));exact HO_109.out) gb473 (Nat.le_of_eq hg.symm)) hb);have n2_:=qK (Kd.V_below (Kd.V_elderB (by (with_reducible repeat (first|apply Kd.V_alloc|apply Kd.V_drewN|apply Kd.V_drew));exact HL472_0.out) gb473 (Nat.le_of_eq hg.symm)) hb);have n3_:=qK (Kd.V_below (Kd.V_elderB (by (with_reducible repeat (first|apply Kd.V_alloc|apply Kd.V_drewN|apply Kd.V_drew));exact HL472_1.out) gb473 (Nat.le_of_eq hg.symm)) hb);have n4_:=qK (cB (by repeat (first|(with_reducible exact HR472_0.out)|(with_reducible first|refine cL ?_ _|refine cN ?_ _|refine cW ?_)|exact HR472_0.out)) hb);have n5_:=qK (cB (by repeat (first|(with_reducible exact HR472_1.out)|(with_reducible first|refine cL ?_ _|refine cN ?_ _|refine cW ?_)|exact HR472_1.out)) hb);have n6_:=qK (qT (by repeat (with_reducible first|exact HB.out|apply qA|apply qD|apply qO)) hb);have n7_:=qK (hbox);have n8_:=qK ((by rw [hg];exact (qZ (by repeat (with_reducible first|exact HB.out|apply qA|apply qD|apply qO))):w.heap.size≤gb473));have n9_:=qK ((by rw [hg];exact (qZ (by repeat (with_reducible first|exact HB.out|apply qA|apply qD|apply qO))):w.heap.size≤gb473));clear HO_7;clear HO_109;clear HL472_0;clear HL472_1;clear HR472_0;clear HR472_1;clear HB;have HO_7:=n0_;have HO_109:=n1_;have HL472_0:=n2_;have HL472_1:=n3_;have HR472_0:=n4_;have HR472_1:=n5_;have HB:=n6_;have BK473:=n7_;have GW473:=n8_;have GE473:=n9_;clear n0_ n1_ n2_ n3_ n4_ n5_ n6_ n7_ n8_ n9_;clear hb hbox hg;have hcz44_0:w43.cell? ⟨gb473,0,none⟩=some (.slice none 0 0):=(qC BK473.out 0).trans rfl;have hcz44_1:w43.cell? ⟨gb473,1,none⟩=some (.slice none 0 0):=(qC BK473.out 1).trans rfl;have hfz44_0:=qF BK473.out 0;have hfz44_1:=qF BK473.out 1))
                       have n0_:Aside0 (Kd.N k37 37 ((w43.setCell ⟨gb473,0,none⟩ (.slice A472_0 ((rd_T37 t456 x111_2).f0).length c472_0)).setCell ⟨gb473,1,none⟩ (.slice A472_1 ((rd_T37 t456 x111_2).f1).length c472_1)) w.heap.size (fun k_=>k_ ≠ gb473) (.slice (some ad472) t456.length co13) t456):=⟨by (with_reducible repeat (first|apply Kd.N_alloc|apply Kd.N_drewN|apply Kd.N_drew));exact Kd.N_mono (Kd.N_far (p:=⟨gb473,1,none⟩) (Kd.N_far (p:=⟨gb473,0,none⟩) (Kd.N_mono HO_7.out (fun k_ hk=>(⟨hk,hk.2⟩:_∧k_ ≠ gb473))) (fun _ hk=>hk.2) (.slice A472_0 ((rd_T37 t456 x111_2).f0).length c472_0)) (fun _ hk=>hk.2) (.slice A472_1 ((rd_T37 t456 x111_2).f1).length c472_1)) (fun _ hk=>hk.1.2)⟩;have n1_:Aside0 (Kd.N k37 37 ((w43.setCell ⟨gb473,0,none⟩ (.slice A472_0 ((rd_T37 t456 x111_2).f0).length c472_0)).setCell ⟨gb473,1,none⟩ (.slice A472_1 ((rd_T37 t456 x111_2).f1).length c472_1)) w.heap.size (fun k_=>k_ ≠ gb473) (.slice (some ad472) t456.length co13) t456):=⟨by (with_reducible repeat (first|apply Kd.N_alloc|apply Kd.N_drewN|apply Kd.N_drew));exact Kd.N_mono (Kd.N_far (p:=⟨gb473,1,none⟩) (Kd.N_far (p:=⟨gb473,0,none⟩) (Kd.N_mono HO_109.out (fun k_ hk=>(⟨hk,hk.2⟩:_∧k_ ≠ gb473))) (fun _ hk=>hk.2) (.slice A472_0 ((rd_T37 t456 x111_2).f0).length c472_0)) (fun _ hk=>hk.2) (.slice A472_1 ((rd_T37 t456 x111_2).f1).length c472_1)) (fun _ hk=>hk.1.2)⟩;have n2_:Aside0 (Kd.V (Kd.int .i64) 3 ((w43.setCell ⟨gb473,0,none⟩ (.slice A472_0 ((rd_T37 t456 x111_2).f0).length c472_0)).setCell ⟨gb473,1,none⟩ (.slice A472_1 ((rd_T37 t456 x111_2).f1).length c472_1)) w.heap.size (fun k_=>some k_ ≠ (.slice (some ad472) t456.length co13:Value).ownBlock∧k_ ≠ gb473) (.slice A472_0 ((rd_T37 t456 x111_2).f0).length c472_0) ((rd_T37 t456 x111_2).f0)):=⟨by (with_reducible repeat (first|apply Kd.V_alloc|apply Kd.V_drewN|apply Kd.V_drew));exact Kd.V_mono (Kd.V_far (p:=⟨gb473,1,none⟩) (Kd.V_far (p:=⟨gb473,0,none⟩) (Kd.V_mono HL472_0.out (fun k_ hk=>(⟨hk,hk.2⟩:_∧k_ ≠ gb473))) (fun _ hk=>hk.2) (.slice A472_0 ((rd_T37 t456 x111_2).f0).length c472_0)) (fun _ hk=>hk.2) (.slice A472_1 ((rd_T37 t456 x111_2).f1).length c472_1)) (fun _ hk=>⟨hk.1.1.2,hk.1.2⟩)⟩;have n3_:Aside0 (Kd.V (Kd.int .i64) 3 ((w43.setCell ⟨gb473,0,none⟩ (.slice A472_0 ((rd_T37 t456 x111_2).f0).length c472_0)).setCell ⟨gb473,1,none⟩ (.slice A472_1 ((rd_T37 t456 x111_2).f1).length c472_1)) w.heap.size (fun k_=>some k_ ≠ (.slice (some ad472) t456.length co13:Value).ownBlock∧k_ ≠ gb473) (.slice A472_1 ((rd_T37 t456 x111_2).f1).length c472_1) ((rd_T37 t456 x111_2).f1)):=⟨by (with_reducible repeat (first|apply Kd.V_alloc|apply Kd.V_drewN|apply Kd.V_drew));exact Kd.V_mono (Kd.V_far (p:=⟨gb473,1,none⟩) (Kd.V_far (p:=⟨gb473,0,none⟩) (Kd.V_mono HL472_1.out (fun k_ hk=>(⟨hk,hk.2⟩:_∧k_ ≠ gb473))) (fun _ hk=>hk.2) (.slice A472_0 ((rd_T37 t456 x111_2).f0).length c472_0)) (fun _ hk=>hk.2) (.slice A472_1 ((rd_T37 t456 x111_2).f1).length c472_1)) (fun _ hk=>⟨hk.1.1.2,hk.1.2⟩)⟩;have n4_:Aside0 (((w43.setCell ⟨gb473,0,none⟩ (.slice A472_0 ((rd_T37 t456 x111_2).f0).length c472_0)).setCell ⟨gb473,1,none⟩ (.slice A472_1 ((rd_T37 t456 x111_2).f1).length c472_1)).heap[gb473]?=some (.cells #[.slice A472_0 ((rd_T37 t456 x111_2).f0).length c472_0,.slice A472_1 ((rd_T37 t456 x111_2).f1).length c472_1] 37 (0,0))):=⟨by (with_reducible repeat (first|refine qN ?_ _|refine qW ?_|refine qL ?_ _));refine qP (cs:=#[.slice A472_0 ((rd_T37 t456 x111_2).f0).length c472_0,.slice none 0 0]) ?_ 1 _ rfl;(with_reducible repeat (first|refine qN ?_ _|refine qW ?_|refine qL ?_ _));refine qP (cs:=#[.slice none 0 0,.slice none 0 0]) ?_ 0 _ rfl;(with_reducible repeat (first|refine qN ?_ _|refine qW ?_|refine qL ?_ _));exact BK473.out⟩;have n5_:Aside0 (Below w.heap.size w ((w43.setCell ⟨gb473,0,none⟩ (.slice A472_0 ((rd_T37 t456 x111_2).f0).length c472_0)).setCell ⟨gb473,1,none⟩ (.slice A472_1 ((rd_T37 t456 x111_2).f1).length c472_1))):=⟨by repeat (first|(with_reducible first|exact HB.out|apply qA|apply qD|apply qO|refine qS ?_ GE473.out)|exact HB.out)⟩;(try clear HO_7);(try clear HO_109);(try clear HL472_0);(try clear HL472_1);(try clear BK473);(try clear HB);generalize ((w43.setCell ⟨gb473,0,none⟩ (.slice A472_0 ((rd_T37 t456 x111_2).f0).length c472_0)).setCell ⟨gb473,1,none⟩ (.slice A472_1 ((rd_T37 t456 x111_2).f1).length c472_1))=w45 at n0_ n1_ n2_ n3_ n4_ n5_ ⊢
                       have HO_7:=n0_;have HO_109:=n1_;have HL472_0:=n2_;have HL472_1:=n3_;have BK473:=n4_;have HB:=n5_;clear n0_ n1_ n2_ n3_ n4_ n5_;have n0_:=qK (Kd.N_drew HO_7.out);have n1_:=qK (Kd.N_drew HO_109.out);have n2_:=qK (Kd.V_drew HL472_0.out);have n3_:=qK (Kd.V_drew HL472_1.out);have n4_:=qK (qW BK473.out);have n5_:=qK (qO HB.out);clear HO_7;clear HO_109;clear HL472_0;clear HL472_1;clear BK473;clear HB;have HO_7:=n0_;have HO_109:=n1_;have HL472_0:=n2_;have HL472_1:=n3_;have BK473:=n4_;have HB:=n5_;clear n0_ n1_ n2_ n3_ n4_ n5_;have q47:(x111_2:Int)≤((t456.length:Int):Int):=of_decide_eq_true (by first|(with_reducible assumption)|assumption);obtain ⟨i047,hi047,_,hsz47,_⟩:=info_parts info37;have hroom47:t456.length≤co13:=(Kd.N_reads' HO_7.out).2.1;have hC47:Kd.F k37 _ _ (some ad472) t456.length t456:=(Kd.V_at (base:=w.heap.size) (Kd.N_V HO_7.out)).2.2;have hcut47:=cut_to (P:=Try.prog) 24 37 .i64 Try.underlying24 hi047 (some ad472) t456.length co13 x111_2 (of_decide_eq_true (by first|(with_reducible assumption)|assumption)) q47 hroom47;have hr47:=Kd.F_take (m:=(x111_2:Int).toNat) hC47 (by omega);have hy47:y477.length=(x111_2:Int).toNat:=(by rw [Ny477.out,lT];omega);rw [← Ny477.out] at hr47;rw [← hy47] at hcut47;have HO481:=qK (show Kd.V k37 37 _ w.heap.size _ (.slice (some ad472) y477.length co13) y477 from Kd.V_mk (by omega) hr47);have HC481:=qK (show y477.length≤co13 from by omega);clear hr47 hC47 hroom47 hi047 hsz47;have KY47:=qK hy47;clear hy47;replace q47:=eq_true q47;have q48:((ji35):Int)≤((t456.length:Int):Int):=of_decide_eq_true (by first|(with_reducible assumption)|assumption);obtain ⟨i048,hi048,_,hsz48,_⟩:=info_parts info37;have hroom48:t456.length≤co13:=(Kd.N_reads' HO_7.out).2.1;have hC48:Kd.F k37 _ _ (some ad472) t456.length t456:=(Kd.V_at (base:=w.heap.size) (Kd.N_V HO_7.out)).2.2;have q048:(0:Int)≤((ji35):Int):=of_decide_eq_true (by first|(with_reducible assumption)|assumption);have hcut48:=cut_from (P:=Try.prog) 24 37 .i64 Try.underlying24 hi048 2 hsz48 (some ad472) t456.length co13 (ji35) q048 q48;have hr48:=Kd.F_cut (m:=((ji35):Int).toNat) (c:=co13) hC48 (by omega) hroom48;obtain ⟨A48,hA48⟩:∃ A1,A1=(if co13=((ji35):Int).toNat then (some ad472) else ((some ad472):Option Addr).map (·.add (((ji35):Int).toNat * 2))):=⟨_,rfl⟩;obtain ⟨c48,hc48⟩:∃ c1,c1=co13 - ((ji35):Int).toNat:=⟨_,rfl⟩;have hy48:y485.length=t456.length - ((ji35):Int).toNat:=(by rw [Ny485.out,lD] <;> omega);rw [show (t456).drop ((ji35):Int).toNat=y485 from Ny485.out.symm] at hr48;replace hr48:Kd.F k37 _ _ A48 y485.length y485:=(by rw [hA48];exact hr48);rw [← hy48,← hA48,← hc48] at hcut48;have HO489:=qK (show Kd.V k37 37 _ w.heap.size _ (.slice A48 y485.length c48) y485 from Kd.V_mk (by rw [hy48,hc48];exact Nat.sub_le_sub_right hroom48 _) hr48);have HC489:=qK (show y485.length≤c48 from by rw [hy48,hc48];exact Nat.sub_le_sub_right hroom48 _);clear hr48 hC48 hroom48 hi048 hsz48 hc48;have KY48:=qK hy48;have KA48:=qK hA48;clear hy48 hA48;replace q48:=eq_true q48;refine start_ (n:=11) (S:=fun w'=>True) (ds:=[]) #[Z,Z,Z,Z,Z,Z,Z,Z,Z,Z,Z] (by kernel_rfl) rfl rfl trivial (fun hHeld=>?_);refine with_tabW laws_FnCover.tab21 laws_FnCover.bits21 (fun HT_ HW_=>?_);generalize w45.drew=w46 at HO_7 HO_109 HL472_0 HL472_1 BK473 HB HO481 HO489 hHeld ⊢
                       refine pure_ (i:=1) (N:=some 117) (v:=?_) (a':=?_) #[Z,Y,Z,Z,Z,Z,Z,Z,Z,Z,Z] rfl rfl (any_of HT_.out (by kernel_rfl)) (fun _ _ _ h=>h) (Or.inl ⟨by rfl,?_⟩) ?_ ?_;rotate_left
                       ·intro w';go_simp;with_reducible rfl
                       rotate_left
                       ·simp only [Act.put,sIb,sZ,sS,i64_w,i32_w];rfl
                       refine pure_ (i:=2) (N:=some 118) (v:=?_) (a':=?_) #[Z,Y,Y,Z,Z,Z,Z,Z,Z,Z,Z] rfl rfl (any_of HT_.out (by kernel_rfl)) (fun _ _ _ h=>h) (Or.inl ⟨by rfl,?_⟩) ?_ ?_;rotate_left
                       ·intro w';go_simp;with_reducible rfl
                       rotate_left
                       ·simp only [Act.put,sIb,sZ,sS,i64_w,i32_w];rfl
                       refine pure_ (i:=3) (N:=some 119) (v:=?_) (a':=?_) #[Z,Y,Y,Y,Z,Z,Z,Z,Z,Z,Z] rfl rfl (any_of HT_.out (by kernel_rfl)) (fun _ _ _ h=>h) (Or.inl ⟨by rfl,?_⟩) ?_ ?_;rotate_left
                       ·intro w';go_simp;with_reducible rfl
                       rotate_left
                       ·simp only [Act.put,sIb,sZ,sS,i64_w,i32_w];rfl
                       refine pure_ (i:=5) (N:=some 121) (v:=?_) (a':=?_) #[Z,Y,Y,Y,Z,Y,Z,Z,Z,Z,Z] rfl rfl (any_of HT_.out (by kernel_rfl)) (fun _ _ _ h=>h) (Or.inl ⟨by rfl,?_⟩) ?_ ?_;rotate_left
                       ·intro w';go_simp;with_reducible rfl
                       rotate_left
                       ·simp only [Act.put,sIb,sZ,sS,i64_w,i32_w];rfl
                       refine pure_ (i:=6) (N:=some 122) (v:=?_) (a':=?_) #[Z,Y,Y,Y,Z,Y,Y,Z,Z,Z,Z] rfl rfl (any_of HT_.out (by kernel_rfl)) (fun _ _ _ h=>h) (Or.inl ⟨by rfl,?_⟩) ?_ ?_;rotate_left
                       ·intro w';go_simp;with_reducible rfl
                       rotate_left
                       ·simp only [Act.put,sIb,sZ,sS,i64_w,i32_w];rfl
                       refine pure_ (i:=7) (N:=some 123) (v:=?_) (a':=?_) #[Z,Y,Y,Y,Z,Y,Y,Y,Z,Z,Z] rfl rfl (any_of HT_.out (by kernel_rfl)) (fun _ _ _ h=>h) (Or.inl ⟨by rfl,?_⟩) ?_ ?_;rotate_left
                       ·intro w';go_simp;with_reducible rfl
                       rotate_left
                       ·simp only [Act.put,sIb,sZ,sS,i64_w,i32_w];rfl
                       refine pure_ (i:=8) (N:=some 124) (v:=?_) (a':=?_) #[Z,Y,Y,Y,Z,Y,Y,Y,Y,Z,Z] rfl rfl (any_of HT_.out (by kernel_rfl)) (fun _ _ _ h=>h) (Or.inl ⟨by rfl,?_⟩) ?_ ?_;rotate_left
                       ·intro w';go_simp;with_reducible rfl
                       rotate_left
                       ·simp only [Act.put,sIb,sZ,sS,i64_w,i32_w];rfl
                       refine one_ (i:=0) (N:=some 116) #[Y,Y,Y,Y,Z,Y,Y,Y,Y,Z,Z] rfl rfl (one_of HT_.out (by kernel_rfl)) (by decide) (fun K hK=>?_);refine Kd.N_lit_step k37 _ 37 ?hg (N':=116) ?hd (xs:=([]:List (S37))) (inner:=[]) (ok:=(fun k_=>some k_ ≠ (.slice (some ad472) t456.length co13:Value).ownBlock∧some k_ ≠ (.slice (some ad472) t456.length co13:Value).ownBlock∧k_ ≠ gb473)) (okp:=(fun k_=>some k_ ≠ (.slice (some ad472) t456.length co13:Value).ownBlock∧some k_ ≠ (.slice (some ad472) t456.length co13:Value).ownBlock∧k_ ≠ gb473)) ?hr ?hp (fun _ hk=>hk) ((show ∀ k_,w46.heap.size≤k_→(fun k_=>some k_ ≠ (.slice (some ad472) t456.length co13:Value).ownBlock∧some k_ ≠ (.slice (some ad472) t456.length co13:Value).ownBlock∧k_ ≠ gb473) k_ from fun k_ hk=>⟨Kd.fresh' (Kd.N_lt (by (with_reducible repeat (first|apply Kd.N_alloc|apply Kd.N_drewN|apply Kd.N_drew));exact HO_7.out)) k_ hk,Kd.fresh' (Kd.N_lt (by (with_reducible repeat (first|apply Kd.N_alloc|apply Kd.N_drewN|apply Kd.N_drew));exact HO_109.out)) k_ hk,Kd.freshB (g:=gb473) (o:=_) (by (with_reducible repeat (first|refine qN ?_ _|refine qW ?_|refine qL ?_ _));exact BK473.out) k_ hk⟩) _ (Nat.le_refl _)) (Below.refl _ _) (Nat.le_refl _) (by simp) ?_;(case hd=>rfl);(case hg=>rfl);(case hr=>(go_simp;try rfl));(case hp=>exact (Reps.none _ _));intro v475 w49 ho50 hb hg_ hnew_;clear hg_ hnew_;(first|rw [← Ny474.out] at ho50|(simp only [Int.reduceToNat] at ho50;rw [← Ny474.out] at ho50));have n0_:=qK (Kd.N_elder' (by (with_reducible repeat (first|apply Kd.N_alloc|apply Kd.N_drewN|apply Kd.N_drew));exact HO_7.out) (Kd.N_base ho50) hb);have n1_:=qK (Kd.N_elder' (by (with_reducible repeat (first|apply Kd.N_alloc|apply Kd.N_drewN|apply Kd.N_drew));exact HO_109.out) (Kd.N_base ho50) hb);have n2_:=qK (Kd.V_elder' (by (with_reducible repeat (first|apply Kd.V_alloc|apply Kd.V_drewN|apply Kd.V_drew));exact HL472_0.out) (Kd.N_base ho50) hb);have n3_:=qK (Kd.V_elder' (by (with_reducible repeat (first|apply Kd.V_alloc|apply Kd.V_drewN|apply Kd.V_drew));exact HL472_1.out) (Kd.N_base ho50) hb);have n4_:=qK (Kd.V_elder' (by (with_reducible repeat (first|apply Kd.V_alloc|apply Kd.V_drewN|apply Kd.V_drew));exact HO481.out) (Kd.N_base ho50) hb);have n5_:=qK (Kd.V_elder' (by (with_reducible repeat (first|apply Kd.V_alloc|apply Kd.V_drewN|apply Kd.V_drew));exact HO489.out) (Kd.N_base ho50) hb);have n6_:=qK (Kd.N_lower ho50 (qZ (by repeat (with_reducible first|exact HB.out|apply qA|apply qD|apply qO|refine qS ?_ GE473.out))));have n7_:=qK (qB (g:=gb473) (o:=_) (by (with_reducible repeat (first|refine qN ?_ _|refine qW ?_|refine qL ?_ _));exact BK473.out) hb);have n8_:=qK (qT (by repeat (with_reducible first|exact HB.out|apply qA|apply qD|apply qO|refine qS ?_ GE473.out)) hb);clear HO_7;clear HO_109;clear HL472_0;clear HL472_1;clear HO481;clear HO489;clear BK473;clear HB;have HO_7:=n0_;have HO_109:=n1_;have HL472_0:=n2_;have HL472_1:=n3_;have HO481:=n4_;have HO489:=n5_;have HO476:=n6_;have BK473:=n7_;have HB:=n8_;clear n0_ n1_ n2_ n3_ n4_ n5_ n6_ n7_ n8_;clear hb ho50;refine hK.out _ _ trivial (fun hHeld=>?_);clear hK K;refine norm_ (a':=?_) ?_ ?_;rotate_left
                       ·show Act.put _ (some 116) _=_
                        simp only [Act.put,sIb,sZ,sS,i64_w,i32_w];rfl
                       refine one_ (i:=4) (N:=some 120) #[Y,Y,Y,Y,Y,Y,Y,Y,Y,Z,Z] rfl rfl (one_of HT_.out (by kernel_rfl)) (by decide) (fun K hK=>?_);refine Kd.N_append_rows_step k37 (w0:=w) w.heap.size (by rfl) (.tmp 116) (.tmp 119) 24 37 (.agg #[(.slice none 0 0),(.slice none 0 0)]) 48 rfl Try.underlying24 info37 rfl (by decide) (by omega) v475 y474 y477 _ _ _ (fun k_=>k_ ≠ gb473) (fun k_=>((fun k_=>k_ ≠ gb473)) k_∧some k_ ≠ (v475:Value).ownBlock) rfl rfl ?aO ?aR (fun _ hk=>hk) ?aF ?aB ?aS ?aL ?_;(case aR=>exact (by skip;exact Kd.V_F (Kd.V_mono (ok':=(fun k_=>((fun k_=>k_ ≠ gb473)) k_∧some k_ ≠ (v475:Value).ownBlock)) (HO481.out) (fun k_ hk=>⟨hk.1,hk.2⟩))));(case aB=>exact (by repeat (with_reducible first|exact HB.out|apply qA|apply qD|apply qO|refine qS ?_ GE473.out)));(case aF=>exact (fun k_ hk=>Kd.freshB (g:=gb473) (o:=_) (by (with_reducible repeat (first|refine qN ?_ _|refine qW ?_|refine qL ?_ _));exact BK473.out) k_ hk));(case aO=>exact (by (with_reducible repeat (first|apply Kd.N_alloc|apply Kd.N_drewN|apply Kd.N_drew));exact Kd.N_mono HO476.out (fun _ hk=>hk.2.2)));(case aS=>exact (qZ (by repeat (with_reducible first|exact HB.out|apply qA|apply qD|apply qO|refine qS ?_ GE473.out))));(case aL=>have:=LMc34.out;omega);intro v483 w51 ho hb hg hat;rw [← Ny482.out] at ho;have n0_:=qK (Kd.N_afterv (ok:=(fun k_=>k_ ≠ gb473)) (by (with_reducible repeat (first|apply Kd.N_alloc|apply Kd.N_drewN|apply Kd.N_drew));exact HO_7.out) hg hat);have n1_:=qK (Kd.N_afterv (ok:=(fun k_=>k_ ≠ gb473)) (by (with_reducible repeat (first|apply Kd.N_alloc|apply Kd.N_drewN|apply Kd.N_drew));exact HO_109.out) hg hat);have n2_:=qK (Kd.V_afterv (ok:=(fun k_=>some k_ ≠ (.slice (some ad472) t456.length co13:Value).ownBlock∧k_ ≠ gb473)) (by (with_reducible repeat (first|apply Kd.V_alloc|apply Kd.V_drewN|apply Kd.V_drew));exact HL472_0.out) hg hat);have n3_:=qK (Kd.V_afterv (ok:=(fun k_=>some k_ ≠ (.slice (some ad472) t456.length co13:Value).ownBlock∧k_ ≠ gb473)) (by (with_reducible repeat (first|apply Kd.V_alloc|apply Kd.V_drewN|apply Kd.V_drew));exact HL472_1.out) hg hat);have n4_:=qK (blk_grown (g:=gb473) (o:=_) (by (with_reducible repeat (first|refine qN ?_ _|refine qW ?_|refine qL ?_ _));exact BK473.out) hg (Kd.N_away HO476.out (fun _ hk=>hk.2.2)));have n5_:=qK (Kd.V_afterv (ok:=(fun k_=>k_ ≠ gb473)) (by (with_reducible repeat (first|apply Kd.V_alloc|apply Kd.V_drewN|apply Kd.V_drew));exact HO481.out) hg hat);have n6_:=qK (Kd.V_afterv (ok:=(fun k_=>k_ ≠ gb473)) (by (with_reducible repeat (first|apply Kd.V_alloc|apply Kd.V_drewN|apply Kd.V_drew));exact HO489.out) hg hat);have n7_:=qK (hb);have n8_:=qK (ho);clear HO_7;clear HO_109;clear HL472_0;clear HL472_1;clear BK473;clear HO481;clear HO489;clear HB;clear HO476;have HO_7:=n0_;have HO_109:=n1_;have HL472_0:=n2_;have HL472_1:=n3_;have BK473:=n4_;have HO481:=n5_;have HO489:=n6_;have HB:=n7_;have HO484:=n8_;clear n0_ n1_ n2_ n3_ n4_ n5_ n6_ n7_ n8_;clear ho hb hg hat;refine hK.out _ _ trivial (fun hHeld=>?_);clear hK K;refine norm_ (a':=?_) ?_ ?_;rotate_left
                       ·show Act.put _ (some 120) _=_
                        simp only [Act.put,sIb,sZ,sS,i64_w,i32_w];rfl
                       refine one_ (i:=9) (N:=some 125) #[Y,Y,Y,Y,Y,Y,Y,Y,Y,Y,Z] rfl rfl (one_of HT_.out (by kernel_rfl)) (by decide) (fun K hK=>?_);refine Kd.N_append_rows_step k37 (w0:=w) w.heap.size (by rfl) (.tmp 120) (.tmp 124) 24 37 (.agg #[(.slice none 0 0),(.slice none 0 0)]) 48 rfl Try.underlying24 info37 rfl (by decide) (by omega) v483 y482 y485 _ _ _ (fun k_=>k_ ≠ gb473) (fun k_=>((fun k_=>k_ ≠ gb473)) k_∧some k_ ≠ (v483:Value).ownBlock) rfl rfl ?aO ?aR (fun _ hk=>hk) ?aF ?aB ?aS ?aL ?_;(case aR=>exact (by skip;exact Kd.V_F (Kd.V_mono (ok':=(fun k_=>((fun k_=>k_ ≠ gb473)) k_∧some k_ ≠ (v483:Value).ownBlock)) (HO489.out) (fun k_ hk=>⟨hk.1,hk.2⟩))));(case aB=>exact (by repeat (with_reducible first|exact HB.out|apply qA|apply qD|apply qO|refine qS ?_ GE473.out)));(case aF=>exact (fun k_ hk=>Kd.freshB (g:=gb473) (o:=_) (by (with_reducible repeat (first|refine qN ?_ _|refine qW ?_|refine qL ?_ _));exact BK473.out) k_ hk));(case aO=>exact (by (with_reducible repeat (first|apply Kd.N_alloc|apply Kd.N_drewN|apply Kd.N_drew));exact HO484.out));(case aS=>exact (qZ (by repeat (with_reducible first|exact HB.out|apply qA|apply qD|apply qO|refine qS ?_ GE473.out))));(case aL=>have:=LMc38.out;omega);intro v491 w52 ho hb hg hat;rw [← Ny490.out] at ho;have n0_:=qK (Kd.N_afterv (ok:=(fun k_=>k_ ≠ gb473)) (by (with_reducible repeat (first|apply Kd.N_alloc|apply Kd.N_drewN|apply Kd.N_drew));exact HO_7.out) hg hat);have n1_:=qK (Kd.N_afterv (ok:=(fun k_=>k_ ≠ gb473)) (by (with_reducible repeat (first|apply Kd.N_alloc|apply Kd.N_drewN|apply Kd.N_drew));exact HO_109.out) hg hat);have n2_:=qK (Kd.V_afterv (ok:=(fun k_=>some k_ ≠ (.slice (some ad472) t456.length co13:Value).ownBlock∧k_ ≠ gb473)) (by (with_reducible repeat (first|apply Kd.V_alloc|apply Kd.V_drewN|apply Kd.V_drew));exact HL472_0.out) hg hat);have n3_:=qK (Kd.V_afterv (ok:=(fun k_=>some k_ ≠ (.slice (some ad472) t456.length co13:Value).ownBlock∧k_ ≠ gb473)) (by (with_reducible repeat (first|apply Kd.V_alloc|apply Kd.V_drewN|apply Kd.V_drew));exact HL472_1.out) hg hat);have n4_:=qK (blk_grown (g:=gb473) (o:=_) (by (with_reducible repeat (first|refine qN ?_ _|refine qW ?_|refine qL ?_ _));exact BK473.out) hg (Kd.N_away HO484.out (fun _ hk=>hk)));have n5_:=qK (Kd.V_afterv (ok:=(fun k_=>k_ ≠ gb473)) (by (with_reducible repeat (first|apply Kd.V_alloc|apply Kd.V_drewN|apply Kd.V_drew));exact HO481.out) hg hat);have n6_:=qK (Kd.V_afterv (ok:=(fun k_=>k_ ≠ gb473)) (by (with_reducible repeat (first|apply Kd.V_alloc|apply Kd.V_drewN|apply Kd.V_drew));exact HO489.out) hg hat);have n7_:=qK (hb);have n8_:=qK (ho);clear HO_7;clear HO_109;clear HL472_0;clear HL472_1;clear BK473;clear HO481;clear HO489;clear HB;clear HO484;have HO_7:=n0_;have HO_109:=n1_;have HL472_0:=n2_;have HL472_1:=n3_;have BK473:=n4_;have HO481:=n5_;have HO489:=n6_;have HB:=n7_;have HO492:=n8_;clear n0_ n1_ n2_ n3_ n4_ n5_ n6_ n7_ n8_;clear ho hb hg hat;refine hK.out _ _ trivial (fun hHeld=>?_);clear hK K;refine norm_ (a':=?_) ?_ ?_;rotate_left
                       ·show Act.put _ (some 125) _=_
                        simp only [Act.put,sIb,sZ,sS,i64_w,i32_w];rfl
                       refine pure_ (i:=10) (N:=some 16) (v:=?_) (a':=?_) #[Y,Y,Y,Y,Y,Y,Y,Y,Y,Y,Y] rfl rfl (any_of HT_.out (by kernel_rfl)) (fun _ _ _ h=>h) (Or.inl ⟨by rfl,?_⟩) ?_ ?_;rotate_left
                       ·intro w';go_simp;with_reducible rfl
                       rotate_left
                       ·simp only [Act.put,sIb,sZ,sS,i64_w,i32_w];rfl
                       refine done_ (done_of HT_.out (by kernel_rfl)) ?_;have hcz53_0:w52.cell? ⟨gb473,0,none⟩=some (.slice A472_0 ((rd_T37 t456 x111_2).f0).length c472_0):=(qC BK473.out 0).trans rfl;have hcz53_1:w52.cell? ⟨gb473,1,none⟩=some (.slice A472_1 ((rd_T37 t456 x111_2).f1).length c472_1):=(qC BK473.out 1).trans rfl;have hfz53_0:=qF BK473.out 0;have hfz53_1:=qF BK473.out 1;obtain ⟨Ao54,co54,eo54⟩:=Kd.N_slice HO492.out;subst eo54;try go_wp2_with (first|((with_reducible refine gate_callee (f:=15) rfl ?_);refine goesL_ (some 130) rfl rfl Try.func15 (by kernel_rfl) rfl #[.slice Ao54 y490.length co54,.int .i64 t453,.agg #[.slice A472_0 ((rd_T37 t456 x111_2).f0).length c472_0,.slice A472_1 ((rd_T37 t456 x111_2).f1).length c472_1]] rfl (by (try simp only [mT,mC,mN]);first|done|rfl|(simp only [lD,lT];rfl)) ?_;(with_reducible refine (impl_Implies.calls k2 _ _ y490 t453 _ _ ((rd_T37 t456 x111_2).f0) _ _ ((rd_T37 t456 x111_2).f1) false true _ ?side1 ?side2 ?side3 ?side4 ?side5 ?side6 A39.out).mono ?_);(case side1=>repeat (first|exact (Kd.N_reads' HO492.out).2.2|(with_reducible first|refine cL ?_ _|refine cN ?_ _|refine cW ?_)));(case side2=>exact (Kd.N_reads' HO492.out).2.1);(case side3=>repeat (first|exact ((Kd.V_reads' (by (with_reducible repeat (first|apply Kd.V_alloc|apply Kd.V_drewN|apply Kd.V_drew));exact HL472_0.out)).2.2)|(with_reducible first|refine cL ?_ _|refine cN ?_ _|refine cW ?_)));(case side4=>exact HC472_0.out);(case side5=>repeat (first|exact ((Kd.V_reads' (by (with_reducible repeat (first|apply Kd.V_alloc|apply Kd.V_drewN|apply Kd.V_drew));exact HL472_1.out)).2.2)|(with_reducible first|refine cL ?_ _|refine cN ?_ _|refine cW ?_)));(case side6=>exact HC472_1.out);rintro e w55 ⟨rfl,hb⟩;refine ⟨_,rfl,?_⟩;have n0_:=qK (Kd.N_below (by (with_reducible repeat (first|apply Kd.N_alloc|apply Kd.N_drewN|apply Kd.N_drew));exact HO_7.out) hb);have n1_:=qK (Kd.N_below (by (with_reducible repeat (first|apply Kd.N_alloc|apply Kd.N_drewN|apply Kd.N_drew));exact HO_109.out) hb);have n2_:=qK (Kd.V_below (by (with_reducible repeat (first|apply Kd.V_alloc|apply Kd.V_drewN|apply Kd.V_drew));exact HL472_0.out) hb);have n3_:=qK (Kd.V_below (by (with_reducible repeat (first|apply Kd.V_alloc|apply Kd.V_drewN|apply Kd.V_drew));exact HL472_1.out) hb);have n4_:=qK (Kd.V_below (by (with_reducible repeat (first|apply Kd.V_alloc|apply Kd.V_drewN|apply Kd.V_drew));exact HO481.out) hb);have n5_:=qK (Kd.V_below (by (with_reducible repeat (first|apply Kd.V_alloc|apply Kd.V_drewN|apply Kd.V_drew));exact HO489.out) hb);have n6_:=qK (Kd.N_below (by (with_reducible repeat (first|apply Kd.N_alloc|apply Kd.N_drewN|apply Kd.N_drew));exact HO492.out) hb);have n7_:=qK (qB (g:=gb473) (o:=_) (by (with_reducible repeat (first|refine qN ?_ _|refine qW ?_|refine qL ?_ _));exact BK473.out) hb);have n8_:=qK (qT (by repeat (with_reducible first|exact HB.out|apply qA|apply qD|apply qO|refine qS ?_ GE473.out)) hb);clear HO_7;clear HO_109;clear HL472_0;clear HL472_1;clear HO481;clear HO489;clear HO492;clear BK473;clear HB;have HO_7:=n0_;have HO_109:=n1_;have HL472_0:=n2_;have HL472_1:=n3_;have HO481:=n4_;have HO489:=n5_;have HO492:=n6_;have BK473:=n7_;have HB:=n8_;clear n0_ n1_ n2_ n3_ n4_ n5_ n6_ n7_ n8_;(try clear hb);have hcz56_0:w55.cell? ⟨gb473,0,none⟩=some (.slice A472_0 ((rd_T37 t456 x111_2).f0).length c472_0):=(qC BK473.out 0).trans rfl;have hcz56_1:w55.cell? ⟨gb473,1,none⟩=some (.slice A472_1 ((rd_T37 t456 x111_2).f1).length c472_1):=(qC BK473.out 1).trans rfl;have hfz56_0:=qF BK473.out 0;have hfz56_1:=qF BK473.out 1))
                       go_loopg [147] k2 (fun kq v147 w'=>∃ (x147_3:Int),v147=.int .i64 x147_3∧Aside0 (laws_FnCover.l2 kq l1 t453 t456 t456 (t456.length:Int) x111_2 (((rd_T37 t456 x111_2).f0).length:Int) x147_3 ((rd_T37 t456 x111_2).f0) ((rd_T37 t456 x111_2).f1)=some r)∧Aside0 (kq≤k2)∧Aside0 (Kd.N k37 37 w' w.heap.size (fun k_=>k_ ≠ gb473) (.slice (some ad472) t456.length co13) t456)∧Aside0 (Kd.N k37 37 w' w.heap.size (fun k_=>k_ ≠ gb473) (.slice (some ad472) t456.length co13) t456)∧Aside0 (w'.heap[gb473]?=some (.cells #[(.slice A472_0 ((rd_T37 t456 x111_2).f0).length c472_0),(.slice A472_1 ((rd_T37 t456 x111_2).f1).length c472_1)] 37 (0,0)))∧Aside0 (Kd.V (Kd.int .i64) 3 w' w.heap.size (fun k_=>k_ ≠ gb473) (.slice A472_0 ((rd_T37 t456 x111_2).f0).length c472_0) ((rd_T37 t456 x111_2).f0))∧Aside0 (Kd.V (Kd.int .i64) 3 w' w.heap.size (fun k_=>k_ ≠ gb473) (.slice A472_1 ((rd_T37 t456 x111_2).f1).length c472_1) ((rd_T37 t456 x111_2).f1))∧Aside0 (Below w.heap.size w w'))
                       case atStart=>exact ⟨(0),(by first|rfl|(simp;done)|(simp [*];done)),H',⟨Nat.le_refl _⟩,⟨by (with_reducible repeat (first|apply Kd.N_alloc|apply Kd.N_drewN|apply Kd.N_drew));exact Kd.N_mono HO_7.out (fun _ hk=>hk.1)⟩,⟨by (with_reducible repeat (first|apply Kd.N_alloc|apply Kd.N_drewN|apply Kd.N_drew));exact Kd.N_mono HO_109.out (fun _ hk=>hk.1)⟩,⟨by (with_reducible repeat (first|refine qN ?_ _|refine qW ?_|refine qL ?_ _));exact BK473.out⟩,⟨by (with_reducible repeat (first|apply Kd.V_alloc|apply Kd.V_drewN|apply Kd.V_drew));exact Kd.V_mono HL472_0.out (fun _ hk=>by have h_:=hk;(try simp only [and_assoc] at h_);first|exact h_.2.1|exact h_.2)⟩,⟨by (with_reducible repeat (first|apply Kd.V_alloc|apply Kd.V_drewN|apply Kd.V_drew));exact Kd.V_mono HL472_1.out (fun _ hk=>by have h_:=hk;(try simp only [and_assoc] at h_);first|exact h_.2.1|exact h_.2)⟩,⟨by repeat (first|(with_reducible first|exact HB.out|apply qA|apply qD|apply qO|refine qS ?_ GE473.out)|exact HB.out)⟩⟩
                       case round =>
                        clear H';try clear c1
                        try clear c2
                        try clear p2
                        try clear c3
                        try clear c3b0
                        try clear c4
                        try clear p4
                        try clear q4
                        try clear hx4
                        try clear c6
                        try clear p6
                        try clear c7
                        try clear c7b0
                        try clear c7b1
                        try clear c7b2
                        try clear c8
                        try clear c8b0
                        try clear c8b1
                        try clear c8b2
                        try clear c12
                        try clear c13
                        try clear c14
                        try clear c15
                        try clear c15b0
                        try clear c16
                        try clear c16b0
                        try clear c17
                        try clear c17b0
                        try clear c18
                        try clear c18b0
                        try clear c20
                        try clear c22
                        try clear c24
                        try clear c26
                        try clear c27
                        try clear c29
                        try clear c29b0
                        try clear c30
                        try clear c30b0
                        try clear c31
                        try clear c31b0
                        try clear c32
                        try clear c32b0
                        try clear c33
                        try clear c33b0
                        try clear c33b1
                        try clear c34
                        try clear c36
                        try clear c36b0
                        try clear c36b1
                        try clear c37
                        try clear c37b0
                        try clear c37b1
                        try clear c38
                        try clear c40
                        try clear c41
                        try clear c42
                        try clear c42b0
                        try clear c42b1
                        try clear c46
                        try clear p46
                        try clear q46
                        try clear hx46
                        try clear c47
                        try clear p47
                        try clear q47
                        try clear hx47
                        try clear c48
                        try clear q48
                        try clear hcz44_0
                        try clear hcz44_1
                        try clear hcz53_0
                        try clear hcz53_1
                        try clear hcz56_0
                        try clear hcz56_1
                        try clear hfz44_0
                        try clear hfz44_1
                        try clear hfz53_0
                        try clear hfz53_1
                        try clear hfz56_0
                        try clear hfz56_1
                        try clear hx464_0
                        try clear hx464_1
                        try clear hx465_0
                        try clear hx465_1
                        try clear hx467_0
                        try clear hx467_1
                        try clear hx468_0
                        try clear hx468_1
                        try clear hx472_0
                        try clear hx472_1
                        try clear p2
                        try clear p4
                        try clear p464
                        try clear p465
                        try clear p467
                        try clear p468
                        try clear p472
                        try clear p6
                        try clear q048
                        try clear q4
                        try clear q464
                        try clear q465
                        try clear q467
                        try clear q468
                        try clear q47
                        try clear q472
                        try clear q48
                        obtain ⟨x147_3,rfl,HA,HK3,HO_7,HO_109,BK473,HV0_,HV1_,HB⟩:=hrel;(try clear HR472_0);(try clear HR472_1);have HR472_0:=qK (Kd.V_reads' HV0_.out).2.2;have HR472_1:=qK (Kd.V_reads' HV1_.out).2.2;cases gk with
                        | zero=>exact absurd HA.out (by simp [laws_FnCover.l2])
                        | succ k3 =>
                         have H:=HA.out;clear HA;simp only [laws_FnCover.l2] at H;by_cases c57:x147_3 < (((rd_T37 t456 x111_2).f0).length:Int)
                         ·rw [if_pos c57] at H;have c57b0:decide (x147_3 < (((rd_T37 t456 x111_2).f0).length:Int))=true:=decide_eq_true c57;clear c57;obtain ⟨y495,hy495⟩:∃ y_:List Int,y_=(([]:List Int)):=⟨_,rfl⟩;replace H:(if 0≤x147_3 then (if x147_3≤(((rd_T37 t456 x111_2).f0).length:Int) then (if y495.length + (((rd_T37 t456 x111_2).f0).take (x147_3:Int).toNat).length < 17592186044416 then ((some (y495 ++ (((rd_T37 t456 x111_2).f0).take (x147_3:Int).toNat):List Int)).bind fun y499=>(if 0≤(wrap64 (x147_3 + 1)) then (if (wrap64 (x147_3 + 1))≤(((rd_T37 t456 x111_2).f0).length:Int) then (if y499.length + (((rd_T37 t456 x111_2).f0).drop ((wrap64 (x147_3 + 1)):Int).toNat).length < 17592186044416 then ((impl_Implies.f k3 t456 t453 (y499 ++ (((rd_T37 t456 x111_2).f0).drop ((wrap64 (x147_3 + 1)):Int).toNat)) ((rd_T37 t456 x111_2).f1)).bind fun bt506=>(if bt506.2=true then (if bt506.1=true then (none) else (laws_FnCover.l2 k3 l1 t453 t456 t456 (t456.length:Int) x111_2 (((rd_T37 t456 x111_2).f0).length:Int) (wrap64 (x147_3 + 1)) ((rd_T37 t456 x111_2).f0) ((rd_T37 t456 x111_2).f1))) else (none))) else (none)) else (none)) else (none))) else (none)) else (none)) else (none))=some r:=by first|(rw [hy495];with_reducible exact H)|(have H2_:=(Option.bind_some _ _).symm.trans H;rw [hy495];with_reducible exact H2_)|(have H2_:=(Option.bind_some _ _).symm.trans H;with_reducible exact H2_)|with_reducible exact H|(rw [hy495];exact H)|exact H
                          have Ny495:=qK hy495;clear hy495;by_cases c58:0≤x147_3
                          ·rw [if_pos c58] at H;have c58b0:=eq_true c58;have c58b1:decide (0≤x147_3)=true:=decide_eq_true c58;clear c58;by_cases c59:x147_3≤(((rd_T37 t456 x111_2).f0).length:Int)
                           ·rw [if_pos c59] at H;have c59b0:=eq_true c59;have c59b1:decide (x147_3≤(((rd_T37 t456 x111_2).f0).length:Int))=true:=decide_eq_true c59;clear c59;by_cases c60:y495.length + (((rd_T37 t456 x111_2).f0).take (x147_3:Int).toNat).length < 17592186044416
                            ·rw [if_pos c60] at H;have LMc60:=qK c60;clear c60;obtain ⟨y499,hy499⟩:∃ y_:List Int,y_=(y495 ++ (((rd_T37 t456 x111_2).f0).take (x147_3:Int).toNat)):=⟨_,rfl⟩;replace H:(if 0≤(wrap64 (x147_3 + 1)) then (if (wrap64 (x147_3 + 1))≤(((rd_T37 t456 x111_2).f0).length:Int) then (if y499.length + (((rd_T37 t456 x111_2).f0).drop ((wrap64 (x147_3 + 1)):Int).toNat).length < 17592186044416 then ((impl_Implies.f k3 t456 t453 (y499 ++ (((rd_T37 t456 x111_2).f0).drop ((wrap64 (x147_3 + 1)):Int).toNat)) ((rd_T37 t456 x111_2).f1)).bind fun bt506=>(if bt506.2=true then (if bt506.1=true then (none) else (laws_FnCover.l2 k3 l1 t453 t456 t456 (t456.length:Int) x111_2 (((rd_T37 t456 x111_2).f0).length:Int) (wrap64 (x147_3 + 1)) ((rd_T37 t456 x111_2).f0) ((rd_T37 t456 x111_2).f1))) else (none))) else (none)) else (none)) else (none))=some r:=by first|(rw [hy499];with_reducible exact H)|(have H2_:=(Option.bind_some _ _).symm.trans H;rw [hy499];with_reducible exact H2_)|(have H2_:=(Option.bind_some _ _).symm.trans H;with_reducible exact H2_)|with_reducible exact H|(rw [hy499];exact H)|exact H
                             have Ny499:=qK hy499;clear hy499;obtain ⟨ji61,hji61⟩:∃ j_:Int,(wrap64 (x147_3 + 1))=j_:=⟨_,rfl⟩;replace H:(if 0≤(ji61) then (if (ji61)≤(((rd_T37 t456 x111_2).f0).length:Int) then (if y499.length + (((rd_T37 t456 x111_2).f0).drop ((ji61):Int).toNat).length < 17592186044416 then ((impl_Implies.f k3 t456 t453 (y499 ++ (((rd_T37 t456 x111_2).f0).drop ((ji61):Int).toNat)) ((rd_T37 t456 x111_2).f1)).bind fun bt506=>(if bt506.2=true then (if bt506.1=true then (none) else (laws_FnCover.l2 k3 l1 t453 t456 t456 (t456.length:Int) x111_2 (((rd_T37 t456 x111_2).f0).length:Int) ji61 ((rd_T37 t456 x111_2).f0) ((rd_T37 t456 x111_2).f1))) else (none))) else (none)) else (none)) else (none))=some r:=by first|(rw [hji61] at H;exact H)|(simp only [hji61] at H ⊢;exact H)
                             have hji61w:(IntKind.i64.wrap (x147_3 + 1))=ji61:=(i64_w _).trans hji61;by_cases c62:0≤(ji61)
                             ·rw [if_pos c62] at H;have c62b0:=eq_true c62;have c62b1:decide (0≤(ji61))=true:=decide_eq_true c62;clear c62;by_cases c63:(ji61)≤(((rd_T37 t456 x111_2).f0).length:Int)
                              ·rw [if_pos c63] at H;have c63b0:=eq_true c63;have c63b1:decide ((ji61)≤(((rd_T37 t456 x111_2).f0).length:Int))=true:=decide_eq_true c63;clear c63;by_cases c64:y499.length + (((rd_T37 t456 x111_2).f0).drop ((ji61):Int).toNat).length < 17592186044416
                               ·rw [if_pos c64] at H;have LMc64:=qK c64;clear c64;obtain ⟨y503,hy503⟩:∃ y_:List Int,y_=(y499 ++ (((rd_T37 t456 x111_2).f0).drop ((ji61):Int).toNat)):=⟨_,rfl⟩;replace H:((impl_Implies.f k3 t456 t453 y503 ((rd_T37 t456 x111_2).f1)).bind fun bt506=>(if bt506.2=true then (if bt506.1=true then (none) else (laws_FnCover.l2 k3 l1 t453 t456 t456 (t456.length:Int) x111_2 (((rd_T37 t456 x111_2).f0).length:Int) ji61 ((rd_T37 t456 x111_2).f0) ((rd_T37 t456 x111_2).f1))) else (none)))=some r:=by first|(rw [hy503];with_reducible exact H)|(have H2_:=(Option.bind_some _ _).symm.trans H;rw [hy503];with_reducible exact H2_)|(have H2_:=(Option.bind_some _ _).symm.trans H;with_reducible exact H2_)|with_reducible exact H|(rw [hy503];exact H)|exact H
                                have Ny503:=qK hy503;clear hy503;replace H:=Option.bind_eq_some_iff.mp H;obtain ⟨⟨t506,t507⟩,A650,H⟩:=H;replace H:(if t507=true then (if t506=true then (none) else (laws_FnCover.l2 k3 l1 t453 t456 t456 (t456.length:Int) x111_2 (((rd_T37 t456 x111_2).f0).length:Int) ji61 ((rd_T37 t456 x111_2).f0) ((rd_T37 t456 x111_2).f1))) else (none))=some r:=H;have A65:=qK A650;clear A650;by_cases c66:t507=true
                                ·subst c66;have H1:(if t506=true then (none) else (laws_FnCover.l2 k3 l1 t453 t456 t456 (t456.length:Int) x111_2 (((rd_T37 t456 x111_2).f0).length:Int) ji61 ((rd_T37 t456 x111_2).f0) ((rd_T37 t456 x111_2).f1)))=some r:=by rw [if_pos rfl] at H;exact H
                                 clear H;have H:=H1;clear H1;by_cases c67:t506=true
                                 ·subst c67;have H1:(none)=some r:=by rw [if_pos rfl] at H;exact H
                                  clear H;have H:=H1;clear H1;exact absurd H (by simp)
                                 ·replace c67:=Bool.eq_false_iff.mpr c67;subst c67;have H1:(laws_FnCover.l2 k3 l1 t453 t456 t456 (t456.length:Int) x111_2 (((rd_T37 t456 x111_2).f0).length:Int) ji61 ((rd_T37 t456 x111_2).f0) ((rd_T37 t456 x111_2).f1))=some r:=by rw [if_neg (show ¬ (false=true) by decide)] at H;exact H
                                  clear H;have H:=H1;clear H1;have H':=qK H;clear H;try go_wp2
                                  (try (rw [drewN_self wr];generalize hq_:World.drewN wr _=wr;have n0_:Aside0 (Kd.N k37 37 wr w.heap.size (fun k_=>k_ ≠ gb473) (.slice (some ad472) t456.length co13) t456):=⟨by rw [← hq_];exact (by (with_reducible repeat (first|apply Kd.N_alloc|apply Kd.N_drewN|apply Kd.N_drew));exact HO_109.out)⟩;have n1_:Aside0 (Kd.N k37 37 wr w.heap.size (fun k_=>k_ ≠ gb473) (.slice (some ad472) t456.length co13) t456):=⟨by rw [← hq_];exact (by (with_reducible repeat (first|apply Kd.N_alloc|apply Kd.N_drewN|apply Kd.N_drew));exact HO_7.out)⟩;have n2_:Aside0 (wr.heap[gb473]?=some (.cells #[.slice A472_0 ((rd_T37 t456 x111_2).f0).length c472_0,.slice A472_1 ((rd_T37 t456 x111_2).f1).length c472_1] 37 (0,0))):=⟨by rw [← hq_];exact (by (with_reducible repeat (first|refine qN ?_ _|refine qW ?_|refine qL ?_ _));exact BK473.out)⟩;have n3_:Aside0 (Below w.heap.size w wr):=⟨by rw [← hq_];exact (by repeat (with_reducible first|exact HB.out|apply qA|apply qD|apply qO|refine qS ?_ GE473.out))⟩;clear HO_109 HO_7 BK473 HB hq_;have HO_109:=n0_;have HO_7:=n1_;have BK473:=n2_;have HB:=n3_;clear n0_ n1_ n2_ n3_));have n0_:=qK (Kd.N_drew HO_7.out);have n1_:=qK (Kd.N_drew HO_109.out);have n2_:=qK (qW BK473.out);have n3_:=qK (qO HB.out);clear HO_7;clear HO_109;clear BK473;clear HB;have HO_7:=n0_;have HO_109:=n1_;have BK473:=n2_;have HB:=n3_;clear n0_ n1_ n2_ n3_;have HVa_:=qK (Kd.V_drew HV0_.out);have HVb_:=qK (Kd.V_drew HV1_.out);clear HV0_ HV1_;have HV0_:=HVa_;have HV1_:=HVb_;clear HVa_ HVb_;clear HR472_0 HR472_1;have HR472_0:=qK (Kd.V_reads' HV0_.out).2.2;have HR472_1:=qK (Kd.V_reads' HV1_.out).2.2;obtain ⟨i069,hi069,_,hsz69,_⟩:=info_parts info3;obtain ⟨hcut69,hA69,hC69⟩:=print_take_of (P:=Try.prog) (Value.int .i64) 0 35 3 .i64 Try.underlying35 hi069 hsz69 A472_0 c472_0 ((rd_T37 t456 x111_2).f0) x147_3 (of_decide_eq_true (by first|(with_reducible assumption)|assumption)) (of_decide_eq_true (by first|(with_reducible assumption)|assumption)) HC472_0.out;have HR498:=qK (Kd.C_of_reads (h1:=fun _=>rfl) (hA69 _ (Kd.reads_of_C HR472_0.out)));have HC498:=qK hC69;have HXhA69_:=qK hA69;clear hA69 hC69 hi069 hsz69;obtain ⟨i070,hi070,_,hsz70,_⟩:=info_parts info3;obtain ⟨A70,hcut70,hA70,hC70⟩:=print_drop_of (P:=Try.prog) (Value.int .i64) 0 35 3 .i64 Try.underlying35 hi070 hsz70 A472_0 c472_0 ((rd_T37 t456 x111_2).f0) (ji61) (of_decide_eq_true (by first|(with_reducible assumption)|assumption)) (of_decide_eq_true (by first|(with_reducible assumption)|assumption)) HC472_0.out;have HR502:=qK (Kd.C_of_reads (h1:=fun _=>rfl) (hA70 _ (Kd.reads_of_C HR472_0.out)));have HC502:=qK hC70;have HXhA70_:=qK hA70;clear hA70 hC70 hi070 hsz70;refine start_ (n:=13) (S:=fun w'=>w'.cell? ⟨gb473,0,none⟩=some (.slice A472_0 ((rd_T37 t456 x111_2).f0).length c472_0)∧w'.cell? ⟨gb473,1,none⟩=some (.slice A472_1 ((rd_T37 t456 x111_2).f1).length c472_1)) (ds:=[]) #[Z,Z,Z,Z,Z,Z,Z,Z,Z,Z,Z,Z,Z] (by kernel_rfl) rfl rfl ⟨(qC BK473.out 0).trans rfl,(qC BK473.out 1).trans rfl⟩ (fun hHeld=>?_);refine with_tabW laws_FnCover.tab28 laws_FnCover.bits28 (fun HT_ HW_=>?_);generalize wr.drew=w68 at HV0_ HV1_ HR472_0 HR472_1 HO_7 HO_109 BK473 HB HR498 HR502 hHeld ⊢
                                  refine pure_ (i:=1) (N:=some 151) (v:=?_) (a':=?_) #[Z,Y,Z,Z,Z,Z,Z,Z,Z,Z,Z,Z,Z] rfl rfl (any_of HT_.out (by kernel_rfl)) (fun _ _ _ h=>h) (Or.inl ⟨by rfl,?_⟩) ?_ ?_;rotate_left
                                  ·intro w';go_simp;with_reducible rfl
                                  rotate_left
                                  ·simp only [Act.put,sIb,sZ,sS,i64_w,i32_w];rfl
                                  refine pure_ (i:=3) (N:=some 153) (v:=?_) (a':=?_) #[Z,Y,Z,Y,Z,Z,Z,Z,Z,Z,Z,Z,Z] rfl rfl (any_of HT_.out (by kernel_rfl)) (fun _ _ _ h=>h) (Or.inl ⟨by rfl,?_⟩) ?_ ?_;rotate_left
                                  ·intro w';go_simp;with_reducible rfl
                                  rotate_left
                                  ·simp only [Act.put,sIb,sZ,sS,i64_w,i32_w];rfl
                                  refine pure_ (i:=6) (N:=some 156) (v:=?_) (a':=?_) #[Z,Y,Z,Y,Z,Z,Y,Z,Z,Z,Z,Z,Z] rfl rfl (any_of HT_.out (by kernel_rfl)) (fun _ _ _ h=>h) (Or.inl ⟨by rfl,?_⟩) ?_ ?_;rotate_left
                                  ·intro w';go_simp;with_reducible rfl
                                  rotate_left
                                  ·simp only [Act.put,sIb,sZ,sS,i64_w,i32_w];rfl
                                  refine pure_ (i:=8) (N:=some 158) (v:=?_) (a':=?_) #[Z,Y,Z,Y,Z,Z,Y,Z,Y,Z,Z,Z,Z] rfl rfl (any_of HT_.out (by kernel_rfl)) (fun _ _ _ h=>h) (Or.inl ⟨by rfl,?_⟩) ?_ ?_;rotate_left
                                  ·intro w';go_simp;with_reducible rfl
                                  rotate_left
                                  ·simp only [Act.put,sIb,sZ,sS,i64_w,i32_w];rfl
                                  refine pure_ (i:=9) (N:=some 159) (v:=?_) (a':=?_) #[Z,Y,Z,Y,Z,Z,Y,Z,Y,Y,Z,Z,Z] rfl rfl (any_of HT_.out (by kernel_rfl)) (fun _ _ _ h=>h) (Or.inl ⟨by rfl,?_⟩) ?_ ?_;rotate_left
                                  ·intro w';go_simp;with_reducible rfl
                                  rotate_left
                                  ·simp only [Act.put,sIb,sZ,sS,i64_w,i32_w];rfl
                                  refine take_ (i:=2) (N:=some 152) (v:=?_) (a':=?_) #[Z,Y,Y,Y,Z,Z,Y,Z,Y,Y,Z,Z,Z] rfl rfl (take_ofW HT_.out HW_.out (by kernel_rfl)) (fun _ _ _ h=>h) (Or.inl ⟨by rfl,?_⟩) hHeld ?_ ?_;rotate_left
                                  ·rintro w' ⟨s0,s1⟩;go_simp;with_reducible rfl
                                  rotate_left
                                  ·simp only [Act.put,sIb,sZ,sS,i64_w,i32_w];rfl
                                  refine pure_ (i:=4) (N:=some 154) (v:=?_) (a':=?_) #[Z,Y,Y,Y,Y,Z,Y,Z,Y,Y,Z,Z,Z] rfl rfl (any_of HT_.out (by kernel_rfl)) (fun _ _ _ h=>h) (Or.inl ⟨by rfl,?_⟩) ?_ ?_;rotate_left
                                  ·intro w';go_simp;with_reducible rfl
                                  rotate_left
                                  ·simp only [Act.put,sIb,sZ,sS,i64_w,i32_w];rfl
                                  refine take_ (i:=7) (N:=some 157) (v:=?_) (a':=?_) #[Z,Y,Y,Y,Y,Z,Y,Y,Y,Y,Z,Z,Z] rfl rfl (take_ofW HT_.out HW_.out (by kernel_rfl)) (fun _ _ _ h=>h) (Or.inl ⟨by rfl,?_⟩) hHeld ?_ ?_;rotate_left
                                  ·rintro w' ⟨s0,s1⟩;go_simp;with_reducible rfl
                                  rotate_left
                                  ·simp only [Act.put,sIb,sZ,sS,i64_w,i32_w];rfl
                                  refine pure_ (i:=10) (N:=some 160) (v:=?_) (a':=?_) #[Z,Y,Y,Y,Y,Z,Y,Y,Y,Y,Y,Z,Z] rfl rfl (any_of HT_.out (by kernel_rfl)) (fun _ _ _ h=>h) (Or.inl ⟨by rfl,?_⟩) ?_ ?_;rotate_left
                                  ·intro w';go_simp;with_reducible rfl
                                  rotate_left
                                  ·simp only [Act.put,sIb,sZ,sS,i64_w,i32_w];rfl
                                  refine one_ (i:=0) (N:=some 150) #[Y,Y,Y,Y,Y,Z,Y,Y,Y,Y,Y,Z,Z] rfl rfl (one_of HT_.out (by kernel_rfl)) (by decide) (fun K hK=>?_);refine Kd.R_lit_step (Kd.int .i64) _ 3 ?hg (N:=150) ?hd (xs:=([]:List Int)) (inner:=[]) (ok:=fun _=>True) (okp:=fun _=>True) ?hr ?hp (fun _ hk=>hk) trivial (Below.refl _ _) (Nat.le_refl _) (by simp) ?_;(case hd=>rfl);(case hg=>rfl);(case hr=>(go_simp;try rfl));(case hp=>exact (Reps.none _ _));intro v496 w71 ho72 hb hg_ hnew_;clear hg_ hnew_;(first|rw [← Ny495.out] at ho72|(simp only [Int.reduceToNat] at ho72;rw [← Ny495.out] at ho72));have n0_:=qK (Kd.N_elder' (by (with_reducible repeat (first|apply Kd.N_alloc|apply Kd.N_drewN|apply Kd.N_drew));exact HO_7.out) (Kd.R_base ho72) hb);have n1_:=qK (Kd.N_elder' (by (with_reducible repeat (first|apply Kd.N_alloc|apply Kd.N_drewN|apply Kd.N_drew));exact HO_109.out) (Kd.R_base ho72) hb);have n2_:=qK (Kd.R_lower ho72 (qZ (by repeat (with_reducible first|exact HB.out|apply qA|apply qD|apply qO|refine qS ?_ GE473.out))));have n3_:=qK (qB (g:=gb473) (o:=_) (by (with_reducible repeat (first|refine qN ?_ _|refine qW ?_|refine qL ?_ _));exact BK473.out) hb);have n4_:=qK (qT (by repeat (with_reducible first|exact HB.out|apply qA|apply qD|apply qO|refine qS ?_ GE473.out)) hb);have nv0_:=qK (Kd.V_elder' (by (with_reducible repeat (first|apply Kd.V_alloc|apply Kd.V_drewN|apply Kd.V_drew));exact HV0_.out) (Kd.R_base ho72) hb);have nv1_:=qK (Kd.V_elder' (by (with_reducible repeat (first|apply Kd.V_alloc|apply Kd.V_drewN|apply Kd.V_drew));exact HV1_.out) (Kd.R_base ho72) hb);clear HV0_ HV1_;have HV0_:=nv0_;have HV1_:=nv1_;clear nv0_ nv1_;clear HO_7;clear HO_109;clear BK473;clear HB;have HO_7:=n0_;have HO_109:=n1_;have HO497:=n2_;have BK473:=n3_;have HB:=n4_;clear n0_ n1_ n2_ n3_ n4_;clear hb ho72;refine hK.out _ _ ⟨(qC BK473.out 0).trans rfl,(qC BK473.out 1).trans rfl⟩ (fun hHeld=>?_);clear hK K;refine norm_ (a':=?_) ?_ ?_;rotate_left
                                  ·show Act.put _ (some 150) _=_
                                   simp only [Act.put,sIb,sZ,sS,i64_w,i32_w];rfl
                                  refine one_ (i:=5) (N:=some 155) #[Y,Y,Y,Y,Y,Y,Y,Y,Y,Y,Y,Z,Z] rfl rfl (one_of HT_.out (by kernel_rfl)) (by decide) (fun K hK=>?_);refine Kd.R_append_rows_step (Kd.int .i64) (w0:=w) w.heap.size (by rfl) (.tmp 150) (.tmp 154) 35 3 (.int .i64 0) 8 rfl Try.underlying35 info3 rfl (by decide) (by omega) v496 y495 (((rd_T37 t456 x111_2).f0).take (x147_3:Int).toNat) _ _ _ (fun _=>True) (fun _=>False) rfl rfl ?aO ?aR (fun _ _ h=>h) (fun _ h=>h.elim) ?aF ?aB ?aS ?aL ?_;(case aR=>(have h_:=Kd.C_of_reads (h1:=fun _=>rfl) (HXhA69_.out _ (Kd.reads_of_C (Kd.V_reads' HV0_.out).2.2));(first|exact h_|(rw [show (((rd_T37 t456 x111_2).f0).take (x147_3:Int).toNat).length=x147_3.toNat from (by rw [lT];have h_:(x147_3:Int)≤(((rd_T37 t456 x111_2).f0).length:Int):=of_decide_eq_true (by first|(with_reducible assumption)|assumption);omega)] at h_;exact h_))));(case aB=>exact (by repeat (with_reducible first|exact HB.out|apply qA|apply qD|apply qO|refine qS ?_ GE473.out)));(case aF=>exact (fun _ _=>trivial));(case aO=>exact (by (with_reducible repeat (first|apply rL|apply rN|apply rW));exact HO497.out));(case aS=>exact (qZ (by repeat (with_reducible first|exact HB.out|apply qA|apply qD|apply qO|refine qS ?_ GE473.out))));(case aL=>have:=LMc60.out;have hlx_:=(show (((rd_T37 t456 x111_2).f0).take (x147_3:Int).toNat).length=x147_3.toNat from (by rw [lT];have h_:(x147_3:Int)≤(((rd_T37 t456 x111_2).f0).length:Int):=of_decide_eq_true (by first|(with_reducible assumption)|assumption);omega));omega);intro v500 w73 ho hb hg hat;rw [← Ny499.out] at ho;have nv0_:=qK (Kd.V_afterv (ok:=(fun k_=>k_ ≠ gb473)) (by (with_reducible repeat (first|apply Kd.V_alloc|apply Kd.V_drewN|apply Kd.V_drew));exact HV0_.out) hg hat);have nv1_:=qK (Kd.V_afterv (ok:=(fun k_=>k_ ≠ gb473)) (by (with_reducible repeat (first|apply Kd.V_alloc|apply Kd.V_drewN|apply Kd.V_drew));exact HV1_.out) hg hat);clear HV0_ HV1_;have HV0_:=nv0_;have HV1_:=nv1_;clear nv0_ nv1_;have n0_:=qK (Kd.N_afterv (ok:=(fun k_=>k_ ≠ gb473)) (by (with_reducible repeat (first|apply Kd.N_alloc|apply Kd.N_drewN|apply Kd.N_drew));exact HO_7.out) hg hat);have n1_:=qK (Kd.N_afterv (ok:=(fun k_=>k_ ≠ gb473)) (by (with_reducible repeat (first|apply Kd.N_alloc|apply Kd.N_drewN|apply Kd.N_drew));exact HO_109.out) hg hat);have n2_:=qK (blk_grown (g:=gb473) (o:=_) (by (with_reducible repeat (first|refine qN ?_ _|refine qW ?_|refine qL ?_ _));exact BK473.out) hg (Kd.R_ne HO497.out BK473.out (by decide)));have n3_:=qK (hb);have n4_:=qK (ho);clear HO_7;clear HO_109;clear BK473;clear HB;clear HO497;have HO_7:=n0_;have HO_109:=n1_;have BK473:=n2_;have HB:=n3_;have HO501:=n4_;clear n0_ n1_ n2_ n3_ n4_;clear ho hb hg hat;refine hK.out _ _ ⟨(qC BK473.out 0).trans rfl,(qC BK473.out 1).trans rfl⟩ (fun hHeld=>?_);clear hK K;refine norm_ (a':=?_) ?_ ?_;rotate_left
                                  ·show Act.put _ (some 155) _=_
                                   simp only [Act.put,sIb,sZ,sS,i64_w,i32_w];rfl
                                  refine one_ (i:=11) (N:=some 161) #[Y,Y,Y,Y,Y,Y,Y,Y,Y,Y,Y,Y,Z] rfl rfl (one_of HT_.out (by kernel_rfl)) (by decide) (fun K hK=>?_);refine Kd.R_append_rows_step (Kd.int .i64) (w0:=w) w.heap.size (by rfl) (.tmp 155) (.tmp 160) 35 3 (.int .i64 0) 8 rfl Try.underlying35 info3 rfl (by decide) (by omega) v500 y499 (((rd_T37 t456 x111_2).f0).drop ((ji61):Int).toNat) _ _ _ (fun _=>True) (fun _=>False) rfl rfl ?aO ?aR (fun _ _ h=>h) (fun _ h=>h.elim) ?aF ?aB ?aS ?aL ?_;(case aR=>(have h_:=Kd.C_of_reads (h1:=fun _=>rfl) (HXhA70_.out _ (Kd.reads_of_C (Kd.V_reads' HV0_.out).2.2));(first|exact h_|(rw [show (((rd_T37 t456 x111_2).f0).drop ((ji61):Int).toNat).length=(((rd_T37 t456 x111_2).f0).length - (ji61).toNat) from lD] at h_;exact h_))));(case aB=>exact (by repeat (with_reducible first|exact HB.out|apply qA|apply qD|apply qO|refine qS ?_ GE473.out)));(case aF=>exact (fun _ _=>trivial));(case aO=>exact (by (with_reducible repeat (first|apply rL|apply rN|apply rW));exact HO501.out));(case aS=>exact (qZ (by repeat (with_reducible first|exact HB.out|apply qA|apply qD|apply qO|refine qS ?_ GE473.out))));(case aL=>have:=LMc64.out;have hlx_:=(show (((rd_T37 t456 x111_2).f0).drop ((ji61):Int).toNat).length=(((rd_T37 t456 x111_2).f0).length - (ji61).toNat) from lD);omega);intro v504 w74 ho hb hg hat;rw [← Ny503.out] at ho;have nv0_:=qK (Kd.V_afterv (ok:=(fun k_=>k_ ≠ gb473)) (by (with_reducible repeat (first|apply Kd.V_alloc|apply Kd.V_drewN|apply Kd.V_drew));exact HV0_.out) hg hat);have nv1_:=qK (Kd.V_afterv (ok:=(fun k_=>k_ ≠ gb473)) (by (with_reducible repeat (first|apply Kd.V_alloc|apply Kd.V_drewN|apply Kd.V_drew));exact HV1_.out) hg hat);clear HV0_ HV1_;have HV0_:=nv0_;have HV1_:=nv1_;clear nv0_ nv1_;have n0_:=qK (Kd.N_afterv (ok:=(fun k_=>k_ ≠ gb473)) (by (with_reducible repeat (first|apply Kd.N_alloc|apply Kd.N_drewN|apply Kd.N_drew));exact HO_7.out) hg hat);have n1_:=qK (Kd.N_afterv (ok:=(fun k_=>k_ ≠ gb473)) (by (with_reducible repeat (first|apply Kd.N_alloc|apply Kd.N_drewN|apply Kd.N_drew));exact HO_109.out) hg hat);have n2_:=qK (blk_grown (g:=gb473) (o:=_) (by (with_reducible repeat (first|refine qN ?_ _|refine qW ?_|refine qL ?_ _));exact BK473.out) hg (Kd.R_ne HO501.out BK473.out (by decide)));have n3_:=qK (hb);have n4_:=qK (ho);clear HO_7;clear HO_109;clear BK473;clear HB;clear HO501;have HO_7:=n0_;have HO_109:=n1_;have BK473:=n2_;have HB:=n3_;have HO505:=n4_;clear n0_ n1_ n2_ n3_ n4_;clear ho hb hg hat;refine hK.out _ _ ⟨(qC BK473.out 0).trans rfl,(qC BK473.out 1).trans rfl⟩ (fun hHeld=>?_);clear hK K;refine norm_ (a':=?_) ?_ ?_;rotate_left
                                  ·show Act.put _ (some 161) _=_
                                   simp only [Act.put,sIb,sZ,sS,i64_w,i32_w];rfl
                                  refine pure_ (i:=12) (N:=some 20) (v:=?_) (a':=?_) #[Y,Y,Y,Y,Y,Y,Y,Y,Y,Y,Y,Y,Y] rfl rfl (any_of HT_.out (by kernel_rfl)) (fun _ _ _ h=>h) (Or.inl ⟨by rfl,?_⟩) ?_ ?_;rotate_left
                                  ·intro w';go_simp;with_reducible rfl
                                  rotate_left
                                  ·simp only [Act.put,sIb,sZ,sS,i64_w,i32_w];rfl
                                  refine done_ (done_of HT_.out (by kernel_rfl)) ?_;have hcz75_0:w74.cell? ⟨gb473,0,none⟩=some (.slice A472_0 ((rd_T37 t456 x111_2).f0).length c472_0):=(qC BK473.out 0).trans rfl;have hcz75_1:w74.cell? ⟨gb473,1,none⟩=some (.slice A472_1 ((rd_T37 t456 x111_2).f1).length c472_1):=(qC BK473.out 1).trans rfl;have hfz75_0:=qF BK473.out 0;have hfz75_1:=qF BK473.out 1;obtain ⟨Ao76,co76,eo76⟩:=Kd.R_slice HO505.out;subst eo76;try go_wp2_with (first|((with_reducible refine gate_callee (f:=15) rfl ?_);refine goesL_ (some 169) rfl rfl Try.func15 (by kernel_rfl) rfl #[.slice (some ad472) t456.length co13,.int .i64 t453,.agg #[.slice Ao76 y503.length co76,.slice A472_1 ((rd_T37 t456 x111_2).f1).length c472_1]] rfl (by (try simp only [mT,mC,mN]);first|done|rfl|(simp only [lD,lT];rfl)) ?_;(with_reducible refine (impl_Implies.calls k3 _ _ t456 t453 _ _ y503 _ _ ((rd_T37 t456 x111_2).f1) false true _ ?side1 ?side2 ?side3 ?side4 ?side5 ?side6 A65.out).mono ?_);(case side1=>repeat (first|exact (Kd.N_reads' HO_7.out).2.2|(with_reducible first|refine cL ?_ _|refine cN ?_ _|refine cW ?_)));(case side2=>exact (Kd.N_reads' HO_7.out).2.1);(case side3=>repeat (first|exact (Kd.R_reads' HO505.out).2.2|(with_reducible first|refine cL ?_ _|refine cN ?_ _|refine cW ?_)));(case side4=>exact (Kd.R_reads' HO505.out).2.1);(case side5=>repeat (first|exact (Kd.V_reads' HV1_.out).2.2|(with_reducible first|refine cL ?_ _|refine cN ?_ _|refine cW ?_)));(case side6=>exact HC472_1.out);rintro e w77 ⟨rfl,hb⟩;refine ⟨_,rfl,?_⟩;have nv0_:=qK (Kd.V_below (by (with_reducible repeat (first|apply Kd.V_alloc|apply Kd.V_drewN|apply Kd.V_drew));exact HV0_.out) hb);have nv1_:=qK (Kd.V_below (by (with_reducible repeat (first|apply Kd.V_alloc|apply Kd.V_drewN|apply Kd.V_drew));exact HV1_.out) hb);clear HV0_ HV1_;have HV0_:=nv0_;have HV1_:=nv1_;clear nv0_ nv1_;have n0_:=qK (Kd.N_below (by (with_reducible repeat (first|apply Kd.N_alloc|apply Kd.N_drewN|apply Kd.N_drew));exact HO_7.out) hb);have n1_:=qK (Kd.N_below (by (with_reducible repeat (first|apply Kd.N_alloc|apply Kd.N_drewN|apply Kd.N_drew));exact HO_109.out) hb);have n2_:=qK (rB (by (with_reducible repeat (first|apply rL|apply rN|apply rW));exact HO505.out) hb);have n3_:=qK (qB (g:=gb473) (o:=_) (by (with_reducible repeat (first|refine qN ?_ _|refine qW ?_|refine qL ?_ _));exact BK473.out) hb);have n4_:=qK (qT (by repeat (with_reducible first|exact HB.out|apply qA|apply qD|apply qO|refine qS ?_ GE473.out)) hb);clear HO_7;clear HO_109;clear HO505;clear BK473;clear HB;have HO_7:=n0_;have HO_109:=n1_;have HO505:=n2_;have BK473:=n3_;have HB:=n4_;clear n0_ n1_ n2_ n3_ n4_;(try clear hb)))
                                  go_roundg k3
                                  case measure=>have:=HK1.out;have:=HK2.out;have:=HK3.out;omega
                                  case rel=>exact ⟨(ji61),(by first|rfl|(simp;done)|(simp only [← hji61] <;> (first|rfl|simp))|(simp [*];done)),H',⟨by have:=HK1.out;have:=HK2.out;have:=HK3.out;omega⟩,⟨by (with_reducible repeat (first|apply Kd.N_alloc|apply Kd.N_drewN|apply Kd.N_drew));exact Kd.N_mono HO_7.out (fun _ hk=>hk.1)⟩,⟨by (with_reducible repeat (first|apply Kd.N_alloc|apply Kd.N_drewN|apply Kd.N_drew));exact Kd.N_mono HO_109.out (fun _ hk=>hk.1)⟩,⟨by (with_reducible repeat (first|refine qN ?_ _|refine qW ?_|refine qL ?_ _));exact BK473.out⟩,⟨by (with_reducible repeat (first|apply Kd.V_alloc|apply Kd.V_drewN|apply Kd.V_drew));exact Kd.V_mono HV0_.out (fun _ hk=>hk.1)⟩,⟨by (with_reducible repeat (first|apply Kd.V_alloc|apply Kd.V_drewN|apply Kd.V_drew));exact Kd.V_mono HV1_.out (fun _ hk=>hk.1)⟩,⟨by repeat (first|(with_reducible first|exact HB.out|apply qA|apply qD|apply qO|refine qS ?_ GE473.out)|exact HB.out)⟩⟩
                                ·replace c66:=Bool.eq_false_iff.mpr c66;subst c66;have H1:(none)=some r:=by rw [if_neg (show ¬ (false=true) by decide)] at H;exact H
                                 clear H;have H:=H1;clear H1;exact absurd H (by simp)
                               ·rw [if_neg c64] at H;exact absurd H (by simp)
                              ·rw [if_neg c63] at H;exact absurd H (by simp)
                             ·rw [if_neg c62] at H;exact absurd H (by simp)
                            ·rw [if_neg c60] at H;exact absurd H (by simp)
                           ·rw [if_neg c59] at H;exact absurd H (by simp)
                          ·rw [if_neg c58] at H;exact absurd H (by simp)
                         ·rw [if_neg c57] at H;have c57b0:decide (x147_3 < (((rd_T37 t456 x111_2).f0).length:Int))=false:=decide_eq_false c57;clear c57;have H':=qK H;clear H;go_wp2
                          go_roundg k3
                          case measure=>have:=HK1.out;have:=HK2.out;have:=HK3.out;omega
                          case rel=>exact ⟨(wrap64 (x111_2 + 1)),(by first|rfl|(simp;done)|(simp [*];done)),H',⟨by have:=HK1.out;have:=HK2.out;have:=HK3.out;omega⟩,⟨by (with_reducible repeat (first|apply Kd.N_alloc|apply Kd.N_drewN|apply Kd.N_drew));exact Kd.N_mono HO_7.out (fun _ hk=>trivial)⟩,⟨by (with_reducible repeat (first|apply Kd.N_alloc|apply Kd.N_drewN|apply Kd.N_drew));exact Kd.N_mono HO_109.out (fun _ hk=>trivial)⟩,⟨by repeat (first|(with_reducible first|exact HB.out|apply qA|apply qD|apply qO|refine qS ?_ GE473.out)|exact HB.out)⟩⟩
                      ·rw [if_neg c42] at H;exact absurd H (by simp)
                    ·replace c40:=Bool.eq_false_iff.mpr c40;subst c40;have H1:(none)=some r:=by rw [if_neg (show ¬ (false=true) by decide)] at H;exact H
                     clear H;have H:=H1;clear H1;exact absurd H (by simp)
                   ·rw [if_neg c38] at H;exact absurd H (by simp)
                  ·rw [if_neg c37] at H;exact absurd H (by simp)
                 ·rw [if_neg c36] at H;exact absurd H (by simp)
                ·rw [if_neg c34] at H;exact absurd H (by simp)
               ·rw [if_neg c33] at H;exact absurd H (by simp)
              ·rw [if_neg c31] at H;exact absurd H (by simp)
             ·rw [if_neg c30] at H;exact absurd H (by simp)
            ·rw [if_neg c29] at H;have c29b0:decide (x111_2 < (t456.length:Int))=false:=decide_eq_false c29;clear c29;replace H:=Option.bind_eq_some_iff.mp H;obtain ⟨⟨t508,t511,t514⟩,A780,H⟩:=H;replace H:((impl_SameDepends.f k2 t508 t511 t514).bind fun bt515=>((spec_SameDepends.f k2 t508 t511 t514).bind fun bt517=>(if (bt515.2 == bt517.2)=true then (some (bt515.1 == bt517.1)) else (none))))=some r:=H;have A78:=qK A780;clear A780;replace H:=Option.bind_eq_some_iff.mp H;obtain ⟨⟨t515,t516⟩,A790,H⟩:=H;replace H:((spec_SameDepends.f k2 t508 t511 t514).bind fun bt517=>(if (t516 == bt517.2)=true then (some (t515 == bt517.1)) else (none)))=some r:=H;have A79:=qK A790;clear A790;replace H:=Option.bind_eq_some_iff.mp H;obtain ⟨⟨t517,t518⟩,A800,H⟩:=H;replace H:(if (t516 == t518)=true then (some (t515 == t517)) else (none))=some r:=H;have A80:=qK A800;clear A800;by_cases c81:(t516 == t518)=true
             ·rw [if_pos c81] at H;have c81b0:(t516 == t518)=true:=c81;(try (have c81b1:decide (t516=t518)=true:=by simpa using c81));(try (have c81b2:(t516 == t518)=true:=by simpa using c81));clear c81;obtain rfl:=Option.some.inj H;go_wp2_with (first|((with_reducible refine gate_callee (f:=16) rfl ?_);refine goesL_ (some 181) rfl rfl Try.func16 (by kernel_rfl) rfl #[.slice A1 l1.length c1] rfl (by (try simp only [mT,mC,mN]);first|done|rfl|(simp only [lD,lT];rfl)) ?_;(with_reducible refine (spec_DrawSameDepends.calls k2 _ _ l1 t508 t511 t514 _ ?side1 ?side2 A78.out).mono ?_);(case side1=>repeat (first|exact (cB HR1.out (by repeat (with_reducible first|exact HB.out|apply qA|apply qD|apply qO)))|(with_reducible first|refine cL ?_ _|refine cN ?_ _|refine cW ?_)));(case side2=>exact HC1.out);rintro e w82 ⟨v509,v512,rfl,ho0,ho1,hb⟩;refine ⟨_,rfl,?_⟩;have n0_:=qK (Kd.N_mono (Kd.N_told (Kd.N_told (Kd.N_old (by (with_reducible repeat (first|apply Kd.N_alloc|apply Kd.N_drewN|apply Kd.N_drew));exact HO_7.out) hb) (Kd.N_base ho0)) (Kd.N_base ho1)) (fun _ h_=>h_.1));have n1_:=qK (Kd.N_mono (Kd.N_told (Kd.N_told (Kd.N_old (by (with_reducible repeat (first|apply Kd.N_alloc|apply Kd.N_drewN|apply Kd.N_drew));exact HO_109.out) hb) (Kd.N_base ho0)) (Kd.N_base ho1)) (fun _ h_=>h_.1));have n2_:=qK (Kd.N_lower (Kd.N_mono (ok':=fun k_=>some k_ ≠ (v512:Value).ownBlock∧some k_ ≠ (.slice Ao13 t456.length co13:Value).ownBlock∧some k_ ≠ (.slice Ao13 t456.length co13:Value).ownBlock) ho0 (fun k_ hk_=>⟨hk_.2,(Kd.fresh' (Kd.N_lt (by (with_reducible repeat (first|apply Kd.N_alloc|apply Kd.N_drewN|apply Kd.N_drew));exact HO_7.out)) k_ hk_.1),(Kd.fresh' (Kd.N_lt (by (with_reducible repeat (first|apply Kd.N_alloc|apply Kd.N_drewN|apply Kd.N_drew));exact HO_109.out)) k_ hk_.1)⟩)) (qZ (by repeat (with_reducible first|exact HB.out|apply qA|apply qD|apply qO))));have n3_:=qK (Kd.N_lower (Kd.N_mono (ok':=fun k_=>some k_ ≠ (v509:Value).ownBlock∧some k_ ≠ (.slice Ao13 t456.length co13:Value).ownBlock∧some k_ ≠ (.slice Ao13 t456.length co13:Value).ownBlock) ho1 (fun k_ hk_=>⟨hk_.2,(Kd.fresh' (Kd.N_lt (by (with_reducible repeat (first|apply Kd.N_alloc|apply Kd.N_drewN|apply Kd.N_drew));exact HO_7.out)) k_ hk_.1),(Kd.fresh' (Kd.N_lt (by (with_reducible repeat (first|apply Kd.N_alloc|apply Kd.N_drewN|apply Kd.N_drew));exact HO_109.out)) k_ hk_.1)⟩)) (qZ (by repeat (with_reducible first|exact HB.out|apply qA|apply qD|apply qO))));have n4_:=qK (qT (by repeat (with_reducible first|exact HB.out|apply qA|apply qD|apply qO)) hb);clear HO_7;clear HO_109;clear HB;have HO_7:=n0_;have HO_109:=n1_;have HO510:=n2_;have HO513:=n3_;have HB:=n4_;clear n0_ n1_ n2_ n3_ n4_;(try clear hb);(try clear hb2);(try clear hk);(try clear hi);(try clear ho0);(try clear ho1);obtain ⟨Ao83,co83,eo83⟩:=Kd.N_slice HO510.out;subst eo83;obtain ⟨Ao84,co84,eo84⟩:=Kd.N_slice HO513.out;subst eo84)|((with_reducible refine gate_callee (f:=14) rfl ?_);refine goesL_ (some 189) rfl rfl Try.func14 (by kernel_rfl) rfl #[.slice Ao83 t508.length co83,.slice Ao84 t511.length co84,.int .i64 t514] rfl (by (try simp only [mT,mC,mN]);first|done|rfl|(simp only [lD,lT];rfl)) ?_;(with_reducible refine (impl_SameDepends.calls k2 _ _ t508 _ _ t511 t514 t515 t516 _ ?side1 ?side2 ?side3 ?side4 A79.out).mono ?_);(case side1=>repeat (first|exact (Kd.N_reads' HO510.out).2.2|(with_reducible first|refine cL ?_ _|refine cN ?_ _|refine cW ?_)));(case side2=>exact (Kd.N_reads' HO510.out).2.1);(case side3=>repeat (first|exact (Kd.N_reads' HO513.out).2.2|(with_reducible first|refine cL ?_ _|refine cN ?_ _|refine cW ?_)));(case side4=>exact (Kd.N_reads' HO513.out).2.1);rintro e w85 ⟨rfl,hb⟩;refine ⟨_,rfl,?_⟩;have n0_:=qK (Kd.N_below (by (with_reducible repeat (first|apply Kd.N_alloc|apply Kd.N_drewN|apply Kd.N_drew));exact HO_7.out) hb);have n1_:=qK (Kd.N_below (by (with_reducible repeat (first|apply Kd.N_alloc|apply Kd.N_drewN|apply Kd.N_drew));exact HO_109.out) hb);have n2_:=qK (Kd.N_below (by (with_reducible repeat (first|apply Kd.N_alloc|apply Kd.N_drewN|apply Kd.N_drew));exact HO510.out) hb);have n3_:=qK (Kd.N_below (by (with_reducible repeat (first|apply Kd.N_alloc|apply Kd.N_drewN|apply Kd.N_drew));exact HO513.out) hb);have n4_:=qK (qT (by repeat (with_reducible first|exact HB.out|apply qA|apply qD|apply qO)) hb);clear HO_7;clear HO_109;clear HO510;clear HO513;clear HB;have HO_7:=n0_;have HO_109:=n1_;have HO510:=n2_;have HO513:=n3_;have HB:=n4_;clear n0_ n1_ n2_ n3_ n4_;(try clear hb);(try clear hb2);(try clear hk);(try clear hi))|((with_reducible refine gate_callee (f:=17) rfl ?_);refine goesL_ (some 196) rfl rfl Try.func17 (by kernel_rfl) rfl #[.slice Ao83 t508.length co83,.slice Ao84 t511.length co84,.int .i64 t514] rfl (by (try simp only [mT,mC,mN]);first|done|rfl|(simp only [lD,lT];rfl)) ?_;(with_reducible refine (spec_SameDepends.calls k2 _ _ t508 _ _ t511 t514 t517 t518 _ ?side1 ?side2 ?side3 ?side4 A80.out).mono ?_);(case side1=>repeat (first|exact (Kd.N_reads' HO510.out).2.2|(with_reducible first|refine cL ?_ _|refine cN ?_ _|refine cW ?_)));(case side2=>exact (Kd.N_reads' HO510.out).2.1);(case side3=>repeat (first|exact (Kd.N_reads' HO513.out).2.2|(with_reducible first|refine cL ?_ _|refine cN ?_ _|refine cW ?_)));(case side4=>exact (Kd.N_reads' HO513.out).2.1);rintro e w86 ⟨rfl,hb⟩;refine ⟨_,rfl,?_⟩;have n0_:=qK (Kd.N_below (by (with_reducible repeat (first|apply Kd.N_alloc|apply Kd.N_drewN|apply Kd.N_drew));exact HO_7.out) hb);have n1_:=qK (Kd.N_below (by (with_reducible repeat (first|apply Kd.N_alloc|apply Kd.N_drewN|apply Kd.N_drew));exact HO_109.out) hb);have n2_:=qK (Kd.N_below (by (with_reducible repeat (first|apply Kd.N_alloc|apply Kd.N_drewN|apply Kd.N_drew));exact HO510.out) hb);have n3_:=qK (Kd.N_below (by (with_reducible repeat (first|apply Kd.N_alloc|apply Kd.N_drewN|apply Kd.N_drew));exact HO513.out) hb);have n4_:=qK (qT (by repeat (with_reducible first|exact HB.out|apply qA|apply qD|apply qO)) hb);clear HO_7;clear HO_109;clear HO510;clear HO513;clear HB;have HO_7:=n0_;have HO_109:=n1_;have HO510:=n2_;have HO513:=n3_;have HB:=n4_;clear n0_ n1_ n2_ n3_ n4_;(try clear hb);(try clear hb2);(try clear hk);(try clear hi)))
              go_ret
              exact ⟨by first|rfl|(simp [errW_none,errW_some] <;> rfl)|(simp [*,errW_none,errW_some] <;> rfl),by repeat (first|(with_reducible first|exact HB.out|apply qA|apply qD|apply qO)|exact HB.out)⟩
             ·rw [if_neg c81] at H;exact absurd H (by simp)
         ·replace c27:=Bool.eq_false_iff.mpr c27;subst c27;have H1:(none)=some r:=by rw [if_neg (show ¬ (false=true) by decide)] at H;exact H
          clear H;have H:=H1;clear H1;exact absurd H (by simp)
        ·replace c26:=Bool.eq_false_iff.mpr c26;subst c26;have H1:(none)=some r:=by rw [if_neg (show ¬ (false=true) by decide)] at H;exact H
         clear H;have H:=H1;clear H1;exact absurd H (by simp)
       ·replace c24:=Bool.eq_false_iff.mpr c24;subst c24;have H1:((spec_DrawSameDepends.f k1 l1).bind fun bt519=>((impl_SameDepends.f k1 bt519.1 bt519.2.1 bt519.2.2).bind fun bt526=>((spec_SameDepends.f k1 bt519.1 bt519.2.1 bt519.2.2).bind fun bt528=>(if (bt526.2 == bt528.2)=true then (some (bt526.1 == bt528.1)) else (none)))))=some r:=by rw [if_neg (show ¬ (false=true) by decide)] at H;exact H
        clear H;have H:=H1;clear H1;replace H:=Option.bind_eq_some_iff.mp H;obtain ⟨⟨t519,t522,t525⟩,A870,H⟩:=H;replace H:((impl_SameDepends.f k1 t519 t522 t525).bind fun bt526=>((spec_SameDepends.f k1 t519 t522 t525).bind fun bt528=>(if (bt526.2 == bt528.2)=true then (some (bt526.1 == bt528.1)) else (none))))=some r:=H;have A87:=qK A870;clear A870;replace H:=Option.bind_eq_some_iff.mp H;obtain ⟨⟨t526,t527⟩,A880,H⟩:=H;replace H:((spec_SameDepends.f k1 t519 t522 t525).bind fun bt528=>(if (t527 == bt528.2)=true then (some (t526 == bt528.1)) else (none)))=some r:=H;have A88:=qK A880;clear A880;replace H:=Option.bind_eq_some_iff.mp H;obtain ⟨⟨t528,t529⟩,A890,H⟩:=H;replace H:(if (t527 == t529)=true then (some (t526 == t528)) else (none))=some r:=H;have A89:=qK A890;clear A890;by_cases c90:(t527 == t529)=true
        ·rw [if_pos c90] at H;have c90b0:(t527 == t529)=true:=c90;(try (have c90b1:decide (t527=t529)=true:=by simpa using c90));(try (have c90b2:(t527 == t529)=true:=by simpa using c90));clear c90;obtain rfl:=Option.some.inj H;go_wp2_with (first|((with_reducible refine gate_callee (f:=16) rfl ?_);refine goesL_ (some 181) rfl rfl Try.func16 (by kernel_rfl) rfl #[.slice A1 l1.length c1] rfl (by (try simp only [mT,mC,mN]);first|done|rfl|(simp only [lD,lT];rfl)) ?_;(with_reducible refine (spec_DrawSameDepends.calls k1 _ _ l1 t519 t522 t525 _ ?side1 ?side2 A87.out).mono ?_);(case side1=>repeat (first|exact (cB HR1.out (by repeat (with_reducible first|exact HB.out|apply qA|apply qD|apply qO)))|(with_reducible first|refine cL ?_ _|refine cN ?_ _|refine cW ?_)));(case side2=>exact HC1.out);rintro e w91 ⟨v520,v523,rfl,ho0,ho1,hb⟩;refine ⟨_,rfl,?_⟩;have n0_:=qK (Kd.N_mono (Kd.N_told (Kd.N_told (Kd.N_old (by (with_reducible repeat (first|apply Kd.N_alloc|apply Kd.N_drewN|apply Kd.N_drew));exact HO_5.out) hb) (Kd.N_base ho0)) (Kd.N_base ho1)) (fun _ h_=>h_.1));have n1_:=qK (Kd.N_mono (Kd.N_told (Kd.N_told (Kd.N_old (by (with_reducible repeat (first|apply Kd.N_alloc|apply Kd.N_drewN|apply Kd.N_drew));exact HO_7.out) hb) (Kd.N_base ho0)) (Kd.N_base ho1)) (fun _ h_=>h_.1));have n2_:=qK (Kd.N_mono (Kd.N_told (Kd.N_told (Kd.N_old (by (with_reducible repeat (first|apply Kd.N_alloc|apply Kd.N_drewN|apply Kd.N_drew));exact HO_9.out) hb) (Kd.N_base ho0)) (Kd.N_base ho1)) (fun _ h_=>h_.1));have n3_:=qK (Kd.N_lower (Kd.N_mono (ok':=fun k_=>some k_ ≠ (v523:Value).ownBlock∧some k_ ≠ (.slice Ao10 t452.length co10:Value).ownBlock∧some k_ ≠ (.slice Ao13 t456.length co13:Value).ownBlock∧some k_ ≠ (.slice Ao14 t460.length co14:Value).ownBlock) ho0 (fun k_ hk_=>⟨hk_.2,(Kd.fresh' (Kd.N_lt (by (with_reducible repeat (first|apply Kd.N_alloc|apply Kd.N_drewN|apply Kd.N_drew));exact HO_5.out)) k_ hk_.1),(Kd.fresh' (Kd.N_lt (by (with_reducible repeat (first|apply Kd.N_alloc|apply Kd.N_drewN|apply Kd.N_drew));exact HO_7.out)) k_ hk_.1),(Kd.fresh' (Kd.N_lt (by (with_reducible repeat (first|apply Kd.N_alloc|apply Kd.N_drewN|apply Kd.N_drew));exact HO_9.out)) k_ hk_.1)⟩)) (qZ (by repeat (with_reducible first|exact HB.out|apply qA|apply qD|apply qO))));have n4_:=qK (Kd.N_lower (Kd.N_mono (ok':=fun k_=>some k_ ≠ (v520:Value).ownBlock∧some k_ ≠ (.slice Ao10 t452.length co10:Value).ownBlock∧some k_ ≠ (.slice Ao13 t456.length co13:Value).ownBlock∧some k_ ≠ (.slice Ao14 t460.length co14:Value).ownBlock) ho1 (fun k_ hk_=>⟨hk_.2,(Kd.fresh' (Kd.N_lt (by (with_reducible repeat (first|apply Kd.N_alloc|apply Kd.N_drewN|apply Kd.N_drew));exact HO_5.out)) k_ hk_.1),(Kd.fresh' (Kd.N_lt (by (with_reducible repeat (first|apply Kd.N_alloc|apply Kd.N_drewN|apply Kd.N_drew));exact HO_7.out)) k_ hk_.1),(Kd.fresh' (Kd.N_lt (by (with_reducible repeat (first|apply Kd.N_alloc|apply Kd.N_drewN|apply Kd.N_drew));exact HO_9.out)) k_ hk_.1)⟩)) (qZ (by repeat (with_reducible first|exact HB.out|apply qA|apply qD|apply qO))));have n5_:=qK (qT (by repeat (with_reducible first|exact HB.out|apply qA|apply qD|apply qO)) hb);clear HO_5;clear HO_7;clear HO_9;clear HB;have HO_5:=n0_;have HO_7:=n1_;have HO_9:=n2_;have HO521:=n3_;have HO524:=n4_;have HB:=n5_;clear n0_ n1_ n2_ n3_ n4_ n5_;(try clear hb);(try clear hb2);(try clear hk);(try clear hi);(try clear ho0);(try clear ho1);obtain ⟨Ao92,co92,eo92⟩:=Kd.N_slice HO521.out;subst eo92;obtain ⟨Ao93,co93,eo93⟩:=Kd.N_slice HO524.out;subst eo93)|((with_reducible refine gate_callee (f:=14) rfl ?_);refine goesL_ (some 189) rfl rfl Try.func14 (by kernel_rfl) rfl #[.slice Ao92 t519.length co92,.slice Ao93 t522.length co93,.int .i64 t525] rfl (by (try simp only [mT,mC,mN]);first|done|rfl|(simp only [lD,lT];rfl)) ?_;(with_reducible refine (impl_SameDepends.calls k1 _ _ t519 _ _ t522 t525 t526 t527 _ ?side1 ?side2 ?side3 ?side4 A88.out).mono ?_);(case side1=>repeat (first|exact (Kd.N_reads' HO521.out).2.2|(with_reducible first|refine cL ?_ _|refine cN ?_ _|refine cW ?_)));(case side2=>exact (Kd.N_reads' HO521.out).2.1);(case side3=>repeat (first|exact (Kd.N_reads' HO524.out).2.2|(with_reducible first|refine cL ?_ _|refine cN ?_ _|refine cW ?_)));(case side4=>exact (Kd.N_reads' HO524.out).2.1);rintro e w94 ⟨rfl,hb⟩;refine ⟨_,rfl,?_⟩;have n0_:=qK (Kd.N_below (by (with_reducible repeat (first|apply Kd.N_alloc|apply Kd.N_drewN|apply Kd.N_drew));exact HO_5.out) hb);have n1_:=qK (Kd.N_below (by (with_reducible repeat (first|apply Kd.N_alloc|apply Kd.N_drewN|apply Kd.N_drew));exact HO_7.out) hb);have n2_:=qK (Kd.N_below (by (with_reducible repeat (first|apply Kd.N_alloc|apply Kd.N_drewN|apply Kd.N_drew));exact HO_9.out) hb);have n3_:=qK (Kd.N_below (by (with_reducible repeat (first|apply Kd.N_alloc|apply Kd.N_drewN|apply Kd.N_drew));exact HO521.out) hb);have n4_:=qK (Kd.N_below (by (with_reducible repeat (first|apply Kd.N_alloc|apply Kd.N_drewN|apply Kd.N_drew));exact HO524.out) hb);have n5_:=qK (qT (by repeat (with_reducible first|exact HB.out|apply qA|apply qD|apply qO)) hb);clear HO_5;clear HO_7;clear HO_9;clear HO521;clear HO524;clear HB;have HO_5:=n0_;have HO_7:=n1_;have HO_9:=n2_;have HO521:=n3_;have HO524:=n4_;have HB:=n5_;clear n0_ n1_ n2_ n3_ n4_ n5_;(try clear hb);(try clear hb2);(try clear hk);(try clear hi))|((with_reducible refine gate_callee (f:=17) rfl ?_);refine goesL_ (some 196) rfl rfl Try.func17 (by kernel_rfl) rfl #[.slice Ao92 t519.length co92,.slice Ao93 t522.length co93,.int .i64 t525] rfl (by (try simp only [mT,mC,mN]);first|done|rfl|(simp only [lD,lT];rfl)) ?_;(with_reducible refine (spec_SameDepends.calls k1 _ _ t519 _ _ t522 t525 t528 t529 _ ?side1 ?side2 ?side3 ?side4 A89.out).mono ?_);(case side1=>repeat (first|exact (Kd.N_reads' HO521.out).2.2|(with_reducible first|refine cL ?_ _|refine cN ?_ _|refine cW ?_)));(case side2=>exact (Kd.N_reads' HO521.out).2.1);(case side3=>repeat (first|exact (Kd.N_reads' HO524.out).2.2|(with_reducible first|refine cL ?_ _|refine cN ?_ _|refine cW ?_)));(case side4=>exact (Kd.N_reads' HO524.out).2.1);rintro e w95 ⟨rfl,hb⟩;refine ⟨_,rfl,?_⟩;have n0_:=qK (Kd.N_below (by (with_reducible repeat (first|apply Kd.N_alloc|apply Kd.N_drewN|apply Kd.N_drew));exact HO_5.out) hb);have n1_:=qK (Kd.N_below (by (with_reducible repeat (first|apply Kd.N_alloc|apply Kd.N_drewN|apply Kd.N_drew));exact HO_7.out) hb);have n2_:=qK (Kd.N_below (by (with_reducible repeat (first|apply Kd.N_alloc|apply Kd.N_drewN|apply Kd.N_drew));exact HO_9.out) hb);have n3_:=qK (Kd.N_below (by (with_reducible repeat (first|apply Kd.N_alloc|apply Kd.N_drewN|apply Kd.N_drew));exact HO521.out) hb);have n4_:=qK (Kd.N_below (by (with_reducible repeat (first|apply Kd.N_alloc|apply Kd.N_drewN|apply Kd.N_drew));exact HO524.out) hb);have n5_:=qK (qT (by repeat (with_reducible first|exact HB.out|apply qA|apply qD|apply qO)) hb);clear HO_5;clear HO_7;clear HO_9;clear HO521;clear HO524;clear HB;have HO_5:=n0_;have HO_7:=n1_;have HO_9:=n2_;have HO521:=n3_;have HO524:=n4_;have HB:=n5_;clear n0_ n1_ n2_ n3_ n4_ n5_;(try clear hb);(try clear hb2);(try clear hk);(try clear hi)))
         go_ret
         exact ⟨by first|rfl|(simp [errW_none,errW_some] <;> rfl)|(simp [*,errW_none,errW_some] <;> rfl),by repeat (first|(with_reducible first|exact HB.out|apply qA|apply qD|apply qO)|exact HB.out)⟩
        ·rw [if_neg c90] at H;exact absurd H (by simp)
   ·rw [if_neg c8] at H;exact absurd H (by simp)

/-- THE ONE PURE STATEMENT of laws_FnCover: yours. -/
def laws_FnCover.Pure : Prop:=∀ (l0:List Int) (l1:List Int),l0.length≤maxLen→l0.length * 1≤140737488351232→(∀ x ∈ l0,(Lit.int .u8 x).wf=true)→l1.length≤maxLen→l1.length * 1≤140737488351232→(∀ x ∈ l1,(Lit.int .u8 x).wf=true)→∃ k,laws_FnCover.f k l0 l1=some true
theorem laws_FnCover.walk (P:laws_FnCover.Pure) (a0:Option Addr) (len0 cap0:Nat) (z0:List Int) (a1:Option Addr) (len1 cap1:Nat) (z1:List Int) (w:World) (w0:(a0=none∧len0=0∧cap0=0∧z0=[]) ∨ ∃ x,a0=some x∧len0≤cap0∧cap0≤maxLen∧z0.length=cap0∧(∀ i,i < z0.length→w.cell? (x.add i)=some (.int .u8 (z0.getD i 0)))∧∀ n ∈ z0,(Lit.int .u8 n).wf=true) (y0:len0 * 1≤140737488351232) (w1:(a1=none∧len1=0∧cap1=0∧z1=[]) ∨ ∃ x,a1=some x∧len1≤cap1∧cap1≤maxLen∧z1.length=cap1∧(∀ i,i < z1.length→w.cell? (x.add i)=some (.int .u8 (z1.getD i 0)))∧∀ n ∈ z1,(Lit.int .u8 n).wf=true) (y1:len1 * 1≤140737488351232) :
  Calls Try.prog 4 #[.slice a0 len0 cap0,.slice a1 len1 cap1] w fun e w'=>e=.returned (.bool true)∧Below w.heap.size w w':=by
 obtain ⟨l0,rfl,hr0,hm0,hw0,hc0⟩:=ReadsInt.ofRowC w0;obtain ⟨l1,rfl,hr1,hm1,hw1,hc1⟩:=ReadsInt.ofRowC w1;obtain ⟨k,h⟩:=P l0 l1 hm0 y0 hw0 hm1 y1 hw1;refine (laws_FnCover.calls k _ _ l0 _ _ l1 true w (Kd.C_of_reads (d:=(0:Int)) (h1:=fun _=>rfl) hr0) hc0 (Kd.C_of_reads (d:=(0:Int)) (h1:=fun _=>rfl) hr1) hc1 h).mono ?_;rintro e w' ⟨rfl,hd⟩;exact ⟨rfl,hd⟩

end Go.Proofs.Ytadfmbmnnekamaa.PFnCover
