/-
  A text of this claim's own, printed by a program of the session (wip/tools/xprint.py): functions of the program as Lean functions, each with what its call comes to.
-/
import Derived.Test.YtfnaclgiggkbmaaPFnExactRunDonex0
import Derived.Test.YtfnaclgiggkbmaaPFnExactRunDonex3
import Derived.Test.YtfnaclgiggkbmaaPFnExactRunDonex4
namespace Go.Proofs.Ytfnaclgiggkbmaa.PFnExactRunDone
open Go.Proofs.YtfnaclgiggkbmaaW.PrintWords renaming pw_below_drewN → qD, blk_cell → qC, below_drew1 → qO, below_alloc → qA, blk_frozen → qF, below_set → qS, blk_drewN → qN, blk_alloc → qL, blk_drew → qW, below_size → qZ, below_step → qT, blk_below → qB, blk_far → qR, blk_put → qP
open Go.Proofs.YtfnaclgiggkbmaaW.PrintWords.Aside0 renaming mk → qK
open Bool renaming true → Y, false → Z
open List renaming setIfInBounds_toArray → sIb, set_cons_zero → sZ, set_cons_succ → sS, map_toArray → mT, map_cons → mC, map_nil → mN, length_drop → lD, length_take → lT
open Go.Proofs.YtfnaclgiggkbmaaW.PrintWords.Kd renaming C_alloc → cL, C_drewN → cN, C_drew → cW, C_below → cB, R_alloc → rL, R_drewN → rN, R_drew → rW, R_below → rB
open Go.RowKit Go.Proofs.YtfnaclgiggkbmaaW.PrintWords Go.Proofs.YtfnaclgiggkbmaaW.PrintLast Go.Proofs.YtfnaclgiggkbmaaW.PrintMore
attribute [local go_sem] max2_int min2_int max_two min_two max_three min_three max_four min_four   -- for this text's walks alone
set_option linter.unusedVariables false
set_option linter.unusedSimpArgs false

/-! ### impl_GoodLocks: function 25 -/
mutual
def impl_GoodLocks.j0 : Nat→List Int→Bool→List (S47)→List (S47)→List (S47)→List Int→List Int→Option (Bool)
 | 0,_,_,_,_,_,_,_=>none
 | k + 1,x3,x39,x239000,x239001,x239002,x239003,x239004=>if x39=true then (some false) else ((impl_setOf.f k x3).bind fun t246=>((impl_set_list.f k t246).bind fun t247=>(if (t247.length:Int)=(x3.length:Int) then ((impl_txnsOf.f k x239001).bind fun t250=>((impl_set_list.f k t250).bind fun t251=>(if (t251.length:Int)=(x239001.length:Int) then ((impl_txnsOf.f k x239001).bind fun t254=>((impl_txnsOf.f k x239000).bind fun t255=>(impl_GoodLocks.j1 k ((Go.bits .and .i64 t246 (Go.bits .or .i64 t254 t255)) != 0) x239000 x239001 x239002 x239003 x239004))) else (impl_GoodLocks.j1 k true x239000 x239001 x239002 x239003 x239004)))) else (impl_GoodLocks.j1 k true x239000 x239001 x239002 x239003 x239004))))
def impl_GoodLocks.j1 : Nat→Bool→List (S47)→List (S47)→List (S47)→List Int→List Int→Option (Bool)
 | 0,_,_,_,_,_,_=>none
 | k + 1,x70,x239000,x239001,x239002,x239003,x239004=>if x70=true then (some false) else (impl_GoodLocks.l0 k x239000 (x239000.length:Int) 0 x239000 x239001 x239002 x239003 x239004)
def impl_GoodLocks.l0 : Nat→List (S47)→Int→Int→List (S47)→List (S47)→List (S47)→List Int→List Int→Option (Bool)
 | 0,_,_,_,_,_,_,_,_=>none
 | k + 1,x72,x73,x74,x239000,x239001,x239002,x239003,x239004=>if x74 < x73 then (if 0≤x74 then (if x74 < (x72.length:Int) then (if x74 > 0 then (if 0≤(wrap64 (x74 - 1)) then (if (wrap64 (x74 - 1)) < (x239000.length:Int) then ((impl_compareLocks.f k ((rd_T47 x239000 (wrap64 (x74 - 1))).f0) ((rd_T47 x239000 (wrap64 (x74 - 1))).f1) ((rd_T47 x239000 (wrap64 (x74 - 1))).f2) ((rd_T47 x72 x74).f0) ((rd_T47 x72 x74).f1) ((rd_T47 x72 x74).f2)).bind fun t259=>(if t259 ≥ 0 then (some false) else (if x74≤(x239000.length:Int) then ((anyf_GoodLocks1.f (x239000.take (x74:Int).toNat) ((rd_T47 x72 x74).f0) ((rd_T47 x72 x74).f1) ((rd_T47 x72 x74).f2)).bind fun t264=>(if t264=true then (some false) else (impl_GoodLocks.l0 k x72 x73 (wrap64 (x74 + 1)) x239000 x239001 x239002 x239003 x239004))) else (none)))) else (none)) else (none)) else (if x74≤(x239000.length:Int) then ((anyf_GoodLocks1.f (x239000.take (x74:Int).toNat) ((rd_T47 x72 x74).f0) ((rd_T47 x72 x74).f1) ((rd_T47 x72 x74).f2)).bind fun t269=>(if t269=true then (some false) else (impl_GoodLocks.l0 k x72 x73 (wrap64 (x74 + 1)) x239000 x239001 x239002 x239003 x239004))) else (none))) else (none)) else (none)) else (some true)
end
def impl_GoodLocks.f (k:Nat) (l0_0:List (S47)) (l0_1:List (S47)) (l0_2:List (S47)) (l0_3:List Int) (l0_4:List Int):Option (Bool):=(impl_Locks_over.f k l0_0 l0_1 l0_2 l0_3 l0_4).bind fun t239=>((areAll_isStep.f l0_0).bind fun t242=>(if t242=true then ((areAll_isStep.f l0_1).bind fun t243=>(if t243=true then ((areAll_isStep.f l0_2).bind fun t244=>(if t244=true then (if (wrap64 ((l0_2.length:Int) + (l0_1.length:Int))) > 40 then (impl_GoodLocks.j0 k t239 true l0_0 l0_1 l0_2 l0_3 l0_4) else ((areAll_isTxn.f t239).bind fun t245=>(impl_GoodLocks.j0 k t239 (!t245) l0_0 l0_1 l0_2 l0_3 l0_4))) else (impl_GoodLocks.j0 k t239 true l0_0 l0_1 l0_2 l0_3 l0_4))) else (impl_GoodLocks.j0 k t239 true l0_0 l0_1 l0_2 l0_3 l0_4))) else (impl_GoodLocks.j0 k t239 true l0_0 l0_1 l0_2 l0_3 l0_4)))
theorem impl_GoodLocks.mono_l : ∀ k,(∀ y0 y1 y2 y3 y4 y5 y6,LeO (impl_GoodLocks.j0 k y0 y1 y2 y3 y4 y5 y6) (impl_GoodLocks.j0 (k + 1) y0 y1 y2 y3 y4 y5 y6))∧(∀ y0 y1 y2 y3 y4 y5,LeO (impl_GoodLocks.j1 k y0 y1 y2 y3 y4 y5) (impl_GoodLocks.j1 (k + 1) y0 y1 y2 y3 y4 y5))∧(∀ y0 y1 y2 y3 y4 y5 y6 y7,LeO (impl_GoodLocks.l0 k y0 y1 y2 y3 y4 y5 y6 y7) (impl_GoodLocks.l0 (k + 1) y0 y1 y2 y3 y4 y5 y6 y7))
 | 0=>⟨fun _ _ _ _ _ _ _ r h=>by simp [impl_GoodLocks.j0] at h,fun _ _ _ _ _ _ r h=>by simp [impl_GoodLocks.j1] at h,fun _ _ _ _ _ _ _ _ r h=>by simp [impl_GoodLocks.l0] at h⟩
 | k + 1=>by
  obtain ⟨ih0,ih1,ih2⟩:=impl_GoodLocks.mono_l k;refine ⟨?_,?_,?_⟩
  ·intro y0 y1 y2 y3 y4 y5 y6;unfold impl_GoodLocks.j0
   repeat' first
   | (with_reducible exact ih0 _ _ _ _ _ _ _)
   | (with_reducible exact ih1 _ _ _ _ _ _)
   | (with_reducible exact ih2 _ _ _ _ _ _ _ _)
   | (with_reducible exact impl_Locks_over.mono _ _ _ _ _ _)
   | (with_reducible exact impl_compareLocks.mono _ _ _ _ _ _ _)
   | (with_reducible exact impl_setOf.mono _ _)
   | (with_reducible exact impl_set_list.mono _ _)
   | (with_reducible exact impl_txnsOf.mono _ _)
   | (with_reducible exact LeO.refl _)
   | (with_reducible exact LeO.none _)
   | (with_reducible refine LeO.ite ?_ ?_)
   | (with_reducible refine LeO.bind ?_ (fun _=>?_))
   | exact ih0 _ _ _ _ _ _ _
   | exact ih1 _ _ _ _ _ _
   | exact ih2 _ _ _ _ _ _ _ _
   | exact impl_Locks_over.mono _ _ _ _ _ _
   | exact impl_compareLocks.mono _ _ _ _ _ _ _
   | exact impl_setOf.mono _ _
   | exact impl_set_list.mono _ _
   | exact impl_txnsOf.mono _ _
   | exact LeO.none _
   | refine LeO.ite ?_ ?_
   | refine LeO.bind ?_ (fun _=>?_)
  ·intro y0 y1 y2 y3 y4 y5;unfold impl_GoodLocks.j1
   repeat' first
   | (with_reducible exact ih0 _ _ _ _ _ _ _)
   | (with_reducible exact ih1 _ _ _ _ _ _)
   | (with_reducible exact ih2 _ _ _ _ _ _ _ _)
   | (with_reducible exact impl_Locks_over.mono _ _ _ _ _ _)
   | (with_reducible exact impl_compareLocks.mono _ _ _ _ _ _ _)
   | (with_reducible exact impl_setOf.mono _ _)
   | (with_reducible exact impl_set_list.mono _ _)
   | (with_reducible exact impl_txnsOf.mono _ _)
   | (with_reducible exact LeO.refl _)
   | (with_reducible exact LeO.none _)
   | (with_reducible refine LeO.ite ?_ ?_)
   | (with_reducible refine LeO.bind ?_ (fun _=>?_))
   | exact ih0 _ _ _ _ _ _ _
   | exact ih1 _ _ _ _ _ _
   | exact ih2 _ _ _ _ _ _ _ _
   | exact impl_Locks_over.mono _ _ _ _ _ _
   | exact impl_compareLocks.mono _ _ _ _ _ _ _
   | exact impl_setOf.mono _ _
   | exact impl_set_list.mono _ _
   | exact impl_txnsOf.mono _ _
   | exact LeO.none _
   | refine LeO.ite ?_ ?_
   | refine LeO.bind ?_ (fun _=>?_)
  ·intro y0 y1 y2 y3 y4 y5 y6 y7;unfold impl_GoodLocks.l0
   repeat' first
   | (with_reducible exact ih0 _ _ _ _ _ _ _)
   | (with_reducible exact ih1 _ _ _ _ _ _)
   | (with_reducible exact ih2 _ _ _ _ _ _ _ _)
   | (with_reducible exact impl_Locks_over.mono _ _ _ _ _ _)
   | (with_reducible exact impl_compareLocks.mono _ _ _ _ _ _ _)
   | (with_reducible exact impl_setOf.mono _ _)
   | (with_reducible exact impl_set_list.mono _ _)
   | (with_reducible exact impl_txnsOf.mono _ _)
   | (with_reducible exact LeO.refl _)
   | (with_reducible exact LeO.none _)
   | (with_reducible refine LeO.ite ?_ ?_)
   | (with_reducible refine LeO.bind ?_ (fun _=>?_))
   | exact ih0 _ _ _ _ _ _ _
   | exact ih1 _ _ _ _ _ _
   | exact ih2 _ _ _ _ _ _ _ _
   | exact impl_Locks_over.mono _ _ _ _ _ _
   | exact impl_compareLocks.mono _ _ _ _ _ _ _
   | exact impl_setOf.mono _ _
   | exact impl_set_list.mono _ _
   | exact impl_txnsOf.mono _ _
   | exact LeO.none _
   | refine LeO.ite ?_ ?_
   | refine LeO.bind ?_ (fun _=>?_)
theorem impl_GoodLocks.mono : ∀ a0 a1 a2 a3 a4 k,LeO (impl_GoodLocks.f k a0 a1 a2 a3 a4) (impl_GoodLocks.f (k + 1) a0 a1 a2 a3 a4):=by
 intro a0 a1 a2 a3 a4 k;obtain ⟨ih0,ih1,ih2⟩:=impl_GoodLocks.mono_l k;unfold impl_GoodLocks.f
 repeat' first
   | (with_reducible exact ih0 _ _ _ _ _ _ _)
   | (with_reducible exact ih1 _ _ _ _ _ _)
   | (with_reducible exact ih2 _ _ _ _ _ _ _ _)
   | (with_reducible exact impl_Locks_over.mono _ _ _ _ _ _)
   | (with_reducible exact impl_compareLocks.mono _ _ _ _ _ _ _)
   | (with_reducible exact impl_setOf.mono _ _)
   | (with_reducible exact impl_set_list.mono _ _)
   | (with_reducible exact impl_txnsOf.mono _ _)
   | (with_reducible exact LeO.refl _)
   | (with_reducible exact LeO.none _)
   | (with_reducible refine LeO.ite ?_ ?_)
   | (with_reducible refine LeO.bind ?_ (fun _=>?_))
   | exact ih0 _ _ _ _ _ _ _
   | exact ih1 _ _ _ _ _ _
   | exact ih2 _ _ _ _ _ _ _ _
   | exact impl_Locks_over.mono _ _ _ _ _ _
   | exact impl_compareLocks.mono _ _ _ _ _ _ _
   | exact impl_setOf.mono _ _
   | exact impl_set_list.mono _ _
   | exact impl_txnsOf.mono _ _
   | exact LeO.none _
   | refine LeO.ite ?_ ?_
   | refine LeO.bind ?_ (fun _=>?_)
def impl_GoodLocks.T5 : Bool × List (List Nat × List Nat):=(true,[([],[]),([0],[0]),([1],[1]),([],[]),([3],[3]),([2,4],[2,4]),([5,1],[5]),([6],[6]),([7,6],[6,7]),([8,6,6],[6,8]),([9,9,6],[6,9]),([10,6],[6,10]),([6],[6]),([12,6],[6,12]),([13,6],[6,13]),([11,14,6],[6,11,14]),([6,15],[6,15]),([16,10],[16]),([17],[17]),([17],[17]),([19,17],[17,19]),([20,17,17],[17,20]),([17],[17]),([22,17],[17,22]),([23,21,17],[17,23]),([21,24,17],[17,21,24]),([18,25,17],[17,18,25]),([26,17],[17,26]),([17,27],[17,27])])
def impl_GoodLocks.B5 : List Nat:=[0,1,3,0,8,31,63,127,255,511,1023,2047,127,4223,12415,32767,65535,131071,262143,262143,786431,1835007,262143,4456447,16515071,33292287,67108863,134217727,268435455]
theorem impl_GoodLocks.tab5 : rtab .any (opsOf Try.f25 5)=impl_GoodLocks.T5:=by kernel_rfl
theorem impl_GoodLocks.bits5 : waitsOk impl_GoodLocks.T5.2 impl_GoodLocks.B5=true:=by kernel_rfl
def impl_GoodLocks.T10 : Bool × List (List Nat × List Nat):=(true,[([],[]),([0],[0]),([1],[1]),([2],[2]),([3,2],[2,3]),([2],[2]),([5,2],[2,5]),([4,6,2],[2,4,6]),([7,2],[2,7]),([2],[2]),([8,9,2,2],[2,8,9]),([10,2],[2,10]),([2,11],[2,11]),([12,10],[12]),([13],[13]),([14,13],[13,14]),([13],[13]),([15,16,13],[13,15,16]),([13],[13]),([17,18,13,13],[13,17,18]),([13,19],[13,19])])
def impl_GoodLocks.B10 : List Nat:=[0,1,3,7,15,7,39,127,255,7,1023,2047,4095,8191,16383,32767,16383,131071,16383,524287,1048575]
theorem impl_GoodLocks.tab10 : rtab .any (opsOf Try.f25 10)=impl_GoodLocks.T10:=by kernel_rfl
theorem impl_GoodLocks.bits10 : waitsOk impl_GoodLocks.T10.2 impl_GoodLocks.B10=true:=by kernel_rfl
set_option maxHeartbeats 8000000 in
set_option maxRecDepth 100000 in
theorem impl_GoodLocks.calls (k:Nat) (A0_0:Option Addr) (c0_0:Nat) (l0_0:List (S47)) (A0_1:Option Addr) (c0_1:Nat) (l0_1:List (S47)) (A0_2:Option Addr) (c0_2:Nat) (l0_2:List (S47)) (A0_3:Option Addr) (c0_3:Nat) (l0_3:List Int) (A0_4:Option Addr) (c0_4:Nat) (l0_4:List Int) (r:Bool) (w:World) (hr0_0:Kd.C k47 w A0_0 l0_0.length l0_0) (hc0_0:l0_0.length≤c0_0) (hr0_1:Kd.C k47 w A0_1 l0_1.length l0_1) (hc0_1:l0_1.length≤c0_1) (hr0_2:Kd.C k47 w A0_2 l0_2.length l0_2) (hc0_2:l0_2.length≤c0_2) (hr0_3:Kd.C (Kd.int .i64) w A0_3 l0_3.length l0_3) (hc0_3:l0_3.length≤c0_3) (hr0_4:Kd.C (Kd.int .i64) w A0_4 l0_4.length l0_4) (hc0_4:l0_4.length≤c0_4) (h:impl_GoodLocks.f k l0_0 l0_1 l0_2 l0_3 l0_4=some r) :
  Calls Try.prog 25 #[.agg #[.slice A0_0 l0_0.length c0_0,.slice A0_1 l0_1.length c0_1,.slice A0_2 l0_2.length c0_2,.slice A0_3 l0_3.length c0_3,.slice A0_4 l0_4.length c0_4]] w fun e w'=>e=.returned (.bool r)∧Below w.heap.size w w':=by
 have hu31:=Try.underlying31;have hu47:=Try.underlying47;have HR0_0:=qK hr0_0;have HC0_0:=qK hc0_0;clear hr0_0 hc0_0;have HR0_1:=qK hr0_1;have HC0_1:=qK hc0_1;clear hr0_1 hc0_1;have HR0_2:=qK hr0_2;have HC0_2:=qK hc0_2;clear hr0_2 hc0_2;have HR0_3:=qK hr0_3;have HC0_3:=qK hc0_3;clear hr0_3 hc0_3;have HR0_4:=qK hr0_4;have HC0_4:=qK hc0_4;clear hr0_4 hc0_4;have HB:=qK (Below.refl w.heap.size w);have H:((impl_Locks_over.f k l0_0 l0_1 l0_2 l0_3 l0_4).bind fun t239=>((areAll_isStep.f l0_0).bind fun t242=>(if t242=true then ((areAll_isStep.f l0_1).bind fun t243=>(if t243=true then ((areAll_isStep.f l0_2).bind fun t244=>(if t244=true then (if (wrap64 ((l0_2.length:Int) + (l0_1.length:Int))) > 40 then (impl_GoodLocks.j0 k t239 true l0_0 l0_1 l0_2 l0_3 l0_4) else ((areAll_isTxn.f t239).bind fun t245=>(impl_GoodLocks.j0 k t239 (!t245) l0_0 l0_1 l0_2 l0_3 l0_4))) else (impl_GoodLocks.j0 k t239 true l0_0 l0_1 l0_2 l0_3 l0_4))) else (impl_GoodLocks.j0 k t239 true l0_0 l0_1 l0_2 l0_3 l0_4))) else (impl_GoodLocks.j0 k t239 true l0_0 l0_1 l0_2 l0_3 l0_4))))=some r:=h;clear h;replace H:=Option.bind_eq_some_iff.mp H;obtain ⟨t239,A20,H⟩:=H;replace H:((areAll_isStep.f l0_0).bind fun t242=>(if t242=true then ((areAll_isStep.f l0_1).bind fun t243=>(if t243=true then ((areAll_isStep.f l0_2).bind fun t244=>(if t244=true then (if (wrap64 ((l0_2.length:Int) + (l0_1.length:Int))) > 40 then (impl_GoodLocks.j0 k t239 true l0_0 l0_1 l0_2 l0_3 l0_4) else ((areAll_isTxn.f t239).bind fun t245=>(impl_GoodLocks.j0 k t239 (!t245) l0_0 l0_1 l0_2 l0_3 l0_4))) else (impl_GoodLocks.j0 k t239 true l0_0 l0_1 l0_2 l0_3 l0_4))) else (impl_GoodLocks.j0 k t239 true l0_0 l0_1 l0_2 l0_3 l0_4))) else (impl_GoodLocks.j0 k t239 true l0_0 l0_1 l0_2 l0_3 l0_4)))=some r:=H;have A2:=qK A20;clear A20;have HC3:=qK H;clear H;go_enter Try.func25,Try.ntmps25
 go_upto_region 2 with (first|((with_reducible refine gate_dst (N:=1) rfl ?_);(try (refine gate_guard (by rfl) ?_;dsimp only));refine box_event ?hg (N:=1) ?hd (cs:=#[.slice A0_0 l0_0.length c0_0,.slice A0_1 l0_1.length c0_1,.slice A0_2 l0_2.length c0_2,.slice A0_3 l0_3.length c0_3,.slice A0_4 l0_4.length c0_4]) (t:=31) ?hr ?_;(case hd=>rfl);(case hg=>rfl);(case hr=>(go_simp;try rfl));intro gb238 hg w4 hbox hb;have n0_:=qK (qT (by repeat (with_reducible first|exact HB.out|apply qA|apply qD|apply qO)) hb);have n1_:=qK (hbox);have n2_:=qK ((by rw [hg];exact (qZ (by repeat (with_reducible first|exact HB.out|apply qA|apply qD|apply qO))):w.heap.size≤gb238));have n3_:=qK ((by rw [hg];exact (qZ (by repeat (with_reducible first|exact HB.out|apply qA|apply qD|apply qO))):w.heap.size≤gb238));clear HB;have HB:=n0_;have BK238:=n1_;have GW238:=n2_;have GE238:=n3_;clear n0_ n1_ n2_ n3_;clear hb hbox hg;have hcz5_0:w4.cell? ⟨gb238,0,none⟩=some (.slice A0_0 l0_0.length c0_0):=(qC BK238.out 0).trans rfl;have hcz5_1:w4.cell? ⟨gb238,1,none⟩=some (.slice A0_1 l0_1.length c0_1):=(qC BK238.out 1).trans rfl;have hcz5_2:w4.cell? ⟨gb238,2,none⟩=some (.slice A0_2 l0_2.length c0_2):=(qC BK238.out 2).trans rfl;have hcz5_3:w4.cell? ⟨gb238,3,none⟩=some (.slice A0_3 l0_3.length c0_3):=(qC BK238.out 3).trans rfl;have hcz5_4:w4.cell? ⟨gb238,4,none⟩=some (.slice A0_4 l0_4.length c0_4):=(qC BK238.out 4).trans rfl;have hfz5_0:=qF BK238.out 0;have hfz5_1:=qF BK238.out 1;have hfz5_2:=qF BK238.out 2;have hfz5_3:=qF BK238.out 3;have hfz5_4:=qF BK238.out 4)|((with_reducible refine gate_callee (f:=41) rfl ?_);refine goesL_ (some 8) rfl rfl Try.func41 (by kernel_rfl) rfl #[.agg #[.slice A0_0 l0_0.length c0_0,.slice A0_1 l0_1.length c0_1,.slice A0_2 l0_2.length c0_2,.slice A0_3 l0_3.length c0_3,.slice A0_4 l0_4.length c0_4]] rfl (by (try simp only [mT,mC,mN]);first|done|rfl|(simp only [lD,lT];rfl)) ?_;(with_reducible refine (impl_Locks_over.calls k _ _ l0_0 _ _ l0_1 _ _ l0_2 (fun k_=>k_ < w.heap.size) _ _ l0_3 (fun k_=>k_ < w.heap.size) _ _ l0_4 t239 _ ?side1 ?side2 ?side3 ?side4 ?side5 ?side6 ?side7 ?side8 A2.out).mono ?_);(case side1=>repeat (first|exact (cB HR0_0.out HB.out)|(with_reducible first|refine cL ?_ _|refine cN ?_ _|refine cW ?_)));(case side2=>exact HC0_0.out);(case side3=>repeat (first|exact (cB HR0_1.out HB.out)|(with_reducible first|refine cL ?_ _|refine cN ?_ _|refine cW ?_)));(case side4=>exact HC0_1.out);(case side5=>repeat (first|exact (cB HR0_2.out HB.out)|(with_reducible first|refine cL ?_ _|refine cN ?_ _|refine cW ?_)));(case side6=>exact HC0_2.out);(case side7=>exact Kd.V_mk HC0_3.out (Kd.F_below (Kd.C_F (Kd.heap_int .i64) HR0_3.out) (by repeat (with_reducible first|exact HB.out|apply qA|apply qD|apply qO|refine qS ?_ GE238.out))));(case side8=>exact Kd.V_mk HC0_4.out (Kd.F_below (Kd.C_F (Kd.heap_int .i64) HR0_4.out) (by repeat (with_reducible first|exact HB.out|apply qA|apply qD|apply qO|refine qS ?_ GE238.out))));rintro e w6 ⟨v240,rfl,ho0,hb⟩;refine ⟨_,rfl,?_⟩;have n0_:=qK (Kd.R_lower (Kd.R_mono (ok':=fun k_=>True) ho0 (fun _ hk_=>trivial)) (qZ (by repeat (with_reducible first|exact HB.out|apply qA|apply qD|apply qO|refine qS ?_ GE238.out))));have n1_:=qK (qB (g:=gb238) (o:=_) (by (with_reducible repeat (first|refine qN ?_ _|refine qW ?_|refine qL ?_ _));exact BK238.out) hb);have n2_:=qK (qT (by repeat (with_reducible first|exact HB.out|apply qA|apply qD|apply qO|refine qS ?_ GE238.out)) hb);clear BK238;clear HB;have HO241:=n0_;have BK238:=n1_;have HB:=n2_;clear n0_ n1_ n2_;(try clear hb);(try clear ho0)))
 (try simp only [Act.put,List.setIfInBounds_toArray,List.set_cons_zero,List.set_cons_succ]);go_cut [39] (fun v39 wc=>∃ (kq:Nat) (x39_2:Bool),v39=.bool x39_2∧Aside0 (impl_GoodLocks.j0 kq t239 x39_2 l0_0 l0_1 l0_2 l0_3 l0_4=some r)∧Aside0 (kq≤k)∧Aside0 (Kd.R (Kd.int .i64) 3 wc w.heap.size (fun _=>True) v240 t239)∧Aside0 (wc.heap[gb238]?=some (.cells #[(.slice A0_0 l0_0.length c0_0),(.slice A0_1 l0_1.length c0_1),(.slice A0_2 l0_2.length c0_2),(.slice A0_3 l0_3.length c0_3),(.slice A0_4 l0_4.length c0_4)] 31 (0,0)))∧Aside0 (Below w.heap.size w wc))
 case first =>
  have H:=HC3.out;clear HC3;replace H:=Option.bind_eq_some_iff.mp H;obtain ⟨t242,A70,H⟩:=H;replace H:(if t242=true then ((areAll_isStep.f l0_1).bind fun t243=>(if t243=true then ((areAll_isStep.f l0_2).bind fun t244=>(if t244=true then (if (wrap64 ((l0_2.length:Int) + (l0_1.length:Int))) > 40 then (impl_GoodLocks.j0 k t239 true l0_0 l0_1 l0_2 l0_3 l0_4) else ((areAll_isTxn.f t239).bind fun t245=>(impl_GoodLocks.j0 k t239 (!t245) l0_0 l0_1 l0_2 l0_3 l0_4))) else (impl_GoodLocks.j0 k t239 true l0_0 l0_1 l0_2 l0_3 l0_4))) else (impl_GoodLocks.j0 k t239 true l0_0 l0_1 l0_2 l0_3 l0_4))) else (impl_GoodLocks.j0 k t239 true l0_0 l0_1 l0_2 l0_3 l0_4))=some r:=H;have A7:=qK A70;clear A70;by_cases c8:t242=true
  ·subst c8;have H1:((areAll_isStep.f l0_1).bind fun t243=>(if t243=true then ((areAll_isStep.f l0_2).bind fun t244=>(if t244=true then (if (wrap64 ((l0_2.length:Int) + (l0_1.length:Int))) > 40 then (impl_GoodLocks.j0 k t239 true l0_0 l0_1 l0_2 l0_3 l0_4) else ((areAll_isTxn.f t239).bind fun t245=>(impl_GoodLocks.j0 k t239 (!t245) l0_0 l0_1 l0_2 l0_3 l0_4))) else (impl_GoodLocks.j0 k t239 true l0_0 l0_1 l0_2 l0_3 l0_4))) else (impl_GoodLocks.j0 k t239 true l0_0 l0_1 l0_2 l0_3 l0_4)))=some r:=by rw [if_pos rfl] at H;exact H
   clear H;have H:=H1;clear H1;replace H:=Option.bind_eq_some_iff.mp H;obtain ⟨t243,A90,H⟩:=H;replace H:(if t243=true then ((areAll_isStep.f l0_2).bind fun t244=>(if t244=true then (if (wrap64 ((l0_2.length:Int) + (l0_1.length:Int))) > 40 then (impl_GoodLocks.j0 k t239 true l0_0 l0_1 l0_2 l0_3 l0_4) else ((areAll_isTxn.f t239).bind fun t245=>(impl_GoodLocks.j0 k t239 (!t245) l0_0 l0_1 l0_2 l0_3 l0_4))) else (impl_GoodLocks.j0 k t239 true l0_0 l0_1 l0_2 l0_3 l0_4))) else (impl_GoodLocks.j0 k t239 true l0_0 l0_1 l0_2 l0_3 l0_4))=some r:=H;have A9:=qK A90;clear A90;by_cases c10:t243=true
   ·subst c10;have H1:((areAll_isStep.f l0_2).bind fun t244=>(if t244=true then (if (wrap64 ((l0_2.length:Int) + (l0_1.length:Int))) > 40 then (impl_GoodLocks.j0 k t239 true l0_0 l0_1 l0_2 l0_3 l0_4) else ((areAll_isTxn.f t239).bind fun t245=>(impl_GoodLocks.j0 k t239 (!t245) l0_0 l0_1 l0_2 l0_3 l0_4))) else (impl_GoodLocks.j0 k t239 true l0_0 l0_1 l0_2 l0_3 l0_4)))=some r:=by rw [if_pos rfl] at H;exact H
    clear H;have H:=H1;clear H1;replace H:=Option.bind_eq_some_iff.mp H;obtain ⟨t244,A110,H⟩:=H;replace H:(if t244=true then (if (wrap64 ((l0_2.length:Int) + (l0_1.length:Int))) > 40 then (impl_GoodLocks.j0 k t239 true l0_0 l0_1 l0_2 l0_3 l0_4) else ((areAll_isTxn.f t239).bind fun t245=>(impl_GoodLocks.j0 k t239 (!t245) l0_0 l0_1 l0_2 l0_3 l0_4))) else (impl_GoodLocks.j0 k t239 true l0_0 l0_1 l0_2 l0_3 l0_4))=some r:=H;have A11:=qK A110;clear A110;by_cases c12:t244=true
    ·subst c12;have H1:(if (wrap64 ((l0_2.length:Int) + (l0_1.length:Int))) > 40 then (impl_GoodLocks.j0 k t239 true l0_0 l0_1 l0_2 l0_3 l0_4) else ((areAll_isTxn.f t239).bind fun t245=>(impl_GoodLocks.j0 k t239 (!t245) l0_0 l0_1 l0_2 l0_3 l0_4)))=some r:=by rw [if_pos rfl] at H;exact H
     clear H;have H:=H1;clear H1;by_cases c13:(wrap64 ((l0_2.length:Int) + (l0_1.length:Int))) > 40
     ·rw [if_pos c13] at H;have c13b0:decide (40 < (wrap64 ((l0_2.length:Int) + (l0_1.length:Int))))=true:=decide_eq_true c13;clear c13;(first|rw [c13b0]|(simp only [i64_w,i32_w];rw [c13b0])|skip);have H':=qK H;clear H;have hcz14_0:w6.cell? ⟨gb238,0,none⟩=some (.slice A0_0 l0_0.length c0_0):=(qC BK238.out 0).trans rfl;have hcz14_1:w6.cell? ⟨gb238,1,none⟩=some (.slice A0_1 l0_1.length c0_1):=(qC BK238.out 1).trans rfl;have hcz14_2:w6.cell? ⟨gb238,2,none⟩=some (.slice A0_2 l0_2.length c0_2):=(qC BK238.out 2).trans rfl;have hcz14_3:w6.cell? ⟨gb238,3,none⟩=some (.slice A0_3 l0_3.length c0_3):=(qC BK238.out 3).trans rfl;have hcz14_4:w6.cell? ⟨gb238,4,none⟩=some (.slice A0_4 l0_4.length c0_4):=(qC BK238.out 4).trans rfl;have hfz14_0:=qF BK238.out 0;have hfz14_1:=qF BK238.out 1;have hfz14_2:=qF BK238.out 2;have hfz14_3:=qF BK238.out 3;have hfz14_4:=qF BK238.out 4;go_wp2_with (first|((with_reducible refine gate_callee (f:=42) rfl ?_);refine goesL_ (some 11) rfl rfl Try.func42 (by kernel_rfl) rfl #[.slice A0_0 l0_0.length c0_0,.func (.func 43) #[] #[]] rfl (by (try simp only [mT,mC,mN]);first|done|rfl|(simp only [lD,lT];rfl)) ?_;(with_reducible refine (areAll_isStep.calls _ _ l0_0  true _ ?side1 ?side2 A7.out).mono ?_);(case side1=>repeat (first|exact (cB HR0_0.out (by repeat (with_reducible first|exact HB.out|apply qA|apply qD|apply qO|refine qS ?_ GE238.out)))|(with_reducible first|refine cL ?_ _|refine cN ?_ _|refine cW ?_)));(case side2=>exact HC0_0.out);rintro e w15 ⟨rfl,hb⟩;refine ⟨_,rfl,?_⟩;have n0_:=qK (rB (by (with_reducible repeat (first|apply rL|apply rN|apply rW));exact HO241.out) hb);have n1_:=qK (qB (g:=gb238) (o:=_) (by (with_reducible repeat (first|refine qN ?_ _|refine qW ?_|refine qL ?_ _));exact BK238.out) hb);have n2_:=qK (qT (by repeat (with_reducible first|exact HB.out|apply qA|apply qD|apply qO|refine qS ?_ GE238.out)) hb);clear HO241;clear BK238;clear HB;have HO241:=n0_;have BK238:=n1_;have HB:=n2_;clear n0_ n1_ n2_;(try clear hb);(try clear hb2);(try clear hk);(try clear hi);have hcz16_0:w15.cell? ⟨gb238,0,none⟩=some (.slice A0_0 l0_0.length c0_0):=(qC BK238.out 0).trans rfl;have hcz16_1:w15.cell? ⟨gb238,1,none⟩=some (.slice A0_1 l0_1.length c0_1):=(qC BK238.out 1).trans rfl;have hcz16_2:w15.cell? ⟨gb238,2,none⟩=some (.slice A0_2 l0_2.length c0_2):=(qC BK238.out 2).trans rfl;have hcz16_3:w15.cell? ⟨gb238,3,none⟩=some (.slice A0_3 l0_3.length c0_3):=(qC BK238.out 3).trans rfl;have hcz16_4:w15.cell? ⟨gb238,4,none⟩=some (.slice A0_4 l0_4.length c0_4):=(qC BK238.out 4).trans rfl;have hfz16_0:=qF BK238.out 0;have hfz16_1:=qF BK238.out 1;have hfz16_2:=qF BK238.out 2;have hfz16_3:=qF BK238.out 3;have hfz16_4:=qF BK238.out 4)|(go_at_call 42;(with_reducible refine (areAll_isStep.calls _ _ l0_1  true _ ?side1 ?side2 A9.out).mono ?_);(case side1=>repeat (first|exact (cB HR0_1.out HB.out)|(with_reducible first|refine cL ?_ _|refine cN ?_ _|refine cW ?_)));(case side2=>exact HC0_1.out);rintro e w17 ⟨rfl,hb⟩;have n0_:=qK (rB (by (with_reducible repeat (first|apply rL|apply rN|apply rW));exact HO241.out) hb);have n1_:=qK (qB (g:=gb238) (o:=_) (by (with_reducible repeat (first|refine qN ?_ _|refine qW ?_|refine qL ?_ _));exact BK238.out) hb);have n2_:=qK (qT (by repeat (with_reducible first|exact HB.out|apply qA|apply qD|apply qO|refine qS ?_ GE238.out)) hb);clear HO241;clear BK238;clear HB;have HO241:=n0_;have BK238:=n1_;have HB:=n2_;clear n0_ n1_ n2_;(try clear hb);(try clear hb2);(try clear hk);(try clear hi);have hcz18_0:w17.cell? ⟨gb238,0,none⟩=some (.slice A0_0 l0_0.length c0_0):=(qC BK238.out 0).trans rfl;have hcz18_1:w17.cell? ⟨gb238,1,none⟩=some (.slice A0_1 l0_1.length c0_1):=(qC BK238.out 1).trans rfl;have hcz18_2:w17.cell? ⟨gb238,2,none⟩=some (.slice A0_2 l0_2.length c0_2):=(qC BK238.out 2).trans rfl;have hcz18_3:w17.cell? ⟨gb238,3,none⟩=some (.slice A0_3 l0_3.length c0_3):=(qC BK238.out 3).trans rfl;have hcz18_4:w17.cell? ⟨gb238,4,none⟩=some (.slice A0_4 l0_4.length c0_4):=(qC BK238.out 4).trans rfl;have hfz18_0:=qF BK238.out 0;have hfz18_1:=qF BK238.out 1;have hfz18_2:=qF BK238.out 2;have hfz18_3:=qF BK238.out 3;have hfz18_4:=qF BK238.out 4)|(go_at_call 42;(with_reducible refine (areAll_isStep.calls _ _ l0_2  true _ ?side1 ?side2 A11.out).mono ?_);(case side1=>repeat (first|exact (cB HR0_2.out HB.out)|(with_reducible first|refine cL ?_ _|refine cN ?_ _|refine cW ?_)));(case side2=>exact HC0_2.out);rintro e w19 ⟨rfl,hb⟩;have n0_:=qK (rB (by (with_reducible repeat (first|apply rL|apply rN|apply rW));exact HO241.out) hb);have n1_:=qK (qB (g:=gb238) (o:=_) (by (with_reducible repeat (first|refine qN ?_ _|refine qW ?_|refine qL ?_ _));exact BK238.out) hb);have n2_:=qK (qT (by repeat (with_reducible first|exact HB.out|apply qA|apply qD|apply qO|refine qS ?_ GE238.out)) hb);clear HO241;clear BK238;clear HB;have HO241:=n0_;have BK238:=n1_;have HB:=n2_;clear n0_ n1_ n2_;(try clear hb);(try clear hb2);(try clear hk);(try clear hi);have hcz20_0:w19.cell? ⟨gb238,0,none⟩=some (.slice A0_0 l0_0.length c0_0):=(qC BK238.out 0).trans rfl;have hcz20_1:w19.cell? ⟨gb238,1,none⟩=some (.slice A0_1 l0_1.length c0_1):=(qC BK238.out 1).trans rfl;have hcz20_2:w19.cell? ⟨gb238,2,none⟩=some (.slice A0_2 l0_2.length c0_2):=(qC BK238.out 2).trans rfl;have hcz20_3:w19.cell? ⟨gb238,3,none⟩=some (.slice A0_3 l0_3.length c0_3):=(qC BK238.out 3).trans rfl;have hcz20_4:w19.cell? ⟨gb238,4,none⟩=some (.slice A0_4 l0_4.length c0_4):=(qC BK238.out 4).trans rfl;have hfz20_0:=qF BK238.out 0;have hfz20_1:=qF BK238.out 1;have hfz20_2:=qF BK238.out 2;have hfz20_3:=qF BK238.out 3;have hfz20_4:=qF BK238.out 4))
      go_meet
      case rel=>exact ⟨_,(true),(by first|rfl|(simp;done)|(simp [*];done)),H',⟨by first|omega|exact Nat.le_refl _⟩,⟨by (with_reducible repeat (first|apply rL|apply rN|apply rW));exact HO241.out⟩,⟨by (with_reducible repeat (first|refine qN ?_ _|refine qW ?_|refine qL ?_ _));exact BK238.out⟩,⟨by repeat (first|(with_reducible first|exact HB.out|apply qA|apply qD|apply qO|refine qS ?_ GE238.out)|exact HB.out)⟩⟩
     ·rw [if_neg c13] at H;have c13b0:decide (40 < (wrap64 ((l0_2.length:Int) + (l0_1.length:Int))))=false:=decide_eq_false c13;clear c13;(first|rw [c13b0]|(simp only [i64_w,i32_w];rw [c13b0])|skip);replace H:=Option.bind_eq_some_iff.mp H;obtain ⟨t245,A210,H⟩:=H;replace H:(impl_GoodLocks.j0 k t239 (!t245) l0_0 l0_1 l0_2 l0_3 l0_4)=some r:=H;have A21:=qK A210;clear A210;have H':=qK H;clear H;have hcz22_0:w6.cell? ⟨gb238,0,none⟩=some (.slice A0_0 l0_0.length c0_0):=(qC BK238.out 0).trans rfl;have hcz22_1:w6.cell? ⟨gb238,1,none⟩=some (.slice A0_1 l0_1.length c0_1):=(qC BK238.out 1).trans rfl;have hcz22_2:w6.cell? ⟨gb238,2,none⟩=some (.slice A0_2 l0_2.length c0_2):=(qC BK238.out 2).trans rfl;have hcz22_3:w6.cell? ⟨gb238,3,none⟩=some (.slice A0_3 l0_3.length c0_3):=(qC BK238.out 3).trans rfl;have hcz22_4:w6.cell? ⟨gb238,4,none⟩=some (.slice A0_4 l0_4.length c0_4):=(qC BK238.out 4).trans rfl;have hfz22_0:=qF BK238.out 0;have hfz22_1:=qF BK238.out 1;have hfz22_2:=qF BK238.out 2;have hfz22_3:=qF BK238.out 3;have hfz22_4:=qF BK238.out 4;go_wp2_with (first|((with_reducible refine gate_callee (f:=42) rfl ?_);refine goesL_ (some 11) rfl rfl Try.func42 (by kernel_rfl) rfl #[.slice A0_0 l0_0.length c0_0,.func (.func 43) #[] #[]] rfl (by (try simp only [mT,mC,mN]);first|done|rfl|(simp only [lD,lT];rfl)) ?_;(with_reducible refine (areAll_isStep.calls _ _ l0_0  true _ ?side1 ?side2 A7.out).mono ?_);(case side1=>repeat (first|exact (cB HR0_0.out (by repeat (with_reducible first|exact HB.out|apply qA|apply qD|apply qO|refine qS ?_ GE238.out)))|(with_reducible first|refine cL ?_ _|refine cN ?_ _|refine cW ?_)));(case side2=>exact HC0_0.out);rintro e w23 ⟨rfl,hb⟩;refine ⟨_,rfl,?_⟩;have n0_:=qK (rB (by (with_reducible repeat (first|apply rL|apply rN|apply rW));exact HO241.out) hb);have n1_:=qK (qB (g:=gb238) (o:=_) (by (with_reducible repeat (first|refine qN ?_ _|refine qW ?_|refine qL ?_ _));exact BK238.out) hb);have n2_:=qK (qT (by repeat (with_reducible first|exact HB.out|apply qA|apply qD|apply qO|refine qS ?_ GE238.out)) hb);clear HO241;clear BK238;clear HB;have HO241:=n0_;have BK238:=n1_;have HB:=n2_;clear n0_ n1_ n2_;(try clear hb);(try clear hb2);(try clear hk);(try clear hi);have hcz24_0:w23.cell? ⟨gb238,0,none⟩=some (.slice A0_0 l0_0.length c0_0):=(qC BK238.out 0).trans rfl;have hcz24_1:w23.cell? ⟨gb238,1,none⟩=some (.slice A0_1 l0_1.length c0_1):=(qC BK238.out 1).trans rfl;have hcz24_2:w23.cell? ⟨gb238,2,none⟩=some (.slice A0_2 l0_2.length c0_2):=(qC BK238.out 2).trans rfl;have hcz24_3:w23.cell? ⟨gb238,3,none⟩=some (.slice A0_3 l0_3.length c0_3):=(qC BK238.out 3).trans rfl;have hcz24_4:w23.cell? ⟨gb238,4,none⟩=some (.slice A0_4 l0_4.length c0_4):=(qC BK238.out 4).trans rfl;have hfz24_0:=qF BK238.out 0;have hfz24_1:=qF BK238.out 1;have hfz24_2:=qF BK238.out 2;have hfz24_3:=qF BK238.out 3;have hfz24_4:=qF BK238.out 4)|(go_at_call 42;(with_reducible refine (areAll_isStep.calls _ _ l0_1  true _ ?side1 ?side2 A9.out).mono ?_);(case side1=>repeat (first|exact (cB HR0_1.out HB.out)|(with_reducible first|refine cL ?_ _|refine cN ?_ _|refine cW ?_)));(case side2=>exact HC0_1.out);rintro e w25 ⟨rfl,hb⟩;have n0_:=qK (rB (by (with_reducible repeat (first|apply rL|apply rN|apply rW));exact HO241.out) hb);have n1_:=qK (qB (g:=gb238) (o:=_) (by (with_reducible repeat (first|refine qN ?_ _|refine qW ?_|refine qL ?_ _));exact BK238.out) hb);have n2_:=qK (qT (by repeat (with_reducible first|exact HB.out|apply qA|apply qD|apply qO|refine qS ?_ GE238.out)) hb);clear HO241;clear BK238;clear HB;have HO241:=n0_;have BK238:=n1_;have HB:=n2_;clear n0_ n1_ n2_;(try clear hb);(try clear hb2);(try clear hk);(try clear hi);have hcz26_0:w25.cell? ⟨gb238,0,none⟩=some (.slice A0_0 l0_0.length c0_0):=(qC BK238.out 0).trans rfl;have hcz26_1:w25.cell? ⟨gb238,1,none⟩=some (.slice A0_1 l0_1.length c0_1):=(qC BK238.out 1).trans rfl;have hcz26_2:w25.cell? ⟨gb238,2,none⟩=some (.slice A0_2 l0_2.length c0_2):=(qC BK238.out 2).trans rfl;have hcz26_3:w25.cell? ⟨gb238,3,none⟩=some (.slice A0_3 l0_3.length c0_3):=(qC BK238.out 3).trans rfl;have hcz26_4:w25.cell? ⟨gb238,4,none⟩=some (.slice A0_4 l0_4.length c0_4):=(qC BK238.out 4).trans rfl;have hfz26_0:=qF BK238.out 0;have hfz26_1:=qF BK238.out 1;have hfz26_2:=qF BK238.out 2;have hfz26_3:=qF BK238.out 3;have hfz26_4:=qF BK238.out 4)|(go_at_call 42;(with_reducible refine (areAll_isStep.calls _ _ l0_2  true _ ?side1 ?side2 A11.out).mono ?_);(case side1=>repeat (first|exact (cB HR0_2.out HB.out)|(with_reducible first|refine cL ?_ _|refine cN ?_ _|refine cW ?_)));(case side2=>exact HC0_2.out);rintro e w27 ⟨rfl,hb⟩;have n0_:=qK (rB (by (with_reducible repeat (first|apply rL|apply rN|apply rW));exact HO241.out) hb);have n1_:=qK (qB (g:=gb238) (o:=_) (by (with_reducible repeat (first|refine qN ?_ _|refine qW ?_|refine qL ?_ _));exact BK238.out) hb);have n2_:=qK (qT (by repeat (with_reducible first|exact HB.out|apply qA|apply qD|apply qO|refine qS ?_ GE238.out)) hb);clear HO241;clear BK238;clear HB;have HO241:=n0_;have BK238:=n1_;have HB:=n2_;clear n0_ n1_ n2_;(try clear hb);(try clear hb2);(try clear hk);(try clear hi);have hcz28_0:w27.cell? ⟨gb238,0,none⟩=some (.slice A0_0 l0_0.length c0_0):=(qC BK238.out 0).trans rfl;have hcz28_1:w27.cell? ⟨gb238,1,none⟩=some (.slice A0_1 l0_1.length c0_1):=(qC BK238.out 1).trans rfl;have hcz28_2:w27.cell? ⟨gb238,2,none⟩=some (.slice A0_2 l0_2.length c0_2):=(qC BK238.out 2).trans rfl;have hcz28_3:w27.cell? ⟨gb238,3,none⟩=some (.slice A0_3 l0_3.length c0_3):=(qC BK238.out 3).trans rfl;have hcz28_4:w27.cell? ⟨gb238,4,none⟩=some (.slice A0_4 l0_4.length c0_4):=(qC BK238.out 4).trans rfl;have hfz28_0:=qF BK238.out 0;have hfz28_1:=qF BK238.out 1;have hfz28_2:=qF BK238.out 2;have hfz28_3:=qF BK238.out 3;have hfz28_4:=qF BK238.out 4;obtain ⟨Ao29,co29,eo29⟩:=Kd.R_slice HO241.out;subst eo29)|(go_at_call 44;(with_reducible refine (areAll_isTxn.calls _ _ t239  t245 _ ?side1 ?side2 A21.out).mono ?_);(case side1=>repeat (first|exact (Kd.R_reads' HO241.out).2.2|(with_reducible first|refine cL ?_ _|refine cN ?_ _|refine cW ?_)));(case side2=>exact (Kd.R_reads' HO241.out).2.1);rintro e w30 ⟨rfl,hb⟩;have n0_:=qK (rB (by (with_reducible repeat (first|apply rL|apply rN|apply rW));exact HO241.out) hb);have n1_:=qK (qB (g:=gb238) (o:=_) (by (with_reducible repeat (first|refine qN ?_ _|refine qW ?_|refine qL ?_ _));exact BK238.out) hb);have n2_:=qK (qT (by repeat (with_reducible first|exact HB.out|apply qA|apply qD|apply qO|refine qS ?_ GE238.out)) hb);clear HO241;clear BK238;clear HB;have HO241:=n0_;have BK238:=n1_;have HB:=n2_;clear n0_ n1_ n2_;(try clear hb);(try clear hb2);(try clear hk);(try clear hi)))
      go_meet
      case rel=>exact ⟨_,(!t245),(by first|rfl|(simp;done)|(simp [*];done)),H',⟨by first|omega|exact Nat.le_refl _⟩,⟨by (with_reducible repeat (first|apply rL|apply rN|apply rW));exact HO241.out⟩,⟨by (with_reducible repeat (first|refine qN ?_ _|refine qW ?_|refine qL ?_ _));exact BK238.out⟩,⟨by repeat (first|(with_reducible first|exact HB.out|apply qA|apply qD|apply qO|refine qS ?_ GE238.out)|exact HB.out)⟩⟩
    ·replace c12:=Bool.eq_false_iff.mpr c12;subst c12;have H1:(impl_GoodLocks.j0 k t239 true l0_0 l0_1 l0_2 l0_3 l0_4)=some r:=by rw [if_neg (show ¬ (false=true) by decide)] at H;exact H
     clear H;have H:=H1;clear H1;have H':=qK H;clear H;have hcz31_0:w6.cell? ⟨gb238,0,none⟩=some (.slice A0_0 l0_0.length c0_0):=(qC BK238.out 0).trans rfl;have hcz31_1:w6.cell? ⟨gb238,1,none⟩=some (.slice A0_1 l0_1.length c0_1):=(qC BK238.out 1).trans rfl;have hcz31_2:w6.cell? ⟨gb238,2,none⟩=some (.slice A0_2 l0_2.length c0_2):=(qC BK238.out 2).trans rfl;have hcz31_3:w6.cell? ⟨gb238,3,none⟩=some (.slice A0_3 l0_3.length c0_3):=(qC BK238.out 3).trans rfl;have hcz31_4:w6.cell? ⟨gb238,4,none⟩=some (.slice A0_4 l0_4.length c0_4):=(qC BK238.out 4).trans rfl;have hfz31_0:=qF BK238.out 0;have hfz31_1:=qF BK238.out 1;have hfz31_2:=qF BK238.out 2;have hfz31_3:=qF BK238.out 3;have hfz31_4:=qF BK238.out 4;go_wp2_with (first|((with_reducible refine gate_callee (f:=42) rfl ?_);refine goesL_ (some 11) rfl rfl Try.func42 (by kernel_rfl) rfl #[.slice A0_0 l0_0.length c0_0,.func (.func 43) #[] #[]] rfl (by (try simp only [mT,mC,mN]);first|done|rfl|(simp only [lD,lT];rfl)) ?_;(with_reducible refine (areAll_isStep.calls _ _ l0_0  true _ ?side1 ?side2 A7.out).mono ?_);(case side1=>repeat (first|exact (cB HR0_0.out (by repeat (with_reducible first|exact HB.out|apply qA|apply qD|apply qO|refine qS ?_ GE238.out)))|(with_reducible first|refine cL ?_ _|refine cN ?_ _|refine cW ?_)));(case side2=>exact HC0_0.out);rintro e w32 ⟨rfl,hb⟩;refine ⟨_,rfl,?_⟩;have n0_:=qK (rB (by (with_reducible repeat (first|apply rL|apply rN|apply rW));exact HO241.out) hb);have n1_:=qK (qB (g:=gb238) (o:=_) (by (with_reducible repeat (first|refine qN ?_ _|refine qW ?_|refine qL ?_ _));exact BK238.out) hb);have n2_:=qK (qT (by repeat (with_reducible first|exact HB.out|apply qA|apply qD|apply qO|refine qS ?_ GE238.out)) hb);clear HO241;clear BK238;clear HB;have HO241:=n0_;have BK238:=n1_;have HB:=n2_;clear n0_ n1_ n2_;(try clear hb);(try clear hb2);(try clear hk);(try clear hi);have hcz33_0:w32.cell? ⟨gb238,0,none⟩=some (.slice A0_0 l0_0.length c0_0):=(qC BK238.out 0).trans rfl;have hcz33_1:w32.cell? ⟨gb238,1,none⟩=some (.slice A0_1 l0_1.length c0_1):=(qC BK238.out 1).trans rfl;have hcz33_2:w32.cell? ⟨gb238,2,none⟩=some (.slice A0_2 l0_2.length c0_2):=(qC BK238.out 2).trans rfl;have hcz33_3:w32.cell? ⟨gb238,3,none⟩=some (.slice A0_3 l0_3.length c0_3):=(qC BK238.out 3).trans rfl;have hcz33_4:w32.cell? ⟨gb238,4,none⟩=some (.slice A0_4 l0_4.length c0_4):=(qC BK238.out 4).trans rfl;have hfz33_0:=qF BK238.out 0;have hfz33_1:=qF BK238.out 1;have hfz33_2:=qF BK238.out 2;have hfz33_3:=qF BK238.out 3;have hfz33_4:=qF BK238.out 4)|(go_at_call 42;(with_reducible refine (areAll_isStep.calls _ _ l0_1  true _ ?side1 ?side2 A9.out).mono ?_);(case side1=>repeat (first|exact (cB HR0_1.out HB.out)|(with_reducible first|refine cL ?_ _|refine cN ?_ _|refine cW ?_)));(case side2=>exact HC0_1.out);rintro e w34 ⟨rfl,hb⟩;have n0_:=qK (rB (by (with_reducible repeat (first|apply rL|apply rN|apply rW));exact HO241.out) hb);have n1_:=qK (qB (g:=gb238) (o:=_) (by (with_reducible repeat (first|refine qN ?_ _|refine qW ?_|refine qL ?_ _));exact BK238.out) hb);have n2_:=qK (qT (by repeat (with_reducible first|exact HB.out|apply qA|apply qD|apply qO|refine qS ?_ GE238.out)) hb);clear HO241;clear BK238;clear HB;have HO241:=n0_;have BK238:=n1_;have HB:=n2_;clear n0_ n1_ n2_;(try clear hb);(try clear hb2);(try clear hk);(try clear hi);have hcz35_0:w34.cell? ⟨gb238,0,none⟩=some (.slice A0_0 l0_0.length c0_0):=(qC BK238.out 0).trans rfl;have hcz35_1:w34.cell? ⟨gb238,1,none⟩=some (.slice A0_1 l0_1.length c0_1):=(qC BK238.out 1).trans rfl;have hcz35_2:w34.cell? ⟨gb238,2,none⟩=some (.slice A0_2 l0_2.length c0_2):=(qC BK238.out 2).trans rfl;have hcz35_3:w34.cell? ⟨gb238,3,none⟩=some (.slice A0_3 l0_3.length c0_3):=(qC BK238.out 3).trans rfl;have hcz35_4:w34.cell? ⟨gb238,4,none⟩=some (.slice A0_4 l0_4.length c0_4):=(qC BK238.out 4).trans rfl;have hfz35_0:=qF BK238.out 0;have hfz35_1:=qF BK238.out 1;have hfz35_2:=qF BK238.out 2;have hfz35_3:=qF BK238.out 3;have hfz35_4:=qF BK238.out 4)|(go_at_call 42;(with_reducible refine (areAll_isStep.calls _ _ l0_2  false _ ?side1 ?side2 A11.out).mono ?_);(case side1=>repeat (first|exact (cB HR0_2.out HB.out)|(with_reducible first|refine cL ?_ _|refine cN ?_ _|refine cW ?_)));(case side2=>exact HC0_2.out);rintro e w36 ⟨rfl,hb⟩;have n0_:=qK (rB (by (with_reducible repeat (first|apply rL|apply rN|apply rW));exact HO241.out) hb);have n1_:=qK (qB (g:=gb238) (o:=_) (by (with_reducible repeat (first|refine qN ?_ _|refine qW ?_|refine qL ?_ _));exact BK238.out) hb);have n2_:=qK (qT (by repeat (with_reducible first|exact HB.out|apply qA|apply qD|apply qO|refine qS ?_ GE238.out)) hb);clear HO241;clear BK238;clear HB;have HO241:=n0_;have BK238:=n1_;have HB:=n2_;clear n0_ n1_ n2_;(try clear hb);(try clear hb2);(try clear hk);(try clear hi)))
     go_meet
     case rel=>exact ⟨_,(true),(by first|rfl|(simp;done)|(simp [*];done)),H',⟨by first|omega|exact Nat.le_refl _⟩,⟨by (with_reducible repeat (first|apply rL|apply rN|apply rW));exact HO241.out⟩,⟨by (with_reducible repeat (first|refine qN ?_ _|refine qW ?_|refine qL ?_ _));exact BK238.out⟩,⟨by repeat (first|(with_reducible first|exact HB.out|apply qA|apply qD|apply qO|refine qS ?_ GE238.out)|exact HB.out)⟩⟩
   ·replace c10:=Bool.eq_false_iff.mpr c10;subst c10;have H1:(impl_GoodLocks.j0 k t239 true l0_0 l0_1 l0_2 l0_3 l0_4)=some r:=by rw [if_neg (show ¬ (false=true) by decide)] at H;exact H
    clear H;have H:=H1;clear H1;have H':=qK H;clear H;have hcz37_0:w6.cell? ⟨gb238,0,none⟩=some (.slice A0_0 l0_0.length c0_0):=(qC BK238.out 0).trans rfl;have hcz37_1:w6.cell? ⟨gb238,1,none⟩=some (.slice A0_1 l0_1.length c0_1):=(qC BK238.out 1).trans rfl;have hcz37_2:w6.cell? ⟨gb238,2,none⟩=some (.slice A0_2 l0_2.length c0_2):=(qC BK238.out 2).trans rfl;have hcz37_3:w6.cell? ⟨gb238,3,none⟩=some (.slice A0_3 l0_3.length c0_3):=(qC BK238.out 3).trans rfl;have hcz37_4:w6.cell? ⟨gb238,4,none⟩=some (.slice A0_4 l0_4.length c0_4):=(qC BK238.out 4).trans rfl;have hfz37_0:=qF BK238.out 0;have hfz37_1:=qF BK238.out 1;have hfz37_2:=qF BK238.out 2;have hfz37_3:=qF BK238.out 3;have hfz37_4:=qF BK238.out 4;go_wp2_with (first|((with_reducible refine gate_callee (f:=42) rfl ?_);refine goesL_ (some 11) rfl rfl Try.func42 (by kernel_rfl) rfl #[.slice A0_0 l0_0.length c0_0,.func (.func 43) #[] #[]] rfl (by (try simp only [mT,mC,mN]);first|done|rfl|(simp only [lD,lT];rfl)) ?_;(with_reducible refine (areAll_isStep.calls _ _ l0_0  true _ ?side1 ?side2 A7.out).mono ?_);(case side1=>repeat (first|exact (cB HR0_0.out (by repeat (with_reducible first|exact HB.out|apply qA|apply qD|apply qO|refine qS ?_ GE238.out)))|(with_reducible first|refine cL ?_ _|refine cN ?_ _|refine cW ?_)));(case side2=>exact HC0_0.out);rintro e w38 ⟨rfl,hb⟩;refine ⟨_,rfl,?_⟩;have n0_:=qK (rB (by (with_reducible repeat (first|apply rL|apply rN|apply rW));exact HO241.out) hb);have n1_:=qK (qB (g:=gb238) (o:=_) (by (with_reducible repeat (first|refine qN ?_ _|refine qW ?_|refine qL ?_ _));exact BK238.out) hb);have n2_:=qK (qT (by repeat (with_reducible first|exact HB.out|apply qA|apply qD|apply qO|refine qS ?_ GE238.out)) hb);clear HO241;clear BK238;clear HB;have HO241:=n0_;have BK238:=n1_;have HB:=n2_;clear n0_ n1_ n2_;(try clear hb);have hcz39_0:w38.cell? ⟨gb238,0,none⟩=some (.slice A0_0 l0_0.length c0_0):=(qC BK238.out 0).trans rfl;have hcz39_1:w38.cell? ⟨gb238,1,none⟩=some (.slice A0_1 l0_1.length c0_1):=(qC BK238.out 1).trans rfl;have hcz39_2:w38.cell? ⟨gb238,2,none⟩=some (.slice A0_2 l0_2.length c0_2):=(qC BK238.out 2).trans rfl;have hcz39_3:w38.cell? ⟨gb238,3,none⟩=some (.slice A0_3 l0_3.length c0_3):=(qC BK238.out 3).trans rfl;have hcz39_4:w38.cell? ⟨gb238,4,none⟩=some (.slice A0_4 l0_4.length c0_4):=(qC BK238.out 4).trans rfl;have hfz39_0:=qF BK238.out 0;have hfz39_1:=qF BK238.out 1;have hfz39_2:=qF BK238.out 2;have hfz39_3:=qF BK238.out 3;have hfz39_4:=qF BK238.out 4)|(go_at_call 42;(with_reducible refine (areAll_isStep.calls _ _ l0_1  false _ ?side1 ?side2 A9.out).mono ?_);(case side1=>repeat (first|exact (cB HR0_1.out HB.out)|(with_reducible first|refine cL ?_ _|refine cN ?_ _|refine cW ?_)));(case side2=>exact HC0_1.out);rintro e w40 ⟨rfl,hb⟩;have n0_:=qK (rB (by (with_reducible repeat (first|apply rL|apply rN|apply rW));exact HO241.out) hb);have n1_:=qK (qB (g:=gb238) (o:=_) (by (with_reducible repeat (first|refine qN ?_ _|refine qW ?_|refine qL ?_ _));exact BK238.out) hb);have n2_:=qK (qT (by repeat (with_reducible first|exact HB.out|apply qA|apply qD|apply qO|refine qS ?_ GE238.out)) hb);clear HO241;clear BK238;clear HB;have HO241:=n0_;have BK238:=n1_;have HB:=n2_;clear n0_ n1_ n2_;(try clear hb)))
    go_meet
    case rel=>exact ⟨_,(true),(by first|rfl|(simp;done)|(simp [*];done)),H',⟨by first|omega|exact Nat.le_refl _⟩,⟨by (with_reducible repeat (first|apply rL|apply rN|apply rW));exact HO241.out⟩,⟨by (with_reducible repeat (first|refine qN ?_ _|refine qW ?_|refine qL ?_ _));exact BK238.out⟩,⟨by repeat (first|(with_reducible first|exact HB.out|apply qA|apply qD|apply qO|refine qS ?_ GE238.out)|exact HB.out)⟩⟩
  ·replace c8:=Bool.eq_false_iff.mpr c8;subst c8;have H1:(impl_GoodLocks.j0 k t239 true l0_0 l0_1 l0_2 l0_3 l0_4)=some r:=by rw [if_neg (show ¬ (false=true) by decide)] at H;exact H
   clear H;have H:=H1;clear H1;have H':=qK H;clear H;have hcz41_0:w6.cell? ⟨gb238,0,none⟩=some (.slice A0_0 l0_0.length c0_0):=(qC BK238.out 0).trans rfl;have hcz41_1:w6.cell? ⟨gb238,1,none⟩=some (.slice A0_1 l0_1.length c0_1):=(qC BK238.out 1).trans rfl;have hcz41_2:w6.cell? ⟨gb238,2,none⟩=some (.slice A0_2 l0_2.length c0_2):=(qC BK238.out 2).trans rfl;have hcz41_3:w6.cell? ⟨gb238,3,none⟩=some (.slice A0_3 l0_3.length c0_3):=(qC BK238.out 3).trans rfl;have hcz41_4:w6.cell? ⟨gb238,4,none⟩=some (.slice A0_4 l0_4.length c0_4):=(qC BK238.out 4).trans rfl;have hfz41_0:=qF BK238.out 0;have hfz41_1:=qF BK238.out 1;have hfz41_2:=qF BK238.out 2;have hfz41_3:=qF BK238.out 3;have hfz41_4:=qF BK238.out 4;go_wp2_with (first|((with_reducible refine gate_callee (f:=42) rfl ?_);refine goesL_ (some 11) rfl rfl Try.func42 (by kernel_rfl) rfl #[.slice A0_0 l0_0.length c0_0,.func (.func 43) #[] #[]] rfl (by (try simp only [mT,mC,mN]);first|done|rfl|(simp only [lD,lT];rfl)) ?_;(with_reducible refine (areAll_isStep.calls _ _ l0_0  false _ ?side1 ?side2 A7.out).mono ?_);(case side1=>repeat (first|exact (cB HR0_0.out (by repeat (with_reducible first|exact HB.out|apply qA|apply qD|apply qO|refine qS ?_ GE238.out)))|(with_reducible first|refine cL ?_ _|refine cN ?_ _|refine cW ?_)));(case side2=>exact HC0_0.out);rintro e w42 ⟨rfl,hb⟩;refine ⟨_,rfl,?_⟩;have n0_:=qK (rB (by (with_reducible repeat (first|apply rL|apply rN|apply rW));exact HO241.out) hb);have n1_:=qK (qB (g:=gb238) (o:=_) (by (with_reducible repeat (first|refine qN ?_ _|refine qW ?_|refine qL ?_ _));exact BK238.out) hb);have n2_:=qK (qT (by repeat (with_reducible first|exact HB.out|apply qA|apply qD|apply qO|refine qS ?_ GE238.out)) hb);clear HO241;clear BK238;clear HB;have HO241:=n0_;have BK238:=n1_;have HB:=n2_;clear n0_ n1_ n2_;(try clear hb)))
   go_meet
   case rel=>exact ⟨_,(true),(by first|rfl|(simp;done)|(simp [*];done)),H',⟨by first|omega|exact Nat.le_refl _⟩,⟨by (with_reducible repeat (first|apply rL|apply rN|apply rW));exact HO241.out⟩,⟨by (with_reducible repeat (first|refine qN ?_ _|refine qW ?_|refine qL ?_ _));exact BK238.out⟩,⟨by repeat (first|(with_reducible first|exact HB.out|apply qA|apply qD|apply qO|refine qS ?_ GE238.out)|exact HB.out)⟩⟩
 case rest =>
  clear HC3;try clear c1
  try clear c2
  try clear p2
  try clear c4
  try clear p6
  try clear c8
  try clear c10
  try clear c12
  try clear c13
  try clear c13b0
  try clear c25
  try clear c41
  try clear c42
  try clear hcz14_0
  try clear hcz14_1
  try clear hcz14_2
  try clear hcz14_3
  try clear hcz14_4
  try clear hcz16_0
  try clear hcz16_1
  try clear hcz16_2
  try clear hcz16_3
  try clear hcz16_4
  try clear hcz18_0
  try clear hcz18_1
  try clear hcz18_2
  try clear hcz18_3
  try clear hcz18_4
  try clear hcz20_0
  try clear hcz20_1
  try clear hcz20_2
  try clear hcz20_3
  try clear hcz20_4
  try clear hcz22_0
  try clear hcz22_1
  try clear hcz22_2
  try clear hcz22_3
  try clear hcz22_4
  try clear hcz24_0
  try clear hcz24_1
  try clear hcz24_2
  try clear hcz24_3
  try clear hcz24_4
  try clear hcz26_0
  try clear hcz26_1
  try clear hcz26_2
  try clear hcz26_3
  try clear hcz26_4
  try clear hcz28_0
  try clear hcz28_1
  try clear hcz28_2
  try clear hcz28_3
  try clear hcz28_4
  try clear hcz31_0
  try clear hcz31_1
  try clear hcz31_2
  try clear hcz31_3
  try clear hcz31_4
  try clear hcz33_0
  try clear hcz33_1
  try clear hcz33_2
  try clear hcz33_3
  try clear hcz33_4
  try clear hcz35_0
  try clear hcz35_1
  try clear hcz35_2
  try clear hcz35_3
  try clear hcz35_4
  try clear hcz37_0
  try clear hcz37_1
  try clear hcz37_2
  try clear hcz37_3
  try clear hcz37_4
  try clear hcz39_0
  try clear hcz39_1
  try clear hcz39_2
  try clear hcz39_3
  try clear hcz39_4
  try clear hcz41_0
  try clear hcz41_1
  try clear hcz41_2
  try clear hcz41_3
  try clear hcz41_4
  try clear hcz5_0
  try clear hcz5_1
  try clear hcz5_2
  try clear hcz5_3
  try clear hcz5_4
  try clear hfz14_0
  try clear hfz14_1
  try clear hfz14_2
  try clear hfz14_3
  try clear hfz14_4
  try clear hfz16_0
  try clear hfz16_1
  try clear hfz16_2
  try clear hfz16_3
  try clear hfz16_4
  try clear hfz18_0
  try clear hfz18_1
  try clear hfz18_2
  try clear hfz18_3
  try clear hfz18_4
  try clear hfz20_0
  try clear hfz20_1
  try clear hfz20_2
  try clear hfz20_3
  try clear hfz20_4
  try clear hfz22_0
  try clear hfz22_1
  try clear hfz22_2
  try clear hfz22_3
  try clear hfz22_4
  try clear hfz24_0
  try clear hfz24_1
  try clear hfz24_2
  try clear hfz24_3
  try clear hfz24_4
  try clear hfz26_0
  try clear hfz26_1
  try clear hfz26_2
  try clear hfz26_3
  try clear hfz26_4
  try clear hfz28_0
  try clear hfz28_1
  try clear hfz28_2
  try clear hfz28_3
  try clear hfz28_4
  try clear hfz31_0
  try clear hfz31_1
  try clear hfz31_2
  try clear hfz31_3
  try clear hfz31_4
  try clear hfz33_0
  try clear hfz33_1
  try clear hfz33_2
  try clear hfz33_3
  try clear hfz33_4
  try clear hfz35_0
  try clear hfz35_1
  try clear hfz35_2
  try clear hfz35_3
  try clear hfz35_4
  try clear hfz37_0
  try clear hfz37_1
  try clear hfz37_2
  try clear hfz37_3
  try clear hfz37_4
  try clear hfz39_0
  try clear hfz39_1
  try clear hfz39_2
  try clear hfz39_3
  try clear hfz39_4
  try clear hfz41_0
  try clear hfz41_1
  try clear hfz41_2
  try clear hfz41_3
  try clear hfz41_4
  try clear hfz5_0
  try clear hfz5_1
  try clear hfz5_2
  try clear hfz5_3
  try clear hfz5_4
  obtain ⟨kq,x39_2,rfl,HA,HJ2,HO_3,BK238,HB⟩:=hcut;cases kq with
  | zero=>exact absurd HA.out (by simp [impl_GoodLocks.j0])
  | succ kj2 =>
   have H:=HA.out;clear HA;simp only [impl_GoodLocks.j0] at H;by_cases c43:x39_2=true
   ·subst c43;have H1:(some false)=some r:=by rw [if_pos rfl] at H;exact H
    clear H;have H:=H1;clear H1;obtain rfl:=Option.some.inj H;go_wp2
    go_ret
    exact ⟨by first|rfl|(simp [errW_none,errW_some] <;> rfl)|(simp [*,errW_none,errW_some] <;> rfl),by repeat (first|(with_reducible first|exact HB.out|apply qA|apply qD|apply qO|refine qS ?_ GE238.out)|exact HB.out)⟩
   ·replace c43:=Bool.eq_false_iff.mpr c43;subst c43;have H1:((impl_setOf.f kj2 t239).bind fun t246=>((impl_set_list.f kj2 t246).bind fun t247=>(if (t247.length:Int)=(t239.length:Int) then ((impl_txnsOf.f kj2 l0_1).bind fun t250=>((impl_set_list.f kj2 t250).bind fun t251=>(if (t251.length:Int)=(l0_1.length:Int) then ((impl_txnsOf.f kj2 l0_1).bind fun t254=>((impl_txnsOf.f kj2 l0_0).bind fun t255=>(impl_GoodLocks.j1 kj2 ((Go.bits .and .i64 t246 (Go.bits .or .i64 t254 t255)) != 0) l0_0 l0_1 l0_2 l0_3 l0_4))) else (impl_GoodLocks.j1 kj2 true l0_0 l0_1 l0_2 l0_3 l0_4)))) else (impl_GoodLocks.j1 kj2 true l0_0 l0_1 l0_2 l0_3 l0_4))))=some r:=by rw [if_neg (show ¬ (false=true) by decide)] at H;exact H
    clear H;have H:=H1;clear H1;replace H:=Option.bind_eq_some_iff.mp H;obtain ⟨t246,A440,H⟩:=H;replace H:((impl_set_list.f kj2 t246).bind fun t247=>(if (t247.length:Int)=(t239.length:Int) then ((impl_txnsOf.f kj2 l0_1).bind fun t250=>((impl_set_list.f kj2 t250).bind fun t251=>(if (t251.length:Int)=(l0_1.length:Int) then ((impl_txnsOf.f kj2 l0_1).bind fun t254=>((impl_txnsOf.f kj2 l0_0).bind fun t255=>(impl_GoodLocks.j1 kj2 ((Go.bits .and .i64 t246 (Go.bits .or .i64 t254 t255)) != 0) l0_0 l0_1 l0_2 l0_3 l0_4))) else (impl_GoodLocks.j1 kj2 true l0_0 l0_1 l0_2 l0_3 l0_4)))) else (impl_GoodLocks.j1 kj2 true l0_0 l0_1 l0_2 l0_3 l0_4)))=some r:=H;have A44:=qK A440;clear A440;have HC45:=qK H;clear H;obtain ⟨Ao46,co46,eo46⟩:=Kd.R_slice HO_3.out;subst eo46;go_upto_region 5 with (first|((with_reducible refine gate_callee (f:=46) rfl ?_);refine goesL_ (some 41) rfl rfl Try.func46 (by kernel_rfl) rfl #[.slice Ao46 t239.length co46] rfl (by (try simp only [mT,mC,mN]);first|done|rfl|(simp only [lD,lT];rfl)) ?_;(with_reducible refine (impl_setOf.calls kj2 _ _ t239 t246 _ ?side1 ?side2 A44.out).mono ?_);(case side1=>repeat (first|exact (Kd.R_reads' HO_3.out).2.2|(with_reducible first|refine cL ?_ _|refine cN ?_ _|refine cW ?_)));(case side2=>exact (Kd.R_reads' HO_3.out).2.1);rintro e w' ⟨rfl,⟨nd,rfl⟩⟩;refine ⟨_,rfl,?_⟩))
    (try simp only [Act.put,List.setIfInBounds_toArray,List.set_cons_zero,List.set_cons_succ]);go_cut [70] (fun v70 wc=>∃ (kq:Nat) (x70_44:Bool),v70=.bool x70_44∧Aside0 (impl_GoodLocks.j1 kq x70_44 l0_0 l0_1 l0_2 l0_3 l0_4=some r)∧Aside0 (kq≤kj2)∧Aside0 (wc.heap[gb238]?=some (.cells #[(.slice A0_0 l0_0.length c0_0),(.slice A0_1 l0_1.length c0_1),(.slice A0_2 l0_2.length c0_2),(.slice A0_3 l0_3.length c0_3),(.slice A0_4 l0_4.length c0_4)] 31 (0,0)))∧Aside0 (Below w.heap.size w wc))
    case first =>
     have H:=HC45.out;clear HC45;replace H:=Option.bind_eq_some_iff.mp H;obtain ⟨t247,A470,H⟩:=H;replace H:(if (t247.length:Int)=(t239.length:Int) then ((impl_txnsOf.f kj2 l0_1).bind fun t250=>((impl_set_list.f kj2 t250).bind fun t251=>(if (t251.length:Int)=(l0_1.length:Int) then ((impl_txnsOf.f kj2 l0_1).bind fun t254=>((impl_txnsOf.f kj2 l0_0).bind fun t255=>(impl_GoodLocks.j1 kj2 ((Go.bits .and .i64 t246 (Go.bits .or .i64 t254 t255)) != 0) l0_0 l0_1 l0_2 l0_3 l0_4))) else (impl_GoodLocks.j1 kj2 true l0_0 l0_1 l0_2 l0_3 l0_4)))) else (impl_GoodLocks.j1 kj2 true l0_0 l0_1 l0_2 l0_3 l0_4))=some r:=H;have A47:=qK A470;clear A470;by_cases c48:(t247.length:Int)=(t239.length:Int)
     ·rw [if_pos c48] at H;have c48b0:((t247.length:Int) == (t239.length:Int))=true:=beq_iff_eq.mpr c48;have c48b1:((t247.length:Int) != (t239.length:Int))=false:=bne_eq_false_iff_eq.mpr c48;have c48b2:(t247.length == t239.length)=true:=by first|simpa using c48|(simp at c48 ⊢;omega)
      clear c48;(first|rw [c48b0]|(simp only [i64_w,i32_w];rw [c48b0])|skip);replace H:=Option.bind_eq_some_iff.mp H;obtain ⟨t250,A490,H⟩:=H;replace H:((impl_set_list.f kj2 t250).bind fun t251=>(if (t251.length:Int)=(l0_1.length:Int) then ((impl_txnsOf.f kj2 l0_1).bind fun t254=>((impl_txnsOf.f kj2 l0_0).bind fun t255=>(impl_GoodLocks.j1 kj2 ((Go.bits .and .i64 t246 (Go.bits .or .i64 t254 t255)) != 0) l0_0 l0_1 l0_2 l0_3 l0_4))) else (impl_GoodLocks.j1 kj2 true l0_0 l0_1 l0_2 l0_3 l0_4)))=some r:=H;have A49:=qK A490;clear A490;replace H:=Option.bind_eq_some_iff.mp H;obtain ⟨t251,A500,H⟩:=H;replace H:(if (t251.length:Int)=(l0_1.length:Int) then ((impl_txnsOf.f kj2 l0_1).bind fun t254=>((impl_txnsOf.f kj2 l0_0).bind fun t255=>(impl_GoodLocks.j1 kj2 ((Go.bits .and .i64 t246 (Go.bits .or .i64 t254 t255)) != 0) l0_0 l0_1 l0_2 l0_3 l0_4))) else (impl_GoodLocks.j1 kj2 true l0_0 l0_1 l0_2 l0_3 l0_4))=some r:=H;have A50:=qK A500;clear A500;by_cases c51:(t251.length:Int)=(l0_1.length:Int)
      ·rw [if_pos c51] at H;have c51b0:((t251.length:Int) == (l0_1.length:Int))=true:=beq_iff_eq.mpr c51;have c51b1:((t251.length:Int) != (l0_1.length:Int))=false:=bne_eq_false_iff_eq.mpr c51;have c51b2:(t251.length == l0_1.length)=true:=by first|simpa using c51|(simp at c51 ⊢;omega)
       clear c51;replace H:=Option.bind_eq_some_iff.mp H;obtain ⟨t254,A520,H⟩:=H;replace H:((impl_txnsOf.f kj2 l0_0).bind fun t255=>(impl_GoodLocks.j1 kj2 ((Go.bits .and .i64 t246 (Go.bits .or .i64 t254 t255)) != 0) l0_0 l0_1 l0_2 l0_3 l0_4))=some r:=H;have A52:=qK A520;clear A520;replace H:=Option.bind_eq_some_iff.mp H;obtain ⟨t255,A530,H⟩:=H;replace H:(impl_GoodLocks.j1 kj2 ((Go.bits .and .i64 t246 (Go.bits .or .i64 t254 t255)) != 0) l0_0 l0_1 l0_2 l0_3 l0_4)=some r:=H;have A53:=qK A530;clear A530;have H':=qK H;clear H;try go_wp2
       (try (rw [drewN_self wc];generalize hq_:World.drewN wc _=wc;have n0_:Aside0 (Kd.R (Kd.int .i64) 3 wc w.heap.size (fun _=>True) (.slice Ao46 t239.length co46) t239):=⟨by rw [← hq_];exact (by (with_reducible repeat (first|apply rL|apply rN|apply rW));exact HO_3.out)⟩;have n1_:Aside0 (wc.heap[gb238]?=some (.cells #[.slice A0_0 l0_0.length c0_0,.slice A0_1 l0_1.length c0_1,.slice A0_2 l0_2.length c0_2,.slice A0_3 l0_3.length c0_3,.slice A0_4 l0_4.length c0_4] 31 (0,0))):=⟨by rw [← hq_];exact (by (with_reducible repeat (first|refine qN ?_ _|refine qW ?_|refine qL ?_ _));exact BK238.out)⟩;have n2_:Aside0 (Below w.heap.size w wc):=⟨by rw [← hq_];exact (by repeat (with_reducible first|exact HB.out|apply qA|apply qD|apply qO|refine qS ?_ GE238.out))⟩;clear HO_3 BK238 HB hq_;have HO_3:=n0_;have BK238:=n1_;have HB:=n2_;clear n0_ n1_ n2_));have n0_:=qK (rW HO_3.out);have n1_:=qK (qW BK238.out);have n2_:=qK (qO HB.out);clear HO_3;clear BK238;clear HB;have HO_3:=n0_;have BK238:=n1_;have HB:=n2_;clear n0_ n1_ n2_;refine start_ (n:=29) (S:=fun w'=>w'.cell? ⟨gb238,0,none⟩=some (.slice A0_0 l0_0.length c0_0)∧w'.cell? ⟨gb238,1,none⟩=some (.slice A0_1 l0_1.length c0_1)∧w'.cell? ⟨gb238,2,none⟩=some (.slice A0_2 l0_2.length c0_2)∧w'.cell? ⟨gb238,3,none⟩=some (.slice A0_3 l0_3.length c0_3)∧w'.cell? ⟨gb238,4,none⟩=some (.slice A0_4 l0_4.length c0_4)) (ds:=[]) #[Z,Z,Z,Z,Z,Z,Z,Z,Z,Z,Z,Z,Z,Z,Z,Z,Z,Z,Z,Z,Z,Z,Z,Z,Z,Z,Z,Z,Z] (by kernel_rfl) rfl rfl ⟨(qC BK238.out 0).trans rfl,(qC BK238.out 1).trans rfl,(qC BK238.out 2).trans rfl,(qC BK238.out 3).trans rfl,(qC BK238.out 4).trans rfl⟩ (fun hHeld=>?_);refine with_tabW impl_GoodLocks.tab5 impl_GoodLocks.bits5 (fun HT_ HW_=>?_);generalize wc.drew=w54 at HO_3 BK238 HB hHeld ⊢
       refine pure_ (i:=0) (N:=some 42) (v:=?_) (a':=?_) #[Y,Z,Z,Z,Z,Z,Z,Z,Z,Z,Z,Z,Z,Z,Z,Z,Z,Z,Z,Z,Z,Z,Z,Z,Z,Z,Z,Z,Z] rfl rfl (any_of HT_.out (by kernel_rfl)) (fun _ _ _ h=>h) (Or.inl ⟨by rfl,?_⟩) ?_ ?_;rotate_left
       ·intro w';go_simp;with_reducible rfl
       rotate_left
       ·simp only [Act.put,sIb,sZ,sS,i64_w,i32_w];rfl
       refine pure_ (i:=3) (N:=some 45) (v:=?_) (a':=?_) #[Y,Z,Z,Y,Z,Z,Z,Z,Z,Z,Z,Z,Z,Z,Z,Z,Z,Z,Z,Z,Z,Z,Z,Z,Z,Z,Z,Z,Z] rfl rfl (any_of HT_.out (by kernel_rfl)) (fun _ _ _ h=>h) (Or.inl ⟨by rfl,?_⟩) ?_ ?_;rotate_left
       ·intro w';go_simp;with_reducible rfl
       rotate_left
       ·simp only [Act.put,sIb,sZ,sS,i64_w,i32_w];rfl
       refine pure_ (i:=4) (N:=some 46) (v:=?_) (a':=?_) #[Y,Z,Z,Y,Y,Z,Z,Z,Z,Z,Z,Z,Z,Z,Z,Z,Z,Z,Z,Z,Z,Z,Z,Z,Z,Z,Z,Z,Z] rfl rfl (any_of HT_.out (by kernel_rfl)) (fun _ _ _ h=>h) (Or.inl ⟨by rfl,?_⟩) ?_ ?_;rotate_left
       ·intro w';go_simp;with_reducible rfl
       rotate_left
       ·simp only [Act.put,sIb,sZ,sS,i64_w,i32_w];rfl
       refine one_ (i:=1) (N:=some 43) #[Y,Y,Z,Y,Y,Z,Z,Z,Z,Z,Z,Z,Z,Z,Z,Z,Z,Z,Z,Z,Z,Z,Z,Z,Z,Z,Z,Z,Z] rfl rfl (one_of HT_.out (by kernel_rfl)) (by decide) (fun K hK=>?_);refine goes_ Try.func35 (by kernel_rfl) rfl #[.int .i64 t246] (by rfl) rfl rfl (by (try simp only [mT,mC,mN]);first|done|rfl|(simp only [lD,lT];rfl)) ?_;with_reducible refine (impl_set_list.calls kj2 t246 t247 _ A47.out).mono ?_
       rintro e w55 ⟨v248,rfl,ho0,hb⟩;refine ⟨_,rfl,?_⟩;have n0_:=qK (Kd.R_elder' (by (with_reducible repeat (first|apply rL|apply rN|apply rW));exact HO_3.out) (Kd.R_base ho0) hb);have n1_:=qK (Kd.R_lower (Kd.R_new' ho0 (Kd.R_lt (by (with_reducible repeat (first|apply rL|apply rN|apply rW));exact HO_3.out))) (qZ (by repeat (with_reducible first|exact HB.out|apply qA|apply qD|apply qO|refine qS ?_ GE238.out))));have n2_:=qK (qB (g:=gb238) (o:=_) (by (with_reducible repeat (first|refine qN ?_ _|refine qW ?_|refine qL ?_ _));exact BK238.out) hb);have n3_:=qK (qT (by repeat (with_reducible first|exact HB.out|apply qA|apply qD|apply qO|refine qS ?_ GE238.out)) hb);clear HO_3;clear BK238;clear HB;have HO_3:=n0_;have HO249:=n1_;have BK238:=n2_;have HB:=n3_;clear n0_ n1_ n2_ n3_;(try clear hb);(try clear ho0);obtain ⟨Ao56,co56,eo56⟩:=Kd.R_slice HO249.out;(first|subst eo56|(injection eo56 with f1_ f2_ f3_;have f4_:=f1_.symm;have f5_:=f3_.symm;clear f1_ f2_ f3_;subst f4_;subst f5_));refine hK.out _ _ ⟨(qC BK238.out 0).trans rfl,(qC BK238.out 1).trans rfl,(qC BK238.out 2).trans rfl,(qC BK238.out 3).trans rfl,(qC BK238.out 4).trans rfl⟩ (fun hHeld=>?_);clear hK K;refine norm_ (a':=?_) ?_ ?_;rotate_left
       ·show Act.put _ (some 43) _=_
        simp only [Act.put,sIb,sZ,sS,i64_w,i32_w];rfl
       refine pure_ (i:=2) (N:=some 44) (v:=?_) (a':=?_) #[Y,Y,Y,Y,Y,Z,Z,Z,Z,Z,Z,Z,Z,Z,Z,Z,Z,Z,Z,Z,Z,Z,Z,Z,Z,Z,Z,Z,Z] rfl rfl (any_of HT_.out (by kernel_rfl)) (fun _ _ _ h=>h) (Or.inl ⟨by rfl,?_⟩) ?_ ?_;rotate_left
       ·intro w';go_simp;with_reducible rfl
       rotate_left
       ·simp only [Act.put,sIb,sZ,sS,i64_w,i32_w];rfl
       refine pure_ (i:=5) (N:=some 47) (v:=?_) (a':=?_) #[Y,Y,Y,Y,Y,Y,Z,Z,Z,Z,Z,Z,Z,Z,Z,Z,Z,Z,Z,Z,Z,Z,Z,Z,Z,Z,Z,Z,Z] rfl rfl (any_of HT_.out (by kernel_rfl)) (fun _ _ _ h=>h) (Or.inl ⟨by rfl,?_⟩) ?_ ?_;rotate_left
       ·intro w';go_simp;with_reducible rfl
       rotate_left
       ·simp only [Act.put,sIb,sZ,sS,i64_w,i32_w];rfl
       refine pure_ (i:=6) (N:=some 48) (v:=?_) (a':=?_) #[Y,Y,Y,Y,Y,Y,Y,Z,Z,Z,Z,Z,Z,Z,Z,Z,Z,Z,Z,Z,Z,Z,Z,Z,Z,Z,Z,Z,Z] rfl rfl (any_of HT_.out (by kernel_rfl)) (fun _ _ _ h=>h) (Or.inl ⟨by rfl,?_⟩) ?_ ?_;rotate_left
       ·intro w';go_simp;with_reducible rfl
       rotate_left
       ·simp only [Act.put,sIb,sZ,sS,i64_w,i32_w];rfl
       refine pure_ (i:=7) (N:=some 49) (v:=?_) (a':=?_) #[Y,Y,Y,Y,Y,Y,Y,Y,Z,Z,Z,Z,Z,Z,Z,Z,Z,Z,Z,Z,Z,Z,Z,Z,Z,Z,Z,Z,Z] rfl rfl (any_of HT_.out (by kernel_rfl)) (fun _ _ _ h=>h) (Or.inl ⟨by rfl,?_⟩) ?_ ?_;rotate_left
       ·intro w';go_simp;with_reducible rfl
       rotate_left
       ·simp only [Act.put,sIb,sZ,sS,i64_w,i32_w];rfl
       refine pure_ (i:=12) (N:=some 54) (v:=?_) (a':=?_) #[Y,Y,Y,Y,Y,Y,Y,Y,Z,Z,Z,Z,Y,Z,Z,Z,Z,Z,Z,Z,Z,Z,Z,Z,Z,Z,Z,Z,Z] rfl rfl (any_of HT_.out (by kernel_rfl)) (fun _ _ _ h=>h) (Or.inl ⟨by rfl,?_⟩) ?_ ?_;rotate_left
       ·intro w';go_simp;with_reducible rfl
       rotate_left
       ·simp only [Act.put,sIb,sZ,sS,i64_w,i32_w];rfl
       refine take_ (i:=8) (N:=some 50) (v:=?_) (a':=?_) #[Y,Y,Y,Y,Y,Y,Y,Y,Y,Z,Z,Z,Y,Z,Z,Z,Z,Z,Z,Z,Z,Z,Z,Z,Z,Z,Z,Z,Z] rfl rfl (take_ofW HT_.out HW_.out (by kernel_rfl)) (fun _ _ _ h=>h) (Or.inl ⟨by rfl,?_⟩) hHeld ?_ ?_;rotate_left
       ·rintro w' ⟨s0,s1,s2,s3,s4⟩;go_simp;with_reducible rfl
       rotate_left
       ·simp only [Act.put,sIb,sZ,sS,i64_w,i32_w];rfl
       refine take_ (i:=13) (N:=some 55) (v:=?_) (a':=?_) #[Y,Y,Y,Y,Y,Y,Y,Y,Y,Z,Z,Z,Y,Y,Z,Z,Z,Z,Z,Z,Z,Z,Z,Z,Z,Z,Z,Z,Z] rfl rfl (take_ofW HT_.out HW_.out (by kernel_rfl)) (fun _ _ _ h=>h) (Or.inl ⟨by rfl,?_⟩) hHeld ?_ ?_;rotate_left
       ·rintro w' ⟨s0,s1,s2,s3,s4⟩;go_simp;with_reducible rfl
       rotate_left
       ·simp only [Act.put,sIb,sZ,sS,i64_w,i32_w];rfl
       refine pure_ (i:=14) (N:=some 56) (v:=?_) (a':=?_) #[Y,Y,Y,Y,Y,Y,Y,Y,Y,Z,Z,Z,Y,Y,Y,Z,Z,Z,Z,Z,Z,Z,Z,Z,Z,Z,Z,Z,Z] rfl rfl (any_of HT_.out (by kernel_rfl)) (fun _ _ _ h=>h) (Or.inl ⟨by rfl,?_⟩) ?_ ?_;rotate_left
       ·intro w';go_simp;with_reducible rfl
       rotate_left
       ·simp only [Act.put,sIb,sZ,sS,i64_w,i32_w];rfl
       refine one_ (i:=9) (N:=some 51) #[Y,Y,Y,Y,Y,Y,Y,Y,Y,Y,Z,Z,Y,Y,Y,Z,Z,Z,Z,Z,Z,Z,Z,Z,Z,Z,Z,Z,Z] rfl rfl (one_of HT_.out (by kernel_rfl)) (by decide) (fun K hK=>?_);refine goes_ Try.func47 (by kernel_rfl) rfl #[.slice A0_1 l0_1.length c0_1] (by rfl) rfl rfl (by (try simp only [mT,mC,mN]);first|done|rfl|(simp only [lD,lT];rfl)) ?_;with_reducible refine (impl_txnsOf.calls kj2 _ _ l0_1 t250 _ ?side1 ?side2 A49.out).mono ?_
       (case side1=>repeat (first|exact (cB HR0_1.out HB.out)|(with_reducible first|refine cL ?_ _|refine cN ?_ _|refine cW ?_)));(case side2=>exact HC0_1.out);rintro e w57 ⟨rfl,hb⟩;refine ⟨_,rfl,?_⟩;have n0_:=qK (rB (by (with_reducible repeat (first|apply rL|apply rN|apply rW));exact HO_3.out) hb);have n1_:=qK (rB (by (with_reducible repeat (first|apply rL|apply rN|apply rW));exact HO249.out) hb);have n2_:=qK (qB (g:=gb238) (o:=_) (by (with_reducible repeat (first|refine qN ?_ _|refine qW ?_|refine qL ?_ _));exact BK238.out) hb);have n3_:=qK (qT (by repeat (with_reducible first|exact HB.out|apply qA|apply qD|apply qO|refine qS ?_ GE238.out)) hb);clear HO_3;clear HO249;clear BK238;clear HB;have HO_3:=n0_;have HO249:=n1_;have BK238:=n2_;have HB:=n3_;clear n0_ n1_ n2_ n3_;(try clear hb);refine hK.out _ _ ⟨(qC BK238.out 0).trans rfl,(qC BK238.out 1).trans rfl,(qC BK238.out 2).trans rfl,(qC BK238.out 3).trans rfl,(qC BK238.out 4).trans rfl⟩ (fun hHeld=>?_);clear hK K;refine norm_ (a':=?_) ?_ ?_;rotate_left
       ·show Act.put _ (some 51) _=_
        simp only [Act.put,sIb,sZ,sS,i64_w,i32_w];rfl
       refine one_ (i:=10) (N:=some 52) #[Y,Y,Y,Y,Y,Y,Y,Y,Y,Y,Y,Z,Y,Y,Y,Z,Z,Z,Z,Z,Z,Z,Z,Z,Z,Z,Z,Z,Z] rfl rfl (one_of HT_.out (by kernel_rfl)) (by decide) (fun K hK=>?_);refine goes_ Try.func35 (by kernel_rfl) rfl #[.int .i64 t250] (by rfl) rfl rfl (by (try simp only [mT,mC,mN]);first|done|rfl|(simp only [lD,lT];rfl)) ?_;with_reducible refine (impl_set_list.calls kj2 t250 t251 _ A50.out).mono ?_
       rintro e w58 ⟨v252,rfl,ho0,hb⟩;refine ⟨_,rfl,?_⟩;have n0_:=qK (Kd.R_elder' (by (with_reducible repeat (first|apply rL|apply rN|apply rW));exact HO_3.out) (Kd.R_base ho0) hb);have n1_:=qK (Kd.R_elder' (by (with_reducible repeat (first|apply rL|apply rN|apply rW));exact HO249.out) (Kd.R_base ho0) hb);have n2_:=qK (Kd.R_lower (Kd.R_new' (Kd.R_new' ho0 (Kd.R_lt (by (with_reducible repeat (first|apply rL|apply rN|apply rW));exact HO_3.out))) (Kd.R_lt (by (with_reducible repeat (first|apply rL|apply rN|apply rW));exact HO249.out))) (qZ (by repeat (with_reducible first|exact HB.out|apply qA|apply qD|apply qO|refine qS ?_ GE238.out))));have n3_:=qK (qB (g:=gb238) (o:=_) (by (with_reducible repeat (first|refine qN ?_ _|refine qW ?_|refine qL ?_ _));exact BK238.out) hb);have n4_:=qK (qT (by repeat (with_reducible first|exact HB.out|apply qA|apply qD|apply qO|refine qS ?_ GE238.out)) hb);clear HO_3;clear HO249;clear BK238;clear HB;have HO_3:=n0_;have HO249:=n1_;have HO253:=n2_;have BK238:=n3_;have HB:=n4_;clear n0_ n1_ n2_ n3_ n4_;(try clear hb);(try clear ho0);obtain ⟨Ao59,co59,eo59⟩:=Kd.R_slice HO253.out;(first|subst eo59|(injection eo59 with f1_ f2_ f3_;have f4_:=f1_.symm;have f5_:=f3_.symm;clear f1_ f2_ f3_;subst f4_;subst f5_));refine hK.out _ _ ⟨(qC BK238.out 0).trans rfl,(qC BK238.out 1).trans rfl,(qC BK238.out 2).trans rfl,(qC BK238.out 3).trans rfl,(qC BK238.out 4).trans rfl⟩ (fun hHeld=>?_);clear hK K;refine norm_ (a':=?_) ?_ ?_;rotate_left
       ·show Act.put _ (some 52) _=_
        simp only [Act.put,sIb,sZ,sS,i64_w,i32_w];rfl
       refine pure_ (i:=11) (N:=some 53) (v:=?_) (a':=?_) #[Y,Y,Y,Y,Y,Y,Y,Y,Y,Y,Y,Y,Y,Y,Y,Z,Z,Z,Z,Z,Z,Z,Z,Z,Z,Z,Z,Z,Z] rfl rfl (any_of HT_.out (by kernel_rfl)) (fun _ _ _ h=>h) (Or.inl ⟨by rfl,?_⟩) ?_ ?_;rotate_left
       ·intro w';go_simp;with_reducible rfl
       rotate_left
       ·simp only [Act.put,sIb,sZ,sS,i64_w,i32_w];rfl
       refine pure_ (i:=15) (N:=some 57) (v:=?_) (a':=?_) #[Y,Y,Y,Y,Y,Y,Y,Y,Y,Y,Y,Y,Y,Y,Y,Y,Z,Z,Z,Z,Z,Z,Z,Z,Z,Z,Z,Z,Z] rfl rfl (any_of HT_.out (by kernel_rfl)) (fun _ _ _ h=>h) (Or.inl ⟨by rfl,?_⟩) ?_ ?_;rotate_left
       ·intro w';go_simp;with_reducible rfl
       rotate_left
       ·simp only [Act.put,sIb,sZ,sS,i64_w,i32_w];rfl
       refine pure_ (i:=16) (N:=some 58) (v:=?_) (a':=?_) #[Y,Y,Y,Y,Y,Y,Y,Y,Y,Y,Y,Y,Y,Y,Y,Y,Y,Z,Z,Z,Z,Z,Z,Z,Z,Z,Z,Z,Z] rfl rfl (any_of HT_.out (by kernel_rfl)) (fun _ _ _ h=>h) (Or.inl ⟨by rfl,?_⟩) ?_ ?_;rotate_left
       ·intro w';go_simp;with_reducible rfl
       rotate_left
       ·simp only [Act.put,sIb,sZ,sS,i64_w,i32_w];rfl
       refine pure_ (i:=17) (N:=some 59) (v:=?_) (a':=?_) #[Y,Y,Y,Y,Y,Y,Y,Y,Y,Y,Y,Y,Y,Y,Y,Y,Y,Y,Z,Z,Z,Z,Z,Z,Z,Z,Z,Z,Z] rfl rfl (any_of HT_.out (by kernel_rfl)) (fun _ _ _ h=>h) (Or.inl ⟨by rfl,?_⟩) ?_ ?_;rotate_left
       ·intro w';go_simp;with_reducible rfl
       rotate_left
       ·simp only [Act.put,sIb,sZ,sS,i64_w,i32_w];rfl
       refine pure_ (i:=18) (N:=some 60) (v:=?_) (a':=?_) #[Y,Y,Y,Y,Y,Y,Y,Y,Y,Y,Y,Y,Y,Y,Y,Y,Y,Y,Y,Z,Z,Z,Z,Z,Z,Z,Z,Z,Z] rfl rfl (any_of HT_.out (by kernel_rfl)) (fun _ _ _ h=>h) (Or.inl ⟨by rfl,?_⟩) ?_ ?_;rotate_left
       ·intro w';go_simp;with_reducible rfl
       rotate_left
       ·simp only [Act.put,sIb,sZ,sS,i64_w,i32_w];rfl
       refine pure_ (i:=19) (N:=some 61) (v:=?_) (a':=?_) #[Y,Y,Y,Y,Y,Y,Y,Y,Y,Y,Y,Y,Y,Y,Y,Y,Y,Y,Y,Y,Z,Z,Z,Z,Z,Z,Z,Z,Z] rfl rfl (any_of HT_.out (by kernel_rfl)) (fun _ _ _ h=>h) (Or.inl ⟨by rfl,?_⟩) ?_ ?_;rotate_left
       ·intro w';go_simp;with_reducible rfl
       rotate_left
       ·simp only [Act.put,sIb,sZ,sS,i64_w,i32_w];rfl
       refine pure_ (i:=22) (N:=some 64) (v:=?_) (a':=?_) #[Y,Y,Y,Y,Y,Y,Y,Y,Y,Y,Y,Y,Y,Y,Y,Y,Y,Y,Y,Y,Z,Z,Y,Z,Z,Z,Z,Z,Z] rfl rfl (any_of HT_.out (by kernel_rfl)) (fun _ _ _ h=>h) (Or.inl ⟨by rfl,?_⟩) ?_ ?_;rotate_left
       ·intro w';go_simp;with_reducible rfl
       rotate_left
       ·simp only [Act.put,sIb,sZ,sS,i64_w,i32_w];rfl
       refine take_ (i:=20) (N:=some 62) (v:=?_) (a':=?_) #[Y,Y,Y,Y,Y,Y,Y,Y,Y,Y,Y,Y,Y,Y,Y,Y,Y,Y,Y,Y,Y,Z,Y,Z,Z,Z,Z,Z,Z] rfl rfl (take_ofW HT_.out HW_.out (by kernel_rfl)) (fun _ _ _ h=>h) (Or.inl ⟨by rfl,?_⟩) hHeld ?_ ?_;rotate_left
       ·rintro w' ⟨s0,s1,s2,s3,s4⟩;go_simp;with_reducible rfl
       rotate_left
       ·simp only [Act.put,sIb,sZ,sS,i64_w,i32_w];rfl
       refine take_ (i:=23) (N:=some 65) (v:=?_) (a':=?_) #[Y,Y,Y,Y,Y,Y,Y,Y,Y,Y,Y,Y,Y,Y,Y,Y,Y,Y,Y,Y,Y,Z,Y,Y,Z,Z,Z,Z,Z] rfl rfl (take_ofW HT_.out HW_.out (by kernel_rfl)) (fun _ _ _ h=>h) (Or.inl ⟨by rfl,?_⟩) hHeld ?_ ?_;rotate_left
       ·rintro w' ⟨s0,s1,s2,s3,s4⟩;go_simp;with_reducible rfl
       rotate_left
       ·simp only [Act.put,sIb,sZ,sS,i64_w,i32_w];rfl
       refine one_ (i:=21) (N:=some 63) #[Y,Y,Y,Y,Y,Y,Y,Y,Y,Y,Y,Y,Y,Y,Y,Y,Y,Y,Y,Y,Y,Y,Y,Y,Z,Z,Z,Z,Z] rfl rfl (one_of HT_.out (by kernel_rfl)) (by decide) (fun K hK=>?_);refine goes_ Try.func47 (by kernel_rfl) rfl #[.slice A0_1 l0_1.length c0_1] (by rfl) rfl rfl (by (try simp only [mT,mC,mN]);first|done|rfl|(simp only [lD,lT];rfl)) ?_;with_reducible refine (impl_txnsOf.calls kj2 _ _ l0_1 t254 _ ?side1 ?side2 A52.out).mono ?_
       (case side1=>repeat (first|exact (cB HR0_1.out HB.out)|(with_reducible first|refine cL ?_ _|refine cN ?_ _|refine cW ?_)));(case side2=>exact HC0_1.out);rintro e w60 ⟨rfl,hb⟩;refine ⟨_,rfl,?_⟩;have n0_:=qK (rB (by (with_reducible repeat (first|apply rL|apply rN|apply rW));exact HO_3.out) hb);have n1_:=qK (rB (by (with_reducible repeat (first|apply rL|apply rN|apply rW));exact HO249.out) hb);have n2_:=qK (rB (by (with_reducible repeat (first|apply rL|apply rN|apply rW));exact HO253.out) hb);have n3_:=qK (qB (g:=gb238) (o:=_) (by (with_reducible repeat (first|refine qN ?_ _|refine qW ?_|refine qL ?_ _));exact BK238.out) hb);have n4_:=qK (qT (by repeat (with_reducible first|exact HB.out|apply qA|apply qD|apply qO|refine qS ?_ GE238.out)) hb);clear HO_3;clear HO249;clear HO253;clear BK238;clear HB;have HO_3:=n0_;have HO249:=n1_;have HO253:=n2_;have BK238:=n3_;have HB:=n4_;clear n0_ n1_ n2_ n3_ n4_;(try clear hb);refine hK.out _ _ ⟨(qC BK238.out 0).trans rfl,(qC BK238.out 1).trans rfl,(qC BK238.out 2).trans rfl,(qC BK238.out 3).trans rfl,(qC BK238.out 4).trans rfl⟩ (fun hHeld=>?_);clear hK K;refine norm_ (a':=?_) ?_ ?_;rotate_left
       ·show Act.put _ (some 63) _=_
        simp only [Act.put,sIb,sZ,sS,i64_w,i32_w];rfl
       refine one_ (i:=24) (N:=some 66) #[Y,Y,Y,Y,Y,Y,Y,Y,Y,Y,Y,Y,Y,Y,Y,Y,Y,Y,Y,Y,Y,Y,Y,Y,Y,Z,Z,Z,Z] rfl rfl (one_of HT_.out (by kernel_rfl)) (by decide) (fun K hK=>?_);refine goes_ Try.func47 (by kernel_rfl) rfl #[.slice A0_0 l0_0.length c0_0] (by rfl) rfl rfl (by (try simp only [mT,mC,mN]);first|done|rfl|(simp only [lD,lT];rfl)) ?_;with_reducible refine (impl_txnsOf.calls kj2 _ _ l0_0 t255 _ ?side1 ?side2 A53.out).mono ?_
       (case side1=>repeat (first|exact (cB HR0_0.out HB.out)|(with_reducible first|refine cL ?_ _|refine cN ?_ _|refine cW ?_)));(case side2=>exact HC0_0.out);rintro e w61 ⟨rfl,hb⟩;refine ⟨_,rfl,?_⟩;have n0_:=qK (rB (by (with_reducible repeat (first|apply rL|apply rN|apply rW));exact HO_3.out) hb);have n1_:=qK (rB (by (with_reducible repeat (first|apply rL|apply rN|apply rW));exact HO249.out) hb);have n2_:=qK (rB (by (with_reducible repeat (first|apply rL|apply rN|apply rW));exact HO253.out) hb);have n3_:=qK (qB (g:=gb238) (o:=_) (by (with_reducible repeat (first|refine qN ?_ _|refine qW ?_|refine qL ?_ _));exact BK238.out) hb);have n4_:=qK (qT (by repeat (with_reducible first|exact HB.out|apply qA|apply qD|apply qO|refine qS ?_ GE238.out)) hb);clear HO_3;clear HO249;clear HO253;clear BK238;clear HB;have HO_3:=n0_;have HO249:=n1_;have HO253:=n2_;have BK238:=n3_;have HB:=n4_;clear n0_ n1_ n2_ n3_ n4_;(try clear hb);refine hK.out _ _ ⟨(qC BK238.out 0).trans rfl,(qC BK238.out 1).trans rfl,(qC BK238.out 2).trans rfl,(qC BK238.out 3).trans rfl,(qC BK238.out 4).trans rfl⟩ (fun hHeld=>?_);clear hK K;refine norm_ (a':=?_) ?_ ?_;rotate_left
       ·show Act.put _ (some 66) _=_
        simp only [Act.put,sIb,sZ,sS,i64_w,i32_w];rfl
       refine pure_ (i:=25) (N:=some 67) (v:=?_) (a':=?_) #[Y,Y,Y,Y,Y,Y,Y,Y,Y,Y,Y,Y,Y,Y,Y,Y,Y,Y,Y,Y,Y,Y,Y,Y,Y,Y,Z,Z,Z] rfl rfl (any_of HT_.out (by kernel_rfl)) (fun _ _ _ h=>h) (Or.inl ⟨by rfl,?_⟩) ?_ ?_;rotate_left
       ·intro w';go_simp;with_reducible rfl
       rotate_left
       ·simp only [Act.put,sIb,sZ,sS,i64_w,i32_w];rfl
       refine pure_ (i:=26) (N:=some 68) (v:=?_) (a':=?_) #[Y,Y,Y,Y,Y,Y,Y,Y,Y,Y,Y,Y,Y,Y,Y,Y,Y,Y,Y,Y,Y,Y,Y,Y,Y,Y,Y,Z,Z] rfl rfl (any_of HT_.out (by kernel_rfl)) (fun _ _ _ h=>h) (Or.inl ⟨by rfl,?_⟩) ?_ ?_;rotate_left
       ·intro w';go_simp;with_reducible rfl
       rotate_left
       ·simp only [Act.put,sIb,sZ,sS,i64_w,i32_w];rfl
       refine pure_ (i:=27) (N:=some 69) (v:=?_) (a':=?_) #[Y,Y,Y,Y,Y,Y,Y,Y,Y,Y,Y,Y,Y,Y,Y,Y,Y,Y,Y,Y,Y,Y,Y,Y,Y,Y,Y,Y,Z] rfl rfl (any_of HT_.out (by kernel_rfl)) (fun _ _ _ h=>h) (Or.inl ⟨by rfl,?_⟩) ?_ ?_;rotate_left
       ·intro w';go_simp;with_reducible rfl
       rotate_left
       ·simp only [Act.put,sIb,sZ,sS,i64_w,i32_w];rfl
       refine pure_ (i:=28) (N:=some 70) (v:=?_) (a':=?_) #[Y,Y,Y,Y,Y,Y,Y,Y,Y,Y,Y,Y,Y,Y,Y,Y,Y,Y,Y,Y,Y,Y,Y,Y,Y,Y,Y,Y,Y] rfl rfl (any_of HT_.out (by kernel_rfl)) (fun _ _ _ h=>h) (Or.inl ⟨by rfl,?_⟩) ?_ ?_;rotate_left
       ·intro w';go_simp;with_reducible rfl
       rotate_left
       ·simp only [Act.put,sIb,sZ,sS,i64_w,i32_w];rfl
       refine done_ (done_of HT_.out (by kernel_rfl)) ?_;try go_wp2
       go_meet
       case rel=>exact ⟨_,(((Go.bits .and .i64 t246 (Go.bits .or .i64 t254 t255)) != 0)),(by first|rfl|(simp;done)|(simp [*];done)),H',⟨by have:=HJ2.out;first|omega|exact Nat.le_refl _⟩,⟨by (with_reducible repeat (first|refine qN ?_ _|refine qW ?_|refine qL ?_ _));exact BK238.out⟩,⟨by repeat (first|(with_reducible first|exact HB.out|apply qA|apply qD|apply qO|refine qS ?_ GE238.out)|exact HB.out)⟩⟩
      ·rw [if_neg c51] at H;have c51b0:((t251.length:Int) == (l0_1.length:Int))=false:=beq_eq_false_iff_ne.mpr c51;have c51b1:((t251.length:Int) != (l0_1.length:Int))=true:=bne_iff_ne.mpr c51;have c51b2:(t251.length == l0_1.length)=false:=by first|simpa using c51|(simp at c51 ⊢;omega)
       have H':=qK H;clear H;try go_wp2
       (try (rw [drewN_self wc];generalize hq_:World.drewN wc _=wc;have n0_:Aside0 (Kd.R (Kd.int .i64) 3 wc w.heap.size (fun _=>True) (.slice Ao46 t239.length co46) t239):=⟨by rw [← hq_];exact (by (with_reducible repeat (first|apply rL|apply rN|apply rW));exact HO_3.out)⟩;have n1_:Aside0 (wc.heap[gb238]?=some (.cells #[.slice A0_0 l0_0.length c0_0,.slice A0_1 l0_1.length c0_1,.slice A0_2 l0_2.length c0_2,.slice A0_3 l0_3.length c0_3,.slice A0_4 l0_4.length c0_4] 31 (0,0))):=⟨by rw [← hq_];exact (by (with_reducible repeat (first|refine qN ?_ _|refine qW ?_|refine qL ?_ _));exact BK238.out)⟩;have n2_:Aside0 (Below w.heap.size w wc):=⟨by rw [← hq_];exact (by repeat (with_reducible first|exact HB.out|apply qA|apply qD|apply qO|refine qS ?_ GE238.out))⟩;clear HO_3 BK238 HB hq_;have HO_3:=n0_;have BK238:=n1_;have HB:=n2_;clear n0_ n1_ n2_));have n0_:=qK (rW HO_3.out);have n1_:=qK (qW BK238.out);have n2_:=qK (qO HB.out);clear HO_3;clear BK238;clear HB;have HO_3:=n0_;have BK238:=n1_;have HB:=n2_;clear n0_ n1_ n2_;refine start_ (n:=29) (S:=fun w'=>w'.cell? ⟨gb238,0,none⟩=some (.slice A0_0 l0_0.length c0_0)∧w'.cell? ⟨gb238,1,none⟩=some (.slice A0_1 l0_1.length c0_1)∧w'.cell? ⟨gb238,2,none⟩=some (.slice A0_2 l0_2.length c0_2)∧w'.cell? ⟨gb238,3,none⟩=some (.slice A0_3 l0_3.length c0_3)∧w'.cell? ⟨gb238,4,none⟩=some (.slice A0_4 l0_4.length c0_4)) (ds:=[]) #[Z,Z,Z,Z,Z,Z,Z,Z,Z,Z,Z,Z,Z,Z,Z,Z,Z,Z,Z,Z,Z,Z,Z,Z,Z,Z,Z,Z,Z] (by kernel_rfl) rfl rfl ⟨(qC BK238.out 0).trans rfl,(qC BK238.out 1).trans rfl,(qC BK238.out 2).trans rfl,(qC BK238.out 3).trans rfl,(qC BK238.out 4).trans rfl⟩ (fun hHeld=>?_);refine with_tabW impl_GoodLocks.tab5 impl_GoodLocks.bits5 (fun HT_ HW_=>?_);generalize wc.drew=w62 at HO_3 BK238 HB hHeld ⊢
       refine pure_ (i:=0) (N:=some 42) (v:=?_) (a':=?_) #[Y,Z,Z,Z,Z,Z,Z,Z,Z,Z,Z,Z,Z,Z,Z,Z,Z,Z,Z,Z,Z,Z,Z,Z,Z,Z,Z,Z,Z] rfl rfl (any_of HT_.out (by kernel_rfl)) (fun _ _ _ h=>h) (Or.inl ⟨by rfl,?_⟩) ?_ ?_;rotate_left
       ·intro w';go_simp;with_reducible rfl
       rotate_left
       ·simp only [Act.put,sIb,sZ,sS,i64_w,i32_w];rfl
       refine pure_ (i:=3) (N:=some 45) (v:=?_) (a':=?_) #[Y,Z,Z,Y,Z,Z,Z,Z,Z,Z,Z,Z,Z,Z,Z,Z,Z,Z,Z,Z,Z,Z,Z,Z,Z,Z,Z,Z,Z] rfl rfl (any_of HT_.out (by kernel_rfl)) (fun _ _ _ h=>h) (Or.inl ⟨by rfl,?_⟩) ?_ ?_;rotate_left
       ·intro w';go_simp;with_reducible rfl
       rotate_left
       ·simp only [Act.put,sIb,sZ,sS,i64_w,i32_w];rfl
       refine pure_ (i:=4) (N:=some 46) (v:=?_) (a':=?_) #[Y,Z,Z,Y,Y,Z,Z,Z,Z,Z,Z,Z,Z,Z,Z,Z,Z,Z,Z,Z,Z,Z,Z,Z,Z,Z,Z,Z,Z] rfl rfl (any_of HT_.out (by kernel_rfl)) (fun _ _ _ h=>h) (Or.inl ⟨by rfl,?_⟩) ?_ ?_;rotate_left
       ·intro w';go_simp;with_reducible rfl
       rotate_left
       ·simp only [Act.put,sIb,sZ,sS,i64_w,i32_w];rfl
       refine one_ (i:=1) (N:=some 43) #[Y,Y,Z,Y,Y,Z,Z,Z,Z,Z,Z,Z,Z,Z,Z,Z,Z,Z,Z,Z,Z,Z,Z,Z,Z,Z,Z,Z,Z] rfl rfl (one_of HT_.out (by kernel_rfl)) (by decide) (fun K hK=>?_);refine goes_ Try.func35 (by kernel_rfl) rfl #[.int .i64 t246] (by rfl) rfl rfl (by (try simp only [mT,mC,mN]);first|done|rfl|(simp only [lD,lT];rfl)) ?_;with_reducible refine (impl_set_list.calls kj2 t246 t247 _ A47.out).mono ?_
       rintro e w63 ⟨v248,rfl,ho0,hb⟩;refine ⟨_,rfl,?_⟩;have n0_:=qK (Kd.R_elder' (by (with_reducible repeat (first|apply rL|apply rN|apply rW));exact HO_3.out) (Kd.R_base ho0) hb);have n1_:=qK (Kd.R_lower (Kd.R_new' ho0 (Kd.R_lt (by (with_reducible repeat (first|apply rL|apply rN|apply rW));exact HO_3.out))) (qZ (by repeat (with_reducible first|exact HB.out|apply qA|apply qD|apply qO|refine qS ?_ GE238.out))));have n2_:=qK (qB (g:=gb238) (o:=_) (by (with_reducible repeat (first|refine qN ?_ _|refine qW ?_|refine qL ?_ _));exact BK238.out) hb);have n3_:=qK (qT (by repeat (with_reducible first|exact HB.out|apply qA|apply qD|apply qO|refine qS ?_ GE238.out)) hb);clear HO_3;clear BK238;clear HB;have HO_3:=n0_;have HO249:=n1_;have BK238:=n2_;have HB:=n3_;clear n0_ n1_ n2_ n3_;(try clear hb);(try clear ho0);obtain ⟨Ao64,co64,eo64⟩:=Kd.R_slice HO249.out;(first|subst eo64|(injection eo64 with f1_ f2_ f3_;have f4_:=f1_.symm;have f5_:=f3_.symm;clear f1_ f2_ f3_;subst f4_;subst f5_));refine hK.out _ _ ⟨(qC BK238.out 0).trans rfl,(qC BK238.out 1).trans rfl,(qC BK238.out 2).trans rfl,(qC BK238.out 3).trans rfl,(qC BK238.out 4).trans rfl⟩ (fun hHeld=>?_);clear hK K;refine norm_ (a':=?_) ?_ ?_;rotate_left
       ·show Act.put _ (some 43) _=_
        simp only [Act.put,sIb,sZ,sS,i64_w,i32_w];rfl
       refine pure_ (i:=2) (N:=some 44) (v:=?_) (a':=?_) #[Y,Y,Y,Y,Y,Z,Z,Z,Z,Z,Z,Z,Z,Z,Z,Z,Z,Z,Z,Z,Z,Z,Z,Z,Z,Z,Z,Z,Z] rfl rfl (any_of HT_.out (by kernel_rfl)) (fun _ _ _ h=>h) (Or.inl ⟨by rfl,?_⟩) ?_ ?_;rotate_left
       ·intro w';go_simp;with_reducible rfl
       rotate_left
       ·simp only [Act.put,sIb,sZ,sS,i64_w,i32_w];rfl
       refine pure_ (i:=5) (N:=some 47) (v:=?_) (a':=?_) #[Y,Y,Y,Y,Y,Y,Z,Z,Z,Z,Z,Z,Z,Z,Z,Z,Z,Z,Z,Z,Z,Z,Z,Z,Z,Z,Z,Z,Z] rfl rfl (any_of HT_.out (by kernel_rfl)) (fun _ _ _ h=>h) (Or.inl ⟨by rfl,?_⟩) ?_ ?_;rotate_left
       ·intro w';go_simp;with_reducible rfl
       rotate_left
       ·simp only [Act.put,sIb,sZ,sS,i64_w,i32_w];rfl
       refine pure_ (i:=6) (N:=some 48) (v:=?_) (a':=?_) #[Y,Y,Y,Y,Y,Y,Y,Z,Z,Z,Z,Z,Z,Z,Z,Z,Z,Z,Z,Z,Z,Z,Z,Z,Z,Z,Z,Z,Z] rfl rfl (any_of HT_.out (by kernel_rfl)) (fun _ _ _ h=>h) (Or.inl ⟨by rfl,?_⟩) ?_ ?_;rotate_left
       ·intro w';go_simp;with_reducible rfl
       rotate_left
       ·simp only [Act.put,sIb,sZ,sS,i64_w,i32_w];rfl
       refine pure_ (i:=7) (N:=some 49) (v:=?_) (a':=?_) #[Y,Y,Y,Y,Y,Y,Y,Y,Z,Z,Z,Z,Z,Z,Z,Z,Z,Z,Z,Z,Z,Z,Z,Z,Z,Z,Z,Z,Z] rfl rfl (any_of HT_.out (by kernel_rfl)) (fun _ _ _ h=>h) (Or.inl ⟨by rfl,?_⟩) ?_ ?_;rotate_left
       ·intro w';go_simp;with_reducible rfl
       rotate_left
       ·simp only [Act.put,sIb,sZ,sS,i64_w,i32_w];rfl
       refine pure_ (i:=12) (N:=some 54) (v:=?_) (a':=?_) #[Y,Y,Y,Y,Y,Y,Y,Y,Z,Z,Z,Z,Y,Z,Z,Z,Z,Z,Z,Z,Z,Z,Z,Z,Z,Z,Z,Z,Z] rfl rfl (any_of HT_.out (by kernel_rfl)) (fun _ _ _ h=>h) (Or.inl ⟨by rfl,?_⟩) ?_ ?_;rotate_left
       ·intro w';go_simp;with_reducible rfl
       rotate_left
       ·simp only [Act.put,sIb,sZ,sS,i64_w,i32_w];rfl
       refine take_ (i:=8) (N:=some 50) (v:=?_) (a':=?_) #[Y,Y,Y,Y,Y,Y,Y,Y,Y,Z,Z,Z,Y,Z,Z,Z,Z,Z,Z,Z,Z,Z,Z,Z,Z,Z,Z,Z,Z] rfl rfl (take_ofW HT_.out HW_.out (by kernel_rfl)) (fun _ _ _ h=>h) (Or.inl ⟨by rfl,?_⟩) hHeld ?_ ?_;rotate_left
       ·rintro w' ⟨s0,s1,s2,s3,s4⟩;go_simp;with_reducible rfl
       rotate_left
       ·simp only [Act.put,sIb,sZ,sS,i64_w,i32_w];rfl
       refine take_ (i:=13) (N:=some 55) (v:=?_) (a':=?_) #[Y,Y,Y,Y,Y,Y,Y,Y,Y,Z,Z,Z,Y,Y,Z,Z,Z,Z,Z,Z,Z,Z,Z,Z,Z,Z,Z,Z,Z] rfl rfl (take_ofW HT_.out HW_.out (by kernel_rfl)) (fun _ _ _ h=>h) (Or.inl ⟨by rfl,?_⟩) hHeld ?_ ?_;rotate_left
       ·rintro w' ⟨s0,s1,s2,s3,s4⟩;go_simp;with_reducible rfl
       rotate_left
       ·simp only [Act.put,sIb,sZ,sS,i64_w,i32_w];rfl
       refine pure_ (i:=14) (N:=some 56) (v:=?_) (a':=?_) #[Y,Y,Y,Y,Y,Y,Y,Y,Y,Z,Z,Z,Y,Y,Y,Z,Z,Z,Z,Z,Z,Z,Z,Z,Z,Z,Z,Z,Z] rfl rfl (any_of HT_.out (by kernel_rfl)) (fun _ _ _ h=>h) (Or.inl ⟨by rfl,?_⟩) ?_ ?_;rotate_left
       ·intro w';go_simp;with_reducible rfl
       rotate_left
       ·simp only [Act.put,sIb,sZ,sS,i64_w,i32_w];rfl
       refine one_ (i:=9) (N:=some 51) #[Y,Y,Y,Y,Y,Y,Y,Y,Y,Y,Z,Z,Y,Y,Y,Z,Z,Z,Z,Z,Z,Z,Z,Z,Z,Z,Z,Z,Z] rfl rfl (one_of HT_.out (by kernel_rfl)) (by decide) (fun K hK=>?_);refine goes_ Try.func47 (by kernel_rfl) rfl #[.slice A0_1 l0_1.length c0_1] (by rfl) rfl rfl (by (try simp only [mT,mC,mN]);first|done|rfl|(simp only [lD,lT];rfl)) ?_;with_reducible refine (impl_txnsOf.calls kj2 _ _ l0_1 t250 _ ?side1 ?side2 A49.out).mono ?_
       (case side1=>repeat (first|exact (cB HR0_1.out HB.out)|(with_reducible first|refine cL ?_ _|refine cN ?_ _|refine cW ?_)));(case side2=>exact HC0_1.out);rintro e w65 ⟨rfl,hb⟩;refine ⟨_,rfl,?_⟩;have n0_:=qK (rB (by (with_reducible repeat (first|apply rL|apply rN|apply rW));exact HO_3.out) hb);have n1_:=qK (rB (by (with_reducible repeat (first|apply rL|apply rN|apply rW));exact HO249.out) hb);have n2_:=qK (qB (g:=gb238) (o:=_) (by (with_reducible repeat (first|refine qN ?_ _|refine qW ?_|refine qL ?_ _));exact BK238.out) hb);have n3_:=qK (qT (by repeat (with_reducible first|exact HB.out|apply qA|apply qD|apply qO|refine qS ?_ GE238.out)) hb);clear HO_3;clear HO249;clear BK238;clear HB;have HO_3:=n0_;have HO249:=n1_;have BK238:=n2_;have HB:=n3_;clear n0_ n1_ n2_ n3_;(try clear hb);refine hK.out _ _ ⟨(qC BK238.out 0).trans rfl,(qC BK238.out 1).trans rfl,(qC BK238.out 2).trans rfl,(qC BK238.out 3).trans rfl,(qC BK238.out 4).trans rfl⟩ (fun hHeld=>?_);clear hK K;refine norm_ (a':=?_) ?_ ?_;rotate_left
       ·show Act.put _ (some 51) _=_
        simp only [Act.put,sIb,sZ,sS,i64_w,i32_w];rfl
       refine one_ (i:=10) (N:=some 52) #[Y,Y,Y,Y,Y,Y,Y,Y,Y,Y,Y,Z,Y,Y,Y,Z,Z,Z,Z,Z,Z,Z,Z,Z,Z,Z,Z,Z,Z] rfl rfl (one_of HT_.out (by kernel_rfl)) (by decide) (fun K hK=>?_);refine goes_ Try.func35 (by kernel_rfl) rfl #[.int .i64 t250] (by rfl) rfl rfl (by (try simp only [mT,mC,mN]);first|done|rfl|(simp only [lD,lT];rfl)) ?_;with_reducible refine (impl_set_list.calls kj2 t250 t251 _ A50.out).mono ?_
       rintro e w66 ⟨v252,rfl,ho0,hb⟩;refine ⟨_,rfl,?_⟩;have n0_:=qK (Kd.R_elder' (by (with_reducible repeat (first|apply rL|apply rN|apply rW));exact HO_3.out) (Kd.R_base ho0) hb);have n1_:=qK (Kd.R_elder' (by (with_reducible repeat (first|apply rL|apply rN|apply rW));exact HO249.out) (Kd.R_base ho0) hb);have n2_:=qK (Kd.R_lower (Kd.R_new' (Kd.R_new' ho0 (Kd.R_lt (by (with_reducible repeat (first|apply rL|apply rN|apply rW));exact HO_3.out))) (Kd.R_lt (by (with_reducible repeat (first|apply rL|apply rN|apply rW));exact HO249.out))) (qZ (by repeat (with_reducible first|exact HB.out|apply qA|apply qD|apply qO|refine qS ?_ GE238.out))));have n3_:=qK (qB (g:=gb238) (o:=_) (by (with_reducible repeat (first|refine qN ?_ _|refine qW ?_|refine qL ?_ _));exact BK238.out) hb);have n4_:=qK (qT (by repeat (with_reducible first|exact HB.out|apply qA|apply qD|apply qO|refine qS ?_ GE238.out)) hb);clear HO_3;clear HO249;clear BK238;clear HB;have HO_3:=n0_;have HO249:=n1_;have HO253:=n2_;have BK238:=n3_;have HB:=n4_;clear n0_ n1_ n2_ n3_ n4_;(try clear hb);(try clear ho0);obtain ⟨Ao67,co67,eo67⟩:=Kd.R_slice HO253.out;(first|subst eo67|(injection eo67 with f1_ f2_ f3_;have f4_:=f1_.symm;have f5_:=f3_.symm;clear f1_ f2_ f3_;subst f4_;subst f5_));refine hK.out _ _ ⟨(qC BK238.out 0).trans rfl,(qC BK238.out 1).trans rfl,(qC BK238.out 2).trans rfl,(qC BK238.out 3).trans rfl,(qC BK238.out 4).trans rfl⟩ (fun hHeld=>?_);clear hK K;refine norm_ (a':=?_) ?_ ?_;rotate_left
       ·show Act.put _ (some 52) _=_
        simp only [Act.put,sIb,sZ,sS,i64_w,i32_w];rfl
       refine pure_ (i:=11) (N:=some 53) (v:=?_) (a':=?_) #[Y,Y,Y,Y,Y,Y,Y,Y,Y,Y,Y,Y,Y,Y,Y,Z,Z,Z,Z,Z,Z,Z,Z,Z,Z,Z,Z,Z,Z] rfl rfl (any_of HT_.out (by kernel_rfl)) (fun _ _ _ h=>h) (Or.inl ⟨by rfl,?_⟩) ?_ ?_;rotate_left
       ·intro w';go_simp;with_reducible rfl
       rotate_left
       ·simp only [Act.put,sIb,sZ,sS,i64_w,i32_w];rfl
       refine pure_ (i:=15) (N:=some 57) (v:=?_) (a':=?_) #[Y,Y,Y,Y,Y,Y,Y,Y,Y,Y,Y,Y,Y,Y,Y,Y,Z,Z,Z,Z,Z,Z,Z,Z,Z,Z,Z,Z,Z] rfl rfl (any_of HT_.out (by kernel_rfl)) (fun _ _ _ h=>h) (Or.inl ⟨by rfl,?_⟩) ?_ ?_;rotate_left
       ·intro w';go_simp;with_reducible rfl
       rotate_left
       ·simp only [Act.put,sIb,sZ,sS,i64_w,i32_w];rfl
       refine pure_ (i:=16) (N:=some 58) (v:=?_) (a':=?_) #[Y,Y,Y,Y,Y,Y,Y,Y,Y,Y,Y,Y,Y,Y,Y,Y,Y,Z,Z,Z,Z,Z,Z,Z,Z,Z,Z,Z,Z] rfl rfl (any_of HT_.out (by kernel_rfl)) (fun _ _ _ h=>h) (Or.inl ⟨by rfl,?_⟩) ?_ ?_;rotate_left
       ·intro w';go_simp;with_reducible rfl
       rotate_left
       ·simp only [Act.put,sIb,sZ,sS,i64_w,i32_w];rfl
       refine pure_ (i:=17) (N:=some 59) (v:=?_) (a':=?_) #[Y,Y,Y,Y,Y,Y,Y,Y,Y,Y,Y,Y,Y,Y,Y,Y,Y,Y,Z,Z,Z,Z,Z,Z,Z,Z,Z,Z,Z] rfl rfl (any_of HT_.out (by kernel_rfl)) (fun _ _ _ h=>h) (Or.inl ⟨by rfl,?_⟩) ?_ ?_;rotate_left
       ·intro w';go_simp;with_reducible rfl
       rotate_left
       ·simp only [Act.put,sIb,sZ,sS,i64_w,i32_w];rfl
       refine pure_ (i:=18) (N:=some 60) (v:=undef) (a':=?_) #[Y,Y,Y,Y,Y,Y,Y,Y,Y,Y,Y,Y,Y,Y,Y,Y,Y,Y,Y,Z,Z,Z,Z,Z,Z,Z,Z,Z,Z] rfl rfl (any_of HT_.out (by kernel_rfl)) (fun _ _ _ h=>h) (Or.inr ⟨by rfl,rfl⟩) ?_ ?_;rotate_left
       ·simp only [Act.put,sIb,sZ,sS,i64_w,i32_w];rfl
       refine pure_ (i:=19) (N:=some 61) (v:=undef) (a':=?_) #[Y,Y,Y,Y,Y,Y,Y,Y,Y,Y,Y,Y,Y,Y,Y,Y,Y,Y,Y,Y,Z,Z,Z,Z,Z,Z,Z,Z,Z] rfl rfl (any_of HT_.out (by kernel_rfl)) (fun _ _ _ h=>h) (Or.inr ⟨by rfl,rfl⟩) ?_ ?_;rotate_left
       ·simp only [Act.put,sIb,sZ,sS,i64_w,i32_w];rfl
       refine pure_ (i:=20) (N:=some 62) (v:=undef) (a':=?_) #[Y,Y,Y,Y,Y,Y,Y,Y,Y,Y,Y,Y,Y,Y,Y,Y,Y,Y,Y,Y,Y,Z,Z,Z,Z,Z,Z,Z,Z] rfl rfl (any_of HT_.out (by kernel_rfl)) (fun _ _ _ h=>h) (Or.inr ⟨by rfl,rfl⟩) ?_ ?_;rotate_left
       ·simp only [Act.put,sIb,sZ,sS,i64_w,i32_w];rfl
       refine pure_ (i:=21) (N:=some 63) (v:=undef) (a':=?_) #[Y,Y,Y,Y,Y,Y,Y,Y,Y,Y,Y,Y,Y,Y,Y,Y,Y,Y,Y,Y,Y,Y,Z,Z,Z,Z,Z,Z,Z] rfl rfl (any_of HT_.out (by kernel_rfl)) (fun _ _ _ h=>h) (Or.inr ⟨by rfl,rfl⟩) ?_ ?_;rotate_left
       ·simp only [Act.put,sIb,sZ,sS,i64_w,i32_w];rfl
       refine pure_ (i:=22) (N:=some 64) (v:=undef) (a':=?_) #[Y,Y,Y,Y,Y,Y,Y,Y,Y,Y,Y,Y,Y,Y,Y,Y,Y,Y,Y,Y,Y,Y,Y,Z,Z,Z,Z,Z,Z] rfl rfl (any_of HT_.out (by kernel_rfl)) (fun _ _ _ h=>h) (Or.inr ⟨by rfl,rfl⟩) ?_ ?_;rotate_left
       ·simp only [Act.put,sIb,sZ,sS,i64_w,i32_w];rfl
       refine pure_ (i:=23) (N:=some 65) (v:=undef) (a':=?_) #[Y,Y,Y,Y,Y,Y,Y,Y,Y,Y,Y,Y,Y,Y,Y,Y,Y,Y,Y,Y,Y,Y,Y,Y,Z,Z,Z,Z,Z] rfl rfl (any_of HT_.out (by kernel_rfl)) (fun _ _ _ h=>h) (Or.inr ⟨by rfl,rfl⟩) ?_ ?_;rotate_left
       ·simp only [Act.put,sIb,sZ,sS,i64_w,i32_w];rfl
       refine pure_ (i:=24) (N:=some 66) (v:=undef) (a':=?_) #[Y,Y,Y,Y,Y,Y,Y,Y,Y,Y,Y,Y,Y,Y,Y,Y,Y,Y,Y,Y,Y,Y,Y,Y,Y,Z,Z,Z,Z] rfl rfl (any_of HT_.out (by kernel_rfl)) (fun _ _ _ h=>h) (Or.inr ⟨by rfl,rfl⟩) ?_ ?_;rotate_left
       ·simp only [Act.put,sIb,sZ,sS,i64_w,i32_w];rfl
       refine pure_ (i:=25) (N:=some 67) (v:=undef) (a':=?_) #[Y,Y,Y,Y,Y,Y,Y,Y,Y,Y,Y,Y,Y,Y,Y,Y,Y,Y,Y,Y,Y,Y,Y,Y,Y,Y,Z,Z,Z] rfl rfl (any_of HT_.out (by kernel_rfl)) (fun _ _ _ h=>h) (Or.inr ⟨by rfl,rfl⟩) ?_ ?_;rotate_left
       ·simp only [Act.put,sIb,sZ,sS,i64_w,i32_w];rfl
       refine pure_ (i:=26) (N:=some 68) (v:=undef) (a':=?_) #[Y,Y,Y,Y,Y,Y,Y,Y,Y,Y,Y,Y,Y,Y,Y,Y,Y,Y,Y,Y,Y,Y,Y,Y,Y,Y,Y,Z,Z] rfl rfl (any_of HT_.out (by kernel_rfl)) (fun _ _ _ h=>h) (Or.inr ⟨by rfl,rfl⟩) ?_ ?_;rotate_left
       ·simp only [Act.put,sIb,sZ,sS,i64_w,i32_w];rfl
       refine pure_ (i:=27) (N:=some 69) (v:=undef) (a':=?_) #[Y,Y,Y,Y,Y,Y,Y,Y,Y,Y,Y,Y,Y,Y,Y,Y,Y,Y,Y,Y,Y,Y,Y,Y,Y,Y,Y,Y,Z] rfl rfl (any_of HT_.out (by kernel_rfl)) (fun _ _ _ h=>h) (Or.inr ⟨by rfl,rfl⟩) ?_ ?_;rotate_left
       ·simp only [Act.put,sIb,sZ,sS,i64_w,i32_w];rfl
       refine pure_ (i:=28) (N:=some 70) (v:=?_) (a':=?_) #[Y,Y,Y,Y,Y,Y,Y,Y,Y,Y,Y,Y,Y,Y,Y,Y,Y,Y,Y,Y,Y,Y,Y,Y,Y,Y,Y,Y,Y] rfl rfl (any_of HT_.out (by kernel_rfl)) (fun _ _ _ h=>h) (Or.inl ⟨by rfl,?_⟩) ?_ ?_;rotate_left
       ·intro w';go_simp;with_reducible rfl
       rotate_left
       ·simp only [Act.put,sIb,sZ,sS,i64_w,i32_w];rfl
       refine done_ (done_of HT_.out (by kernel_rfl)) ?_;try go_wp2
       go_meet
       case rel=>exact ⟨_,(true),(by first|rfl|(simp;done)|(simp [*];done)),H',⟨by have:=HJ2.out;first|omega|exact Nat.le_refl _⟩,⟨by (with_reducible repeat (first|refine qN ?_ _|refine qW ?_|refine qL ?_ _));exact BK238.out⟩,⟨by repeat (first|(with_reducible first|exact HB.out|apply qA|apply qD|apply qO|refine qS ?_ GE238.out)|exact HB.out)⟩⟩
     ·rw [if_neg c48] at H;have c48b0:((t247.length:Int) == (t239.length:Int))=false:=beq_eq_false_iff_ne.mpr c48;have c48b1:((t247.length:Int) != (t239.length:Int))=true:=bne_iff_ne.mpr c48;have c48b2:(t247.length == t239.length)=false:=by first|simpa using c48|(simp at c48 ⊢;omega)
      (first|rw [c48b0]|(simp only [i64_w,i32_w];rw [c48b0])|skip);have H':=qK H;clear H;try go_wp2
      (try (rw [drewN_self wc];generalize hq_:World.drewN wc _=wc;have n0_:Aside0 (Kd.R (Kd.int .i64) 3 wc w.heap.size (fun _=>True) (.slice Ao46 t239.length co46) t239):=⟨by rw [← hq_];exact (by (with_reducible repeat (first|apply rL|apply rN|apply rW));exact HO_3.out)⟩;have n1_:Aside0 (wc.heap[gb238]?=some (.cells #[.slice A0_0 l0_0.length c0_0,.slice A0_1 l0_1.length c0_1,.slice A0_2 l0_2.length c0_2,.slice A0_3 l0_3.length c0_3,.slice A0_4 l0_4.length c0_4] 31 (0,0))):=⟨by rw [← hq_];exact (by (with_reducible repeat (first|refine qN ?_ _|refine qW ?_|refine qL ?_ _));exact BK238.out)⟩;have n2_:Aside0 (Below w.heap.size w wc):=⟨by rw [← hq_];exact (by repeat (with_reducible first|exact HB.out|apply qA|apply qD|apply qO|refine qS ?_ GE238.out))⟩;clear HO_3 BK238 HB hq_;have HO_3:=n0_;have BK238:=n1_;have HB:=n2_;clear n0_ n1_ n2_));have n0_:=qK (rW HO_3.out);have n1_:=qK (qW BK238.out);have n2_:=qK (qO HB.out);clear HO_3;clear BK238;clear HB;have HO_3:=n0_;have BK238:=n1_;have HB:=n2_;clear n0_ n1_ n2_;refine start_ (n:=29) (S:=fun w'=>True) (ds:=[]) #[Z,Z,Z,Z,Z,Z,Z,Z,Z,Z,Z,Z,Z,Z,Z,Z,Z,Z,Z,Z,Z,Z,Z,Z,Z,Z,Z,Z,Z] (by kernel_rfl) rfl rfl trivial (fun hHeld=>?_);refine with_tabW impl_GoodLocks.tab5 impl_GoodLocks.bits5 (fun HT_ HW_=>?_);generalize wc.drew=w68 at HO_3 BK238 HB hHeld ⊢
      refine pure_ (i:=0) (N:=some 42) (v:=?_) (a':=?_) #[Y,Z,Z,Z,Z,Z,Z,Z,Z,Z,Z,Z,Z,Z,Z,Z,Z,Z,Z,Z,Z,Z,Z,Z,Z,Z,Z,Z,Z] rfl rfl (any_of HT_.out (by kernel_rfl)) (fun _ _ _ h=>h) (Or.inl ⟨by rfl,?_⟩) ?_ ?_;rotate_left
      ·intro w';go_simp;with_reducible rfl
      rotate_left
      ·simp only [Act.put,sIb,sZ,sS,i64_w,i32_w];rfl
      refine pure_ (i:=3) (N:=some 45) (v:=?_) (a':=?_) #[Y,Z,Z,Y,Z,Z,Z,Z,Z,Z,Z,Z,Z,Z,Z,Z,Z,Z,Z,Z,Z,Z,Z,Z,Z,Z,Z,Z,Z] rfl rfl (any_of HT_.out (by kernel_rfl)) (fun _ _ _ h=>h) (Or.inl ⟨by rfl,?_⟩) ?_ ?_;rotate_left
      ·intro w';go_simp;with_reducible rfl
      rotate_left
      ·simp only [Act.put,sIb,sZ,sS,i64_w,i32_w];rfl
      refine pure_ (i:=4) (N:=some 46) (v:=?_) (a':=?_) #[Y,Z,Z,Y,Y,Z,Z,Z,Z,Z,Z,Z,Z,Z,Z,Z,Z,Z,Z,Z,Z,Z,Z,Z,Z,Z,Z,Z,Z] rfl rfl (any_of HT_.out (by kernel_rfl)) (fun _ _ _ h=>h) (Or.inl ⟨by rfl,?_⟩) ?_ ?_;rotate_left
      ·intro w';go_simp;with_reducible rfl
      rotate_left
      ·simp only [Act.put,sIb,sZ,sS,i64_w,i32_w];rfl
      refine one_ (i:=1) (N:=some 43) #[Y,Y,Z,Y,Y,Z,Z,Z,Z,Z,Z,Z,Z,Z,Z,Z,Z,Z,Z,Z,Z,Z,Z,Z,Z,Z,Z,Z,Z] rfl rfl (one_of HT_.out (by kernel_rfl)) (by decide) (fun K hK=>?_);refine goes_ Try.func35 (by kernel_rfl) rfl #[.int .i64 t246] (by rfl) rfl rfl (by (try simp only [mT,mC,mN]);first|done|rfl|(simp only [lD,lT];rfl)) ?_;with_reducible refine (impl_set_list.calls kj2 t246 t247 _ A47.out).mono ?_
      rintro e w69 ⟨v248,rfl,ho0,hb⟩;refine ⟨_,rfl,?_⟩;have n0_:=qK (Kd.R_elder' (by (with_reducible repeat (first|apply rL|apply rN|apply rW));exact HO_3.out) (Kd.R_base ho0) hb);have n1_:=qK (Kd.R_lower (Kd.R_new' ho0 (Kd.R_lt (by (with_reducible repeat (first|apply rL|apply rN|apply rW));exact HO_3.out))) (qZ (by repeat (with_reducible first|exact HB.out|apply qA|apply qD|apply qO|refine qS ?_ GE238.out))));have n2_:=qK (qB (g:=gb238) (o:=_) (by (with_reducible repeat (first|refine qN ?_ _|refine qW ?_|refine qL ?_ _));exact BK238.out) hb);have n3_:=qK (qT (by repeat (with_reducible first|exact HB.out|apply qA|apply qD|apply qO|refine qS ?_ GE238.out)) hb);clear HO_3;clear BK238;clear HB;have HO_3:=n0_;have HO249:=n1_;have BK238:=n2_;have HB:=n3_;clear n0_ n1_ n2_ n3_;(try clear hb);(try clear ho0);obtain ⟨Ao70,co70,eo70⟩:=Kd.R_slice HO249.out;(first|subst eo70|(injection eo70 with f1_ f2_ f3_;have f4_:=f1_.symm;have f5_:=f3_.symm;clear f1_ f2_ f3_;subst f4_;subst f5_));refine hK.out _ _ trivial (fun hHeld=>?_);clear hK K;refine norm_ (a':=?_) ?_ ?_;rotate_left
      ·show Act.put _ (some 43) _=_
       simp only [Act.put,sIb,sZ,sS,i64_w,i32_w];rfl
      refine pure_ (i:=2) (N:=some 44) (v:=?_) (a':=?_) #[Y,Y,Y,Y,Y,Z,Z,Z,Z,Z,Z,Z,Z,Z,Z,Z,Z,Z,Z,Z,Z,Z,Z,Z,Z,Z,Z,Z,Z] rfl rfl (any_of HT_.out (by kernel_rfl)) (fun _ _ _ h=>h) (Or.inl ⟨by rfl,?_⟩) ?_ ?_;rotate_left
      ·intro w';go_simp;with_reducible rfl
      rotate_left
      ·simp only [Act.put,sIb,sZ,sS,i64_w,i32_w];rfl
      refine pure_ (i:=5) (N:=some 47) (v:=?_) (a':=?_) #[Y,Y,Y,Y,Y,Y,Z,Z,Z,Z,Z,Z,Z,Z,Z,Z,Z,Z,Z,Z,Z,Z,Z,Z,Z,Z,Z,Z,Z] rfl rfl (any_of HT_.out (by kernel_rfl)) (fun _ _ _ h=>h) (Or.inl ⟨by rfl,?_⟩) ?_ ?_;rotate_left
      ·intro w';go_simp;with_reducible rfl
      rotate_left
      ·simp only [Act.put,sIb,sZ,sS,i64_w,i32_w];rfl
      refine pure_ (i:=6) (N:=some 48) (v:=?_) (a':=?_) #[Y,Y,Y,Y,Y,Y,Y,Z,Z,Z,Z,Z,Z,Z,Z,Z,Z,Z,Z,Z,Z,Z,Z,Z,Z,Z,Z,Z,Z] rfl rfl (any_of HT_.out (by kernel_rfl)) (fun _ _ _ h=>h) (Or.inl ⟨by rfl,?_⟩) ?_ ?_;rotate_left
      ·intro w';go_simp;with_reducible rfl
      rotate_left
      ·simp only [Act.put,sIb,sZ,sS,i64_w,i32_w];rfl
      refine pure_ (i:=7) (N:=some 49) (v:=undef) (a':=?_) #[Y,Y,Y,Y,Y,Y,Y,Y,Z,Z,Z,Z,Z,Z,Z,Z,Z,Z,Z,Z,Z,Z,Z,Z,Z,Z,Z,Z,Z] rfl rfl (any_of HT_.out (by kernel_rfl)) (fun _ _ _ h=>h) (Or.inr ⟨by rfl,rfl⟩) ?_ ?_;rotate_left
      ·simp only [Act.put,sIb,sZ,sS,i64_w,i32_w];rfl
      refine pure_ (i:=8) (N:=some 50) (v:=undef) (a':=?_) #[Y,Y,Y,Y,Y,Y,Y,Y,Y,Z,Z,Z,Z,Z,Z,Z,Z,Z,Z,Z,Z,Z,Z,Z,Z,Z,Z,Z,Z] rfl rfl (any_of HT_.out (by kernel_rfl)) (fun _ _ _ h=>h) (Or.inr ⟨by rfl,rfl⟩) ?_ ?_;rotate_left
      ·simp only [Act.put,sIb,sZ,sS,i64_w,i32_w];rfl
      refine pure_ (i:=9) (N:=some 51) (v:=undef) (a':=?_) #[Y,Y,Y,Y,Y,Y,Y,Y,Y,Y,Z,Z,Z,Z,Z,Z,Z,Z,Z,Z,Z,Z,Z,Z,Z,Z,Z,Z,Z] rfl rfl (any_of HT_.out (by kernel_rfl)) (fun _ _ _ h=>h) (Or.inr ⟨by rfl,rfl⟩) ?_ ?_;rotate_left
      ·simp only [Act.put,sIb,sZ,sS,i64_w,i32_w];rfl
      refine pure_ (i:=10) (N:=some 52) (v:=undef) (a':=?_) #[Y,Y,Y,Y,Y,Y,Y,Y,Y,Y,Y,Z,Z,Z,Z,Z,Z,Z,Z,Z,Z,Z,Z,Z,Z,Z,Z,Z,Z] rfl rfl (any_of HT_.out (by kernel_rfl)) (fun _ _ _ h=>h) (Or.inr ⟨by rfl,rfl⟩) ?_ ?_;rotate_left
      ·simp only [Act.put,sIb,sZ,sS,i64_w,i32_w];rfl
      refine pure_ (i:=11) (N:=some 53) (v:=undef) (a':=?_) #[Y,Y,Y,Y,Y,Y,Y,Y,Y,Y,Y,Y,Z,Z,Z,Z,Z,Z,Z,Z,Z,Z,Z,Z,Z,Z,Z,Z,Z] rfl rfl (any_of HT_.out (by kernel_rfl)) (fun _ _ _ h=>h) (Or.inr ⟨by rfl,rfl⟩) ?_ ?_;rotate_left
      ·simp only [Act.put,sIb,sZ,sS,i64_w,i32_w];rfl
      refine pure_ (i:=12) (N:=some 54) (v:=undef) (a':=?_) #[Y,Y,Y,Y,Y,Y,Y,Y,Y,Y,Y,Y,Y,Z,Z,Z,Z,Z,Z,Z,Z,Z,Z,Z,Z,Z,Z,Z,Z] rfl rfl (any_of HT_.out (by kernel_rfl)) (fun _ _ _ h=>h) (Or.inr ⟨by rfl,rfl⟩) ?_ ?_;rotate_left
      ·simp only [Act.put,sIb,sZ,sS,i64_w,i32_w];rfl
      refine pure_ (i:=13) (N:=some 55) (v:=undef) (a':=?_) #[Y,Y,Y,Y,Y,Y,Y,Y,Y,Y,Y,Y,Y,Y,Z,Z,Z,Z,Z,Z,Z,Z,Z,Z,Z,Z,Z,Z,Z] rfl rfl (any_of HT_.out (by kernel_rfl)) (fun _ _ _ h=>h) (Or.inr ⟨by rfl,rfl⟩) ?_ ?_;rotate_left
      ·simp only [Act.put,sIb,sZ,sS,i64_w,i32_w];rfl
      refine pure_ (i:=14) (N:=some 56) (v:=undef) (a':=?_) #[Y,Y,Y,Y,Y,Y,Y,Y,Y,Y,Y,Y,Y,Y,Y,Z,Z,Z,Z,Z,Z,Z,Z,Z,Z,Z,Z,Z,Z] rfl rfl (any_of HT_.out (by kernel_rfl)) (fun _ _ _ h=>h) (Or.inr ⟨by rfl,rfl⟩) ?_ ?_;rotate_left
      ·simp only [Act.put,sIb,sZ,sS,i64_w,i32_w];rfl
      refine pure_ (i:=15) (N:=some 57) (v:=undef) (a':=?_) #[Y,Y,Y,Y,Y,Y,Y,Y,Y,Y,Y,Y,Y,Y,Y,Y,Z,Z,Z,Z,Z,Z,Z,Z,Z,Z,Z,Z,Z] rfl rfl (any_of HT_.out (by kernel_rfl)) (fun _ _ _ h=>h) (Or.inr ⟨by rfl,rfl⟩) ?_ ?_;rotate_left
      ·simp only [Act.put,sIb,sZ,sS,i64_w,i32_w];rfl
      refine pure_ (i:=16) (N:=some 58) (v:=?_) (a':=?_) #[Y,Y,Y,Y,Y,Y,Y,Y,Y,Y,Y,Y,Y,Y,Y,Y,Y,Z,Z,Z,Z,Z,Z,Z,Z,Z,Z,Z,Z] rfl rfl (any_of HT_.out (by kernel_rfl)) (fun _ _ _ h=>h) (Or.inl ⟨by rfl,?_⟩) ?_ ?_;rotate_left
      ·intro w';go_simp;with_reducible rfl
      rotate_left
      ·simp only [Act.put,sIb,sZ,sS,i64_w,i32_w];rfl
      refine pure_ (i:=17) (N:=some 59) (v:=?_) (a':=?_) #[Y,Y,Y,Y,Y,Y,Y,Y,Y,Y,Y,Y,Y,Y,Y,Y,Y,Y,Z,Z,Z,Z,Z,Z,Z,Z,Z,Z,Z] rfl rfl (any_of HT_.out (by kernel_rfl)) (fun _ _ _ h=>h) (Or.inl ⟨by rfl,?_⟩) ?_ ?_;rotate_left
      ·intro w';go_simp;with_reducible rfl
      rotate_left
      ·simp only [Act.put,sIb,sZ,sS,i64_w,i32_w];rfl
      refine pure_ (i:=18) (N:=some 60) (v:=undef) (a':=?_) #[Y,Y,Y,Y,Y,Y,Y,Y,Y,Y,Y,Y,Y,Y,Y,Y,Y,Y,Y,Z,Z,Z,Z,Z,Z,Z,Z,Z,Z] rfl rfl (any_of HT_.out (by kernel_rfl)) (fun _ _ _ h=>h) (Or.inr ⟨by rfl,rfl⟩) ?_ ?_;rotate_left
      ·simp only [Act.put,sIb,sZ,sS,i64_w,i32_w];rfl
      refine pure_ (i:=19) (N:=some 61) (v:=undef) (a':=?_) #[Y,Y,Y,Y,Y,Y,Y,Y,Y,Y,Y,Y,Y,Y,Y,Y,Y,Y,Y,Y,Z,Z,Z,Z,Z,Z,Z,Z,Z] rfl rfl (any_of HT_.out (by kernel_rfl)) (fun _ _ _ h=>h) (Or.inr ⟨by rfl,rfl⟩) ?_ ?_;rotate_left
      ·simp only [Act.put,sIb,sZ,sS,i64_w,i32_w];rfl
      refine pure_ (i:=20) (N:=some 62) (v:=undef) (a':=?_) #[Y,Y,Y,Y,Y,Y,Y,Y,Y,Y,Y,Y,Y,Y,Y,Y,Y,Y,Y,Y,Y,Z,Z,Z,Z,Z,Z,Z,Z] rfl rfl (any_of HT_.out (by kernel_rfl)) (fun _ _ _ h=>h) (Or.inr ⟨by rfl,rfl⟩) ?_ ?_;rotate_left
      ·simp only [Act.put,sIb,sZ,sS,i64_w,i32_w];rfl
      refine pure_ (i:=21) (N:=some 63) (v:=undef) (a':=?_) #[Y,Y,Y,Y,Y,Y,Y,Y,Y,Y,Y,Y,Y,Y,Y,Y,Y,Y,Y,Y,Y,Y,Z,Z,Z,Z,Z,Z,Z] rfl rfl (any_of HT_.out (by kernel_rfl)) (fun _ _ _ h=>h) (Or.inr ⟨by rfl,rfl⟩) ?_ ?_;rotate_left
      ·simp only [Act.put,sIb,sZ,sS,i64_w,i32_w];rfl
      refine pure_ (i:=22) (N:=some 64) (v:=undef) (a':=?_) #[Y,Y,Y,Y,Y,Y,Y,Y,Y,Y,Y,Y,Y,Y,Y,Y,Y,Y,Y,Y,Y,Y,Y,Z,Z,Z,Z,Z,Z] rfl rfl (any_of HT_.out (by kernel_rfl)) (fun _ _ _ h=>h) (Or.inr ⟨by rfl,rfl⟩) ?_ ?_;rotate_left
      ·simp only [Act.put,sIb,sZ,sS,i64_w,i32_w];rfl
      refine pure_ (i:=23) (N:=some 65) (v:=undef) (a':=?_) #[Y,Y,Y,Y,Y,Y,Y,Y,Y,Y,Y,Y,Y,Y,Y,Y,Y,Y,Y,Y,Y,Y,Y,Y,Z,Z,Z,Z,Z] rfl rfl (any_of HT_.out (by kernel_rfl)) (fun _ _ _ h=>h) (Or.inr ⟨by rfl,rfl⟩) ?_ ?_;rotate_left
      ·simp only [Act.put,sIb,sZ,sS,i64_w,i32_w];rfl
      refine pure_ (i:=24) (N:=some 66) (v:=undef) (a':=?_) #[Y,Y,Y,Y,Y,Y,Y,Y,Y,Y,Y,Y,Y,Y,Y,Y,Y,Y,Y,Y,Y,Y,Y,Y,Y,Z,Z,Z,Z] rfl rfl (any_of HT_.out (by kernel_rfl)) (fun _ _ _ h=>h) (Or.inr ⟨by rfl,rfl⟩) ?_ ?_;rotate_left
      ·simp only [Act.put,sIb,sZ,sS,i64_w,i32_w];rfl
      refine pure_ (i:=25) (N:=some 67) (v:=undef) (a':=?_) #[Y,Y,Y,Y,Y,Y,Y,Y,Y,Y,Y,Y,Y,Y,Y,Y,Y,Y,Y,Y,Y,Y,Y,Y,Y,Y,Z,Z,Z] rfl rfl (any_of HT_.out (by kernel_rfl)) (fun _ _ _ h=>h) (Or.inr ⟨by rfl,rfl⟩) ?_ ?_;rotate_left
      ·simp only [Act.put,sIb,sZ,sS,i64_w,i32_w];rfl
      refine pure_ (i:=26) (N:=some 68) (v:=undef) (a':=?_) #[Y,Y,Y,Y,Y,Y,Y,Y,Y,Y,Y,Y,Y,Y,Y,Y,Y,Y,Y,Y,Y,Y,Y,Y,Y,Y,Y,Z,Z] rfl rfl (any_of HT_.out (by kernel_rfl)) (fun _ _ _ h=>h) (Or.inr ⟨by rfl,rfl⟩) ?_ ?_;rotate_left
      ·simp only [Act.put,sIb,sZ,sS,i64_w,i32_w];rfl
      refine pure_ (i:=27) (N:=some 69) (v:=undef) (a':=?_) #[Y,Y,Y,Y,Y,Y,Y,Y,Y,Y,Y,Y,Y,Y,Y,Y,Y,Y,Y,Y,Y,Y,Y,Y,Y,Y,Y,Y,Z] rfl rfl (any_of HT_.out (by kernel_rfl)) (fun _ _ _ h=>h) (Or.inr ⟨by rfl,rfl⟩) ?_ ?_;rotate_left
      ·simp only [Act.put,sIb,sZ,sS,i64_w,i32_w];rfl
      refine pure_ (i:=28) (N:=some 70) (v:=?_) (a':=?_) #[Y,Y,Y,Y,Y,Y,Y,Y,Y,Y,Y,Y,Y,Y,Y,Y,Y,Y,Y,Y,Y,Y,Y,Y,Y,Y,Y,Y,Y] rfl rfl (any_of HT_.out (by kernel_rfl)) (fun _ _ _ h=>h) (Or.inl ⟨by rfl,?_⟩) ?_ ?_;rotate_left
      ·intro w';go_simp;with_reducible rfl
      rotate_left
      ·simp only [Act.put,sIb,sZ,sS,i64_w,i32_w];rfl
      refine done_ (done_of HT_.out (by kernel_rfl)) ?_;try go_wp2
      go_meet
      case rel=>exact ⟨_,(true),(by first|rfl|(simp;done)|(simp [*];done)),H',⟨by have:=HJ2.out;first|omega|exact Nat.le_refl _⟩,⟨by (with_reducible repeat (first|refine qN ?_ _|refine qW ?_|refine qL ?_ _));exact BK238.out⟩,⟨by repeat (first|(with_reducible first|exact HB.out|apply qA|apply qD|apply qO|refine qS ?_ GE238.out)|exact HB.out)⟩⟩
    case rest =>
     clear HC45;try clear p2
     try clear c3
     try clear c4
     try clear c5
     try clear c35
     try clear c47
     try clear c48
     try clear c48b0
     try clear c48b1
     try clear c48b2
     try clear c51
     try clear c51b0
     try clear c51b1
     try clear c51b2
     obtain ⟨kq,x70_44,rfl,HA,HJ44,BK238,HB⟩:=hcut;cases kq with
     | zero=>exact absurd HA.out (by simp [impl_GoodLocks.j1])
     | succ kj44 =>
      have H:=HA.out;clear HA;simp only [impl_GoodLocks.j1] at H;by_cases c71:x70_44=true
      ·subst c71;have H1:(some false)=some r:=by rw [if_pos rfl] at H;exact H
       clear H;have H:=H1;clear H1;obtain rfl:=Option.some.inj H;go_wp2
       go_ret
       exact ⟨by first|rfl|(simp [errW_none,errW_some] <;> rfl)|(simp [*,errW_none,errW_some] <;> rfl),by repeat (first|(with_reducible first|exact HB.out|apply qA|apply qD|apply qO|refine qS ?_ GE238.out)|exact HB.out)⟩
      ·replace c71:=Bool.eq_false_iff.mpr c71;subst c71;have H1:(impl_GoodLocks.l0 kj44 l0_0 (l0_0.length:Int) 0 l0_0 l0_1 l0_2 l0_3 l0_4)=some r:=by rw [if_neg (show ¬ (false=true) by decide)] at H;exact H
       clear H;have H:=H1;clear H1;have H':=qK H;clear H;have hcz72_0:wc.cell? ⟨gb238,0,none⟩=some (.slice A0_0 l0_0.length c0_0):=(qC BK238.out 0).trans rfl;have hcz72_1:wc.cell? ⟨gb238,1,none⟩=some (.slice A0_1 l0_1.length c0_1):=(qC BK238.out 1).trans rfl;have hcz72_2:wc.cell? ⟨gb238,2,none⟩=some (.slice A0_2 l0_2.length c0_2):=(qC BK238.out 2).trans rfl;have hcz72_3:wc.cell? ⟨gb238,3,none⟩=some (.slice A0_3 l0_3.length c0_3):=(qC BK238.out 3).trans rfl;have hcz72_4:wc.cell? ⟨gb238,4,none⟩=some (.slice A0_4 l0_4.length c0_4):=(qC BK238.out 4).trans rfl;have hfz72_0:=qF BK238.out 0;have hfz72_1:=qF BK238.out 1;have hfz72_2:=qF BK238.out 2;have hfz72_3:=qF BK238.out 3;have hfz72_4:=qF BK238.out 4;go_wp2
       go_loopg [74] kj44 (fun kq v74 w'=>∃ (x74_3:Int),v74=.int .i64 x74_3∧Aside0 (impl_GoodLocks.l0 kq l0_0 (l0_0.length:Int) x74_3 l0_0 l0_1 l0_2 l0_3 l0_4=some r)∧Aside0 (kq≤kj44)∧Aside0 (w'.heap[gb238]?=some (.cells #[(.slice A0_0 l0_0.length c0_0),(.slice A0_1 l0_1.length c0_1),(.slice A0_2 l0_2.length c0_2),(.slice A0_3 l0_3.length c0_3),(.slice A0_4 l0_4.length c0_4)] 31 (0,0)))∧Aside0 (Below w.heap.size w w'))
       case atStart=>exact ⟨(0),(by first|rfl|(simp;done)|(simp [*];done)),H',⟨Nat.le_refl _⟩,⟨by (with_reducible repeat (first|refine qN ?_ _|refine qW ?_|refine qL ?_ _));exact BK238.out⟩,⟨by repeat (first|(with_reducible first|exact HB.out|apply qA|apply qD|apply qO|refine qS ?_ GE238.out)|exact HB.out)⟩⟩
       case round =>
        clear H';try clear p2
        try clear c3
        try clear c4
        try clear c5
        try clear c7
        try clear c35
        try clear c47
        try clear c48
        try clear c48b0
        try clear c48b1
        try clear c48b2
        try clear c51
        try clear c51b0
        try clear c51b1
        try clear c51b2
        try clear c71
        try clear hcz72_0
        try clear hcz72_1
        try clear hcz72_2
        try clear hcz72_3
        try clear hcz72_4
        try clear hfz72_0
        try clear hfz72_1
        try clear hfz72_2
        try clear hfz72_3
        try clear hfz72_4
        try clear p2
        obtain ⟨x74_3,rfl,HA,HK3,BK238,HB⟩:=hrel;cases gk with
        | zero=>exact absurd HA.out (by simp [impl_GoodLocks.l0])
        | succ k3 =>
         have H:=HA.out;clear HA;simp only [impl_GoodLocks.l0] at H;by_cases c73:x74_3 < (l0_0.length:Int)
         ·rw [if_pos c73] at H;have c73b0:decide (x74_3 < (l0_0.length:Int))=true:=decide_eq_true c73;clear c73;by_cases c74:0≤x74_3
          ·rw [if_pos c74] at H;have c74b0:decide (0≤x74_3)=true:=decide_eq_true c74;clear c74;by_cases c75:x74_3 < (l0_0.length:Int)
           ·rw [if_pos c75] at H;have c75b0:decide (x74_3 < (l0_0.length:Int))=true:=decide_eq_true c75;clear c75;by_cases c76:x74_3 > 0
            ·rw [if_pos c76] at H;have c76b0:decide (0 < x74_3)=true:=decide_eq_true c76;clear c76;obtain ⟨ji77,hji77⟩:∃ j_:Int,(wrap64 (x74_3 - 1))=j_:=⟨_,rfl⟩;replace H:(if 0≤(ji77) then (if (ji77) < (l0_0.length:Int) then ((impl_compareLocks.f k3 ((rd_T47 l0_0 (ji77)).f0) ((rd_T47 l0_0 (ji77)).f1) ((rd_T47 l0_0 (ji77)).f2) ((rd_T47 l0_0 x74_3).f0) ((rd_T47 l0_0 x74_3).f1) ((rd_T47 l0_0 x74_3).f2)).bind fun t259=>(if t259 ≥ 0 then (some false) else (if x74_3≤(l0_0.length:Int) then ((anyf_GoodLocks1.f (l0_0.take (x74_3:Int).toNat) ((rd_T47 l0_0 x74_3).f0) ((rd_T47 l0_0 x74_3).f1) ((rd_T47 l0_0 x74_3).f2)).bind fun t264=>(if t264=true then (some false) else (impl_GoodLocks.l0 k3 l0_0 (l0_0.length:Int) (wrap64 (x74_3 + 1)) l0_0 l0_1 l0_2 l0_3 l0_4))) else (none)))) else (none)) else (none))=some r:=by first|(rw [hji77] at H;exact H)|(simp only [hji77] at H ⊢;exact H)
             have hji77w:(IntKind.i64.wrap (x74_3 - 1))=ji77:=(i64_w _).trans hji77;by_cases c78:0≤(ji77)
             ·rw [if_pos c78] at H;have c78b0:decide (0≤(ji77))=true:=decide_eq_true c78;clear c78;by_cases c79:(ji77) < (l0_0.length:Int)
              ·rw [if_pos c79] at H;have c79b0:decide ((ji77) < (l0_0.length:Int))=true:=decide_eq_true c79;clear c79;replace H:=Option.bind_eq_some_iff.mp H;obtain ⟨t259,A800,H⟩:=H;replace H:(if t259 ≥ 0 then (some false) else (if x74_3≤(l0_0.length:Int) then ((anyf_GoodLocks1.f (l0_0.take (x74_3:Int).toNat) ((rd_T47 l0_0 x74_3).f0) ((rd_T47 l0_0 x74_3).f1) ((rd_T47 l0_0 x74_3).f2)).bind fun t264=>(if t264=true then (some false) else (impl_GoodLocks.l0 k3 l0_0 (l0_0.length:Int) (wrap64 (x74_3 + 1)) l0_0 l0_1 l0_2 l0_3 l0_4))) else (none)))=some r:=H;have A80:=qK A800;clear A800;by_cases c81:t259 ≥ 0
               ·rw [if_pos c81] at H;have c81b0:decide (0≤t259)=true:=decide_eq_true c81;clear c81;obtain rfl:=Option.some.inj H;have p256:0≤(x74_3:Int):=of_decide_eq_true (by first|(with_reducible assumption)|assumption);have q256:x74_3 < (l0_0.length:Int):=of_decide_eq_true (by first|(with_reducible assumption)|assumption);obtain ⟨ad256,e256,hx256_0,hx256_1,hx256_2⟩:=at_T47 HR0_0.out x74_3 p256 q256;cases e256
                replace hx256_0:=(HB.out.cell (World.block_lt_of_cell? w _ hx256_0)).trans hx256_0;replace hx256_1:=(HB.out.cell (World.block_lt_of_cell? w _ hx256_1)).trans hx256_1;replace hx256_2:=(HB.out.cell (World.block_lt_of_cell? w _ hx256_2)).trans hx256_2;replace p256:=eq_true p256;replace q256:=eq_true q256;try go_wp2_with (first|((with_reducible refine gate_dst (N:=6) rfl ?_);(try (refine gate_guard (by rfl) ?_;dsimp only));refine box_event ?hg (N:=6) ?hd (cs:=#[.int .i64 0,.int .i64 0,.int .i64 0]) (t:=47) ?hr ?_;(case hd=>rfl);(case hg=>rfl);(case hr=>(go_simp;try rfl));intro gb257 hg w82 hbox hb;have n0_:=qK (qB (g:=gb238) (o:=_) (by (with_reducible repeat (first|refine qN ?_ _|refine qW ?_|refine qL ?_ _));exact BK238.out) hb);have n1_:=qK (qT (by repeat (with_reducible first|exact HB.out|apply qA|apply qD|apply qO|refine qS ?_ GE238.out)) hb);have n2_:=qK (hbox);have n3_:=qK ((by rw [hg];exact (qZ (by repeat (with_reducible first|exact HB.out|apply qA|apply qD|apply qO|refine qS ?_ GE238.out))):w.heap.size≤gb257));have n4_:=qK ((by rw [hg];exact (qZ (by repeat (with_reducible first|exact HB.out|apply qA|apply qD|apply qO|refine qS ?_ GE238.out))):w.heap.size≤gb257));have n5_:=qK ((by rw [hg];exact Nat.ne_of_lt (blk_lt (g:=gb238) (o:=_) (by (with_reducible repeat (first|refine qN ?_ _|refine qW ?_|refine qL ?_ _));exact BK238.out)):gb238 ≠ gb257));have n6_:=qK ((by rw [hg];exact Nat.ne_of_gt (blk_lt (g:=gb238) (o:=_) (by (with_reducible repeat (first|refine qN ?_ _|refine qW ?_|refine qL ?_ _));exact BK238.out)):gb257 ≠ gb238));clear BK238;clear HB;have BK238:=n0_;have HB:=n1_;have BK257:=n2_;have GW257:=n3_;have GE257:=n4_;have NB238_257:=n5_;have NB257_238:=n6_;clear n0_ n1_ n2_ n3_ n4_ n5_ n6_;clear hb hbox hg;have hnb83:=NB257_238.out;have hnc83:=NB238_257.out;have hcz84_0:w82.cell? ⟨gb257,0,none⟩=some (.int .i64 0):=(qC BK257.out 0).trans rfl;have hcz84_1:w82.cell? ⟨gb257,1,none⟩=some (.int .i64 0):=(qC BK257.out 1).trans rfl;have hcz84_2:w82.cell? ⟨gb257,2,none⟩=some (.int .i64 0):=(qC BK257.out 2).trans rfl;have hfz84_0:=qF BK257.out 0;have hfz84_1:=qF BK257.out 1;have hfz84_2:=qF BK257.out 2))
                have n0_:Aside0 ((((w82.setCell ⟨gb257,0,none⟩ (.int .i64 ((rd_T47 l0_0 x74_3).f0))).setCell ⟨gb257,1,none⟩ (.int .i64 ((rd_T47 l0_0 x74_3).f1))).setCell ⟨gb257,2,none⟩ (.int .i64 ((rd_T47 l0_0 x74_3).f2))).heap[gb238]?=some (.cells #[.slice (some ad256) l0_0.length c0_0,.slice A0_1 l0_1.length c0_1,.slice A0_2 l0_2.length c0_2,.slice A0_3 l0_3.length c0_3,.slice A0_4 l0_4.length c0_4] 31 (0,0))):=⟨by (with_reducible repeat (first|refine qN ?_ _|refine qW ?_|refine qL ?_ _));refine qR ?_ NB238_257.out _;(with_reducible repeat (first|refine qN ?_ _|refine qW ?_|refine qL ?_ _));refine qR ?_ NB238_257.out _;(with_reducible repeat (first|refine qN ?_ _|refine qW ?_|refine qL ?_ _));refine qR ?_ NB238_257.out _;(with_reducible repeat (first|refine qN ?_ _|refine qW ?_|refine qL ?_ _));exact BK238.out⟩;have n1_:Aside0 ((((w82.setCell ⟨gb257,0,none⟩ (.int .i64 ((rd_T47 l0_0 x74_3).f0))).setCell ⟨gb257,1,none⟩ (.int .i64 ((rd_T47 l0_0 x74_3).f1))).setCell ⟨gb257,2,none⟩ (.int .i64 ((rd_T47 l0_0 x74_3).f2))).heap[gb257]?=some (.cells #[.int .i64 ((rd_T47 l0_0 x74_3).f0),.int .i64 ((rd_T47 l0_0 x74_3).f1),.int .i64 ((rd_T47 l0_0 x74_3).f2)] 47 (0,0))):=⟨by (with_reducible repeat (first|refine qN ?_ _|refine qW ?_|refine qL ?_ _));refine qP (cs:=#[.int .i64 ((rd_T47 l0_0 x74_3).f0),.int .i64 ((rd_T47 l0_0 x74_3).f1),.int .i64 0]) ?_ 2 _ rfl;(with_reducible repeat (first|refine qN ?_ _|refine qW ?_|refine qL ?_ _));refine qP (cs:=#[.int .i64 ((rd_T47 l0_0 x74_3).f0),.int .i64 0,.int .i64 0]) ?_ 1 _ rfl;(with_reducible repeat (first|refine qN ?_ _|refine qW ?_|refine qL ?_ _));refine qP (cs:=#[.int .i64 0,.int .i64 0,.int .i64 0]) ?_ 0 _ rfl;(with_reducible repeat (first|refine qN ?_ _|refine qW ?_|refine qL ?_ _));exact BK257.out⟩;have n2_:Aside0 (Below w.heap.size w (((w82.setCell ⟨gb257,0,none⟩ (.int .i64 ((rd_T47 l0_0 x74_3).f0))).setCell ⟨gb257,1,none⟩ (.int .i64 ((rd_T47 l0_0 x74_3).f1))).setCell ⟨gb257,2,none⟩ (.int .i64 ((rd_T47 l0_0 x74_3).f2)))):=⟨by repeat (first|(with_reducible first|exact HB.out|apply qA|apply qD|apply qO|refine qS ?_ GE238.out|refine qS ?_ GE257.out)|exact HB.out)⟩;(try clear BK238);(try clear BK257);(try clear HB);generalize (((w82.setCell ⟨gb257,0,none⟩ (.int .i64 ((rd_T47 l0_0 x74_3).f0))).setCell ⟨gb257,1,none⟩ (.int .i64 ((rd_T47 l0_0 x74_3).f1))).setCell ⟨gb257,2,none⟩ (.int .i64 ((rd_T47 l0_0 x74_3).f2)))=w85 at n0_ n1_ n2_ ⊢
                have BK238:=n0_;have BK257:=n1_;have HB:=n2_;clear n0_ n1_ n2_;have n0_:=qK (qW BK238.out);have n1_:=qK (qW BK257.out);have n2_:=qK (qO HB.out);clear BK238;clear BK257;clear HB;have BK238:=n0_;have BK257:=n1_;have HB:=n2_;clear n0_ n1_ n2_;have p258:0≤((ji77):Int):=of_decide_eq_true (by first|(with_reducible assumption)|assumption);have q258:(ji77) < (l0_0.length:Int):=of_decide_eq_true (by first|(with_reducible assumption)|assumption);obtain ⟨ad258,e258,hx258_0,hx258_1,hx258_2⟩:=at_T47 HR0_0.out (ji77) p258 q258;have hw258_2:=hx258_2;have hw258_1:=hx258_1;have hw258_0:=hx258_0;obtain rfl:ad256=ad258:=(by injection e258);replace hx258_0:=(HB.out.cell (World.block_lt_of_cell? w _ hx258_0)).trans hx258_0;replace hx258_1:=(HB.out.cell (World.block_lt_of_cell? w _ hx258_1)).trans hx258_1;replace hx258_2:=(HB.out.cell (World.block_lt_of_cell? w _ hx258_2)).trans hx258_2;replace p258:=eq_true p258;replace q258:=eq_true q258;refine start_ (n:=21) (S:=fun w'=>w'.cell? ⟨gb238,0,none⟩=some (.slice (some ad256) l0_0.length c0_0)∧w'.cell? ⟨gb238,1,none⟩=some (.slice A0_1 l0_1.length c0_1)∧w'.cell? ⟨gb238,2,none⟩=some (.slice A0_2 l0_2.length c0_2)∧w'.cell? ⟨gb238,3,none⟩=some (.slice A0_3 l0_3.length c0_3)∧w'.cell? ⟨gb238,4,none⟩=some (.slice A0_4 l0_4.length c0_4)∧w'.cell? ⟨gb257,0,none⟩=some (.int .i64 ((rd_T47 l0_0 x74_3).f0))∧w'.cell? ⟨gb257,1,none⟩=some (.int .i64 ((rd_T47 l0_0 x74_3).f1))∧w'.cell? ⟨gb257,2,none⟩=some (.int .i64 ((rd_T47 l0_0 x74_3).f2))∧w'.cell? (ad256.add (((ji77)).toNat * 3))=some (.int .i64 ((rd_T47 l0_0 (ji77)).f0))∧w'.cell? ⟨(ad256.add (((ji77)).toNat * 3)).block,(ad256.add (((ji77)).toNat * 3)).off + 1,none⟩=some (.int .i64 ((rd_T47 l0_0 (ji77)).f1))∧w'.cell? ⟨(ad256.add (((ji77)).toNat * 3)).block,(ad256.add (((ji77)).toNat * 3)).off + 2,none⟩=some (.int .i64 ((rd_T47 l0_0 (ji77)).f2))) (ds:=[]) #[Z,Z,Z,Z,Z,Z,Z,Z,Z,Z,Z,Z,Z,Z,Z,Z,Z,Z,Z,Z,Z] (by kernel_rfl) rfl rfl ⟨(qC BK238.out 0).trans rfl,(qC BK238.out 1).trans rfl,(qC BK238.out 2).trans rfl,(qC BK238.out 3).trans rfl,(qC BK238.out 4).trans rfl,(qC BK257.out 0).trans rfl,(qC BK257.out 1).trans rfl,(qC BK257.out 2).trans rfl,((HB.out.cell (World.block_lt_of_cell? w _ hw258_0)).trans hw258_0),((HB.out.cell (World.block_lt_of_cell? w _ hw258_1)).trans hw258_1),((HB.out.cell (World.block_lt_of_cell? w _ hw258_2)).trans hw258_2)⟩ (fun hHeld=>?_);refine with_tabW impl_GoodLocks.tab10 impl_GoodLocks.bits10 (fun HT_ HW_=>?_);generalize w85.drew=w86 at BK238 BK257 HB hx258_0 hx258_1 hx258_2 hHeld ⊢
                refine pure_ (i:=0) (N:=some 79) (v:=?_) (a':=?_) #[Y,Z,Z,Z,Z,Z,Z,Z,Z,Z,Z,Z,Z,Z,Z,Z,Z,Z,Z,Z,Z] rfl rfl (any_of HT_.out (by kernel_rfl)) (fun _ _ _ h=>h) (Or.inl ⟨by rfl,?_⟩) ?_ ?_;rotate_left
                ·intro w';go_simp;with_reducible rfl
                rotate_left
                ·simp only [Act.put,sIb,sZ,sS,i64_w,i32_w];rfl
                refine pure_ (i:=1) (N:=some 80) (v:=?_) (a':=?_) #[Y,Y,Z,Z,Z,Z,Z,Z,Z,Z,Z,Z,Z,Z,Z,Z,Z,Z,Z,Z,Z] rfl rfl (any_of HT_.out (by kernel_rfl)) (fun _ _ _ h=>h) (Or.inl ⟨by rfl,?_⟩) ?_ ?_;rotate_left
                ·intro w';go_simp;with_reducible rfl
                rotate_left
                ·simp only [Act.put,sIb,sZ,sS,i64_w,i32_w];rfl
                refine pure_ (i:=2) (N:=some 81) (v:=?_) (a':=?_) #[Y,Y,Y,Z,Z,Z,Z,Z,Z,Z,Z,Z,Z,Z,Z,Z,Z,Z,Z,Z,Z] rfl rfl (any_of HT_.out (by kernel_rfl)) (fun _ _ _ h=>h) (Or.inl ⟨by rfl,?_⟩) ?_ ?_;rotate_left
                ·intro w';go_simp;with_reducible rfl
                rotate_left
                ·simp only [Act.put,sIb,sZ,sS,i64_w,i32_w];rfl
                refine pure_ (i:=3) (N:=some 82) (v:=?_) (a':=?_) #[Y,Y,Y,Y,Z,Z,Z,Z,Z,Z,Z,Z,Z,Z,Z,Z,Z,Z,Z,Z,Z] rfl rfl (any_of HT_.out (by kernel_rfl)) (fun _ _ _ h=>h) (Or.inl ⟨by rfl,?_⟩) ?_ ?_;rotate_left
                ·intro w';go_simp;with_reducible rfl
                rotate_left
                ·simp only [Act.put,sIb,sZ,sS,i64_w,i32_w];rfl
                refine pure_ (i:=5) (N:=some 84) (v:=?_) (a':=?_) #[Y,Y,Y,Y,Z,Y,Z,Z,Z,Z,Z,Z,Z,Z,Z,Z,Z,Z,Z,Z,Z] rfl rfl (any_of HT_.out (by kernel_rfl)) (fun _ _ _ h=>h) (Or.inl ⟨by rfl,?_⟩) ?_ ?_;rotate_left
                ·intro w';go_simp;with_reducible rfl
                rotate_left
                ·simp only [Act.put,sIb,sZ,sS,i64_w,i32_w];rfl
                refine pure_ (i:=6) (N:=some 85) (v:=?_) (a':=?_) #[Y,Y,Y,Y,Z,Y,Y,Z,Z,Z,Z,Z,Z,Z,Z,Z,Z,Z,Z,Z,Z] rfl rfl (any_of HT_.out (by kernel_rfl)) (fun _ _ _ h=>h) (Or.inl ⟨by rfl,?_⟩) ?_ ?_;rotate_left
                ·intro w';go_simp;with_reducible rfl
                rotate_left
                ·simp only [Act.put,sIb,sZ,sS,i64_w,i32_w];rfl
                refine take_ (i:=4) (N:=some 83) (v:=?_) (a':=?_) #[Y,Y,Y,Y,Y,Y,Y,Z,Z,Z,Z,Z,Z,Z,Z,Z,Z,Z,Z,Z,Z] rfl rfl (take_ofW HT_.out HW_.out (by kernel_rfl)) (fun _ _ _ h=>h) (Or.inl ⟨by rfl,?_⟩) hHeld ?_ ?_;rotate_left
                ·rintro w' ⟨s0,s1,s2,s3,s4,s5,s6,s7,s8,s9,s10⟩;go_simp;with_reducible rfl
                rotate_left
                ·simp only [Act.put,sIb,sZ,sS,i64_w,i32_w];rfl
                refine pure_ (i:=7) (N:=some 86) (v:=?_) (a':=?_) #[Y,Y,Y,Y,Y,Y,Y,Y,Z,Z,Z,Z,Z,Z,Z,Z,Z,Z,Z,Z,Z] rfl rfl (any_of HT_.out (by kernel_rfl)) (fun _ _ _ h=>h) (Or.inl ⟨by rfl,?_⟩) ?_ ?_;rotate_left
                ·intro w';go_simp;with_reducible rfl
                rotate_left
                ·simp only [Act.put,sIb,sZ,sS,i64_w,i32_w];rfl
                refine take_ (i:=8) (N:=some 87) (v:=?_) (a':=?_) #[Y,Y,Y,Y,Y,Y,Y,Y,Y,Z,Z,Z,Z,Z,Z,Z,Z,Z,Z,Z,Z] rfl rfl (take_ofW HT_.out HW_.out (by kernel_rfl)) (fun _ _ _ h=>h) (Or.inl ⟨by rfl,?_⟩) hHeld ?_ ?_;rotate_left
                ·rintro w' ⟨s0,s1,s2,s3,s4,s5,s6,s7,s8,s9,s10⟩;go_simp;with_reducible rfl
                rotate_left
                ·simp only [Act.put,sIb,sZ,sS,i64_w,i32_w];rfl
                refine take_ (i:=9) (N:=some 88) (v:=?_) (a':=?_) #[Y,Y,Y,Y,Y,Y,Y,Y,Y,Y,Z,Z,Z,Z,Z,Z,Z,Z,Z,Z,Z] rfl rfl (take_ofW HT_.out HW_.out (by kernel_rfl)) (fun _ _ _ h=>h) (Or.inl ⟨by rfl,?_⟩) hHeld ?_ ?_;rotate_left
                ·rintro w' ⟨s0,s1,s2,s3,s4,s5,s6,s7,s8,s9,s10⟩;go_simp;with_reducible rfl
                rotate_left
                ·simp only [Act.put,sIb,sZ,sS,i64_w,i32_w];rfl
                refine one_ (i:=10) (N:=some 89) #[Y,Y,Y,Y,Y,Y,Y,Y,Y,Y,Y,Z,Z,Z,Z,Z,Z,Z,Z,Z,Z] rfl rfl (one_of HT_.out (by kernel_rfl)) (by decide) (fun K hK=>?_);refine goes_ Try.func48 (by kernel_rfl) rfl #[.agg #[.int .i64 ((rd_T47 l0_0 (ji77)).f0),.int .i64 ((rd_T47 l0_0 (ji77)).f1),.int .i64 ((rd_T47 l0_0 (ji77)).f2)],.agg #[.int .i64 ((rd_T47 l0_0 x74_3).f0),.int .i64 ((rd_T47 l0_0 x74_3).f1),.int .i64 ((rd_T47 l0_0 x74_3).f2)]] (by rfl) rfl rfl (by (try simp only [mT,mC,mN]);first|done|(simp only [hji77];rfl)|rfl|(simp only [lD,lT];rfl)) ?_;with_reducible refine (impl_compareLocks.calls k3 ((rd_T47 l0_0 (ji77)).f0) ((rd_T47 l0_0 (ji77)).f1) ((rd_T47 l0_0 (ji77)).f2) ((rd_T47 l0_0 x74_3).f0) ((rd_T47 l0_0 x74_3).f1) ((rd_T47 l0_0 x74_3).f2) t259 _ A80.out).mono ?_
                rintro e w87 ⟨rfl,hb⟩;refine ⟨_,rfl,?_⟩;have n0_:=qK (qB (g:=gb238) (o:=_) (by (with_reducible repeat (first|refine qN ?_ _|refine qW ?_|refine qL ?_ _));exact BK238.out) hb);have n1_:=qK (qB (g:=gb257) (o:=_) (by (with_reducible repeat (first|refine qN ?_ _|refine qW ?_|refine qL ?_ _));exact BK257.out) hb);have n2_:=qK (qT (by repeat (with_reducible first|exact HB.out|apply qA|apply qD|apply qO|refine qS ?_ GE238.out|refine qS ?_ GE257.out)) hb);clear BK238;clear BK257;clear HB;have BK238:=n0_;have BK257:=n1_;have HB:=n2_;clear n0_ n1_ n2_;(try clear hb);refine hK.out _ _ ⟨(qC BK238.out 0).trans rfl,(qC BK238.out 1).trans rfl,(qC BK238.out 2).trans rfl,(qC BK238.out 3).trans rfl,(qC BK238.out 4).trans rfl,(qC BK257.out 0).trans rfl,(qC BK257.out 1).trans rfl,(qC BK257.out 2).trans rfl,((HB.out.cell (World.block_lt_of_cell? w _ hw258_0)).trans hw258_0),((HB.out.cell (World.block_lt_of_cell? w _ hw258_1)).trans hw258_1),((HB.out.cell (World.block_lt_of_cell? w _ hw258_2)).trans hw258_2)⟩ (fun hHeld=>?_);clear hK K;refine norm_ (a':=?_) ?_ ?_;rotate_left
                ·show Act.put _ (some 89) _=_
                 simp only [Act.put,sIb,sZ,sS,i64_w,i32_w];rfl
                refine pure_ (i:=11) (N:=some 90) (v:=?_) (a':=?_) #[Y,Y,Y,Y,Y,Y,Y,Y,Y,Y,Y,Y,Z,Z,Z,Z,Z,Z,Z,Z,Z] rfl rfl (any_of HT_.out (by kernel_rfl)) (fun _ _ _ h=>h) (Or.inl ⟨by rfl,?_⟩) ?_ ?_;rotate_left
                ·intro w';go_simp;with_reducible rfl
                rotate_left
                ·simp only [Act.put,sIb,sZ,sS,i64_w,i32_w];rfl
                refine pure_ (i:=12) (N:=some 91) (v:=?_) (a':=?_) #[Y,Y,Y,Y,Y,Y,Y,Y,Y,Y,Y,Y,Y,Z,Z,Z,Z,Z,Z,Z,Z] rfl rfl (any_of HT_.out (by kernel_rfl)) (fun _ _ _ h=>h) (Or.inl ⟨by rfl,?_⟩) ?_ ?_;rotate_left
                ·intro w';go_simp;with_reducible rfl
                rotate_left
                ·simp only [Act.put,sIb,sZ,sS,i64_w,i32_w];rfl
                refine pure_ (i:=13) (N:=some 92) (v:=?_) (a':=?_) #[Y,Y,Y,Y,Y,Y,Y,Y,Y,Y,Y,Y,Y,Y,Z,Z,Z,Z,Z,Z,Z] rfl rfl (any_of HT_.out (by kernel_rfl)) (fun _ _ _ h=>h) (Or.inl ⟨by rfl,?_⟩) ?_ ?_;rotate_left
                ·intro w';go_simp;with_reducible rfl
                rotate_left
                ·simp only [Act.put,sIb,sZ,sS,i64_w,i32_w];rfl
                refine pure_ (i:=14) (N:=some 93) (v:=undef) (a':=?_) #[Y,Y,Y,Y,Y,Y,Y,Y,Y,Y,Y,Y,Y,Y,Y,Z,Z,Z,Z,Z,Z] rfl rfl (any_of HT_.out (by kernel_rfl)) (fun _ _ _ h=>h) (Or.inr ⟨by rfl,rfl⟩) ?_ ?_;rotate_left
                ·simp only [Act.put,sIb,sZ,sS,i64_w,i32_w];rfl
                refine pure_ (i:=15) (N:=some 94) (v:=undef) (a':=?_) #[Y,Y,Y,Y,Y,Y,Y,Y,Y,Y,Y,Y,Y,Y,Y,Y,Z,Z,Z,Z,Z] rfl rfl (any_of HT_.out (by kernel_rfl)) (fun _ _ _ h=>h) (Or.inr ⟨by rfl,rfl⟩) ?_ ?_;rotate_left
                ·simp only [Act.put,sIb,sZ,sS,i64_w,i32_w];rfl
                refine pure_ (i:=16) (N:=some 95) (v:=undef) (a':=?_) #[Y,Y,Y,Y,Y,Y,Y,Y,Y,Y,Y,Y,Y,Y,Y,Y,Y,Z,Z,Z,Z] rfl rfl (any_of HT_.out (by kernel_rfl)) (fun _ _ _ h=>h) (Or.inr ⟨by rfl,rfl⟩) ?_ ?_;rotate_left
                ·simp only [Act.put,sIb,sZ,sS,i64_w,i32_w];rfl
                refine pure_ (i:=17) (N:=some 96) (v:=undef) (a':=?_) #[Y,Y,Y,Y,Y,Y,Y,Y,Y,Y,Y,Y,Y,Y,Y,Y,Y,Y,Z,Z,Z] rfl rfl (any_of HT_.out (by kernel_rfl)) (fun _ _ _ h=>h) (Or.inr ⟨by rfl,rfl⟩) ?_ ?_;rotate_left
                ·simp only [Act.put,sIb,sZ,sS,i64_w,i32_w];rfl
                refine pure_ (i:=18) (N:=some 97) (v:=undef) (a':=?_) #[Y,Y,Y,Y,Y,Y,Y,Y,Y,Y,Y,Y,Y,Y,Y,Y,Y,Y,Y,Z,Z] rfl rfl (any_of HT_.out (by kernel_rfl)) (fun _ _ _ h=>h) (Or.inr ⟨by rfl,rfl⟩) ?_ ?_;rotate_left
                ·simp only [Act.put,sIb,sZ,sS,i64_w,i32_w];rfl
                refine pure_ (i:=19) (N:=some 98) (v:=undef) (a':=?_) #[Y,Y,Y,Y,Y,Y,Y,Y,Y,Y,Y,Y,Y,Y,Y,Y,Y,Y,Y,Y,Z] rfl rfl (any_of HT_.out (by kernel_rfl)) (fun _ _ _ h=>h) (Or.inr ⟨by rfl,rfl⟩) ?_ ?_;rotate_left
                ·simp only [Act.put,sIb,sZ,sS,i64_w,i32_w];rfl
                refine pure_ (i:=20) (N:=some 99) (v:=?_) (a':=?_) #[Y,Y,Y,Y,Y,Y,Y,Y,Y,Y,Y,Y,Y,Y,Y,Y,Y,Y,Y,Y,Y] rfl rfl (any_of HT_.out (by kernel_rfl)) (fun _ _ _ h=>h) (Or.inl ⟨by rfl,?_⟩) ?_ ?_;rotate_left
                ·intro w';go_simp;with_reducible rfl
                rotate_left
                ·simp only [Act.put,sIb,sZ,sS,i64_w,i32_w];rfl
                refine done_ (done_of HT_.out (by kernel_rfl)) ?_;try go_wp2
                go_ret
                exact ⟨by first|rfl|(simp [errW_none,errW_some] <;> rfl)|(simp only [← hji77];first|rfl|(simp [errW_none,errW_some] <;> rfl))|(simp [*,errW_none,errW_some] <;> rfl),by repeat (first|(with_reducible first|exact HB.out|apply qA|apply qD|apply qO|refine qS ?_ GE238.out|refine qS ?_ GE257.out)|exact HB.out)⟩
               ·rw [if_neg c81] at H;have c81b0:decide (0≤t259)=false:=decide_eq_false c81;clear c81;have c88b0:=eq_true (of_decide_eq_true (by first|(with_reducible assumption)|assumption):0≤x74_3);by_cases c89:x74_3≤(l0_0.length:Int)
                ·rw [if_pos c89] at H;have c89b0:=eq_true c89;have c89b1:decide (x74_3≤(l0_0.length:Int))=true:=decide_eq_true c89;clear c89;obtain ⟨y260,hy260⟩:∃ y_:List (S47),y_=(l0_0.take (x74_3:Int).toNat):=⟨_,rfl⟩;replace H:((anyf_GoodLocks1.f y260 ((rd_T47 l0_0 x74_3).f0) ((rd_T47 l0_0 x74_3).f1) ((rd_T47 l0_0 x74_3).f2)).bind fun t264=>(if t264=true then (some false) else (impl_GoodLocks.l0 k3 l0_0 (l0_0.length:Int) (wrap64 (x74_3 + 1)) l0_0 l0_1 l0_2 l0_3 l0_4)))=some r:=by first|(rw [hy260];with_reducible exact H)|(have H2_:=(Option.bind_some _ _).symm.trans H;rw [hy260];with_reducible exact H2_)|(have H2_:=(Option.bind_some _ _).symm.trans H;with_reducible exact H2_)|with_reducible exact H|(rw [hy260];exact H)|exact H
                 have Ny260:=qK hy260;clear hy260;replace H:=Option.bind_eq_some_iff.mp H;obtain ⟨t264,A900,H⟩:=H;replace H:(if t264=true then (some false) else (impl_GoodLocks.l0 k3 l0_0 (l0_0.length:Int) (wrap64 (x74_3 + 1)) l0_0 l0_1 l0_2 l0_3 l0_4))=some r:=H;have A90:=qK A900;clear A900;by_cases c91:t264=true
                 ·subst c91;have H1:(some false)=some r:=by rw [if_pos rfl] at H;exact H
                  clear H;have H:=H1;clear H1;obtain rfl:=Option.some.inj H;have p256:0≤(x74_3:Int):=of_decide_eq_true (by first|(with_reducible assumption)|assumption);have q256:x74_3 < (l0_0.length:Int):=of_decide_eq_true (by first|(with_reducible assumption)|assumption);obtain ⟨ad256,e256,hx256_0,hx256_1,hx256_2⟩:=at_T47 HR0_0.out x74_3 p256 q256;cases e256
                  replace hx256_0:=(HB.out.cell (World.block_lt_of_cell? w _ hx256_0)).trans hx256_0;replace hx256_1:=(HB.out.cell (World.block_lt_of_cell? w _ hx256_1)).trans hx256_1;replace hx256_2:=(HB.out.cell (World.block_lt_of_cell? w _ hx256_2)).trans hx256_2;replace p256:=eq_true p256;replace q256:=eq_true q256;try go_wp2_with (first|((with_reducible refine gate_dst (N:=6) rfl ?_);(try (refine gate_guard (by rfl) ?_;dsimp only));refine box_event ?hg (N:=6) ?hd (cs:=#[.int .i64 0,.int .i64 0,.int .i64 0]) (t:=47) ?hr ?_;(case hd=>rfl);(case hg=>rfl);(case hr=>(go_simp;try rfl));intro gb257 hg w92 hbox hb;have n0_:=qK (qB (g:=gb238) (o:=_) (by (with_reducible repeat (first|refine qN ?_ _|refine qW ?_|refine qL ?_ _));exact BK238.out) hb);have n1_:=qK (qT (by repeat (with_reducible first|exact HB.out|apply qA|apply qD|apply qO|refine qS ?_ GE238.out)) hb);have n2_:=qK (hbox);have n3_:=qK ((by rw [hg];exact (qZ (by repeat (with_reducible first|exact HB.out|apply qA|apply qD|apply qO|refine qS ?_ GE238.out))):w.heap.size≤gb257));have n4_:=qK ((by rw [hg];exact (qZ (by repeat (with_reducible first|exact HB.out|apply qA|apply qD|apply qO|refine qS ?_ GE238.out))):w.heap.size≤gb257));have n5_:=qK ((by rw [hg];exact Nat.ne_of_lt (blk_lt (g:=gb238) (o:=_) (by (with_reducible repeat (first|refine qN ?_ _|refine qW ?_|refine qL ?_ _));exact BK238.out)):gb238 ≠ gb257));have n6_:=qK ((by rw [hg];exact Nat.ne_of_gt (blk_lt (g:=gb238) (o:=_) (by (with_reducible repeat (first|refine qN ?_ _|refine qW ?_|refine qL ?_ _));exact BK238.out)):gb257 ≠ gb238));clear BK238;clear HB;have BK238:=n0_;have HB:=n1_;have BK257:=n2_;have GW257:=n3_;have GE257:=n4_;have NB238_257:=n5_;have NB257_238:=n6_;clear n0_ n1_ n2_ n3_ n4_ n5_ n6_;clear hb hbox hg;have hnb93:=NB257_238.out;have hnc93:=NB238_257.out;have hcz94_0:w92.cell? ⟨gb257,0,none⟩=some (.int .i64 0):=(qC BK257.out 0).trans rfl;have hcz94_1:w92.cell? ⟨gb257,1,none⟩=some (.int .i64 0):=(qC BK257.out 1).trans rfl;have hcz94_2:w92.cell? ⟨gb257,2,none⟩=some (.int .i64 0):=(qC BK257.out 2).trans rfl;have hfz94_0:=qF BK257.out 0;have hfz94_1:=qF BK257.out 1;have hfz94_2:=qF BK257.out 2))
                  have n0_:Aside0 ((((w92.setCell ⟨gb257,0,none⟩ (.int .i64 ((rd_T47 l0_0 x74_3).f0))).setCell ⟨gb257,1,none⟩ (.int .i64 ((rd_T47 l0_0 x74_3).f1))).setCell ⟨gb257,2,none⟩ (.int .i64 ((rd_T47 l0_0 x74_3).f2))).heap[gb238]?=some (.cells #[.slice (some ad256) l0_0.length c0_0,.slice A0_1 l0_1.length c0_1,.slice A0_2 l0_2.length c0_2,.slice A0_3 l0_3.length c0_3,.slice A0_4 l0_4.length c0_4] 31 (0,0))):=⟨by (with_reducible repeat (first|refine qN ?_ _|refine qW ?_|refine qL ?_ _));refine qR ?_ NB238_257.out _;(with_reducible repeat (first|refine qN ?_ _|refine qW ?_|refine qL ?_ _));refine qR ?_ NB238_257.out _;(with_reducible repeat (first|refine qN ?_ _|refine qW ?_|refine qL ?_ _));refine qR ?_ NB238_257.out _;(with_reducible repeat (first|refine qN ?_ _|refine qW ?_|refine qL ?_ _));exact BK238.out⟩;have n1_:Aside0 ((((w92.setCell ⟨gb257,0,none⟩ (.int .i64 ((rd_T47 l0_0 x74_3).f0))).setCell ⟨gb257,1,none⟩ (.int .i64 ((rd_T47 l0_0 x74_3).f1))).setCell ⟨gb257,2,none⟩ (.int .i64 ((rd_T47 l0_0 x74_3).f2))).heap[gb257]?=some (.cells #[.int .i64 ((rd_T47 l0_0 x74_3).f0),.int .i64 ((rd_T47 l0_0 x74_3).f1),.int .i64 ((rd_T47 l0_0 x74_3).f2)] 47 (0,0))):=⟨by (with_reducible repeat (first|refine qN ?_ _|refine qW ?_|refine qL ?_ _));refine qP (cs:=#[.int .i64 ((rd_T47 l0_0 x74_3).f0),.int .i64 ((rd_T47 l0_0 x74_3).f1),.int .i64 0]) ?_ 2 _ rfl;(with_reducible repeat (first|refine qN ?_ _|refine qW ?_|refine qL ?_ _));refine qP (cs:=#[.int .i64 ((rd_T47 l0_0 x74_3).f0),.int .i64 0,.int .i64 0]) ?_ 1 _ rfl;(with_reducible repeat (first|refine qN ?_ _|refine qW ?_|refine qL ?_ _));refine qP (cs:=#[.int .i64 0,.int .i64 0,.int .i64 0]) ?_ 0 _ rfl;(with_reducible repeat (first|refine qN ?_ _|refine qW ?_|refine qL ?_ _));exact BK257.out⟩;have n2_:Aside0 (Below w.heap.size w (((w92.setCell ⟨gb257,0,none⟩ (.int .i64 ((rd_T47 l0_0 x74_3).f0))).setCell ⟨gb257,1,none⟩ (.int .i64 ((rd_T47 l0_0 x74_3).f1))).setCell ⟨gb257,2,none⟩ (.int .i64 ((rd_T47 l0_0 x74_3).f2)))):=⟨by repeat (first|(with_reducible first|exact HB.out|apply qA|apply qD|apply qO|refine qS ?_ GE238.out|refine qS ?_ GE257.out)|exact HB.out)⟩;(try clear BK238);(try clear BK257);(try clear HB);generalize (((w92.setCell ⟨gb257,0,none⟩ (.int .i64 ((rd_T47 l0_0 x74_3).f0))).setCell ⟨gb257,1,none⟩ (.int .i64 ((rd_T47 l0_0 x74_3).f1))).setCell ⟨gb257,2,none⟩ (.int .i64 ((rd_T47 l0_0 x74_3).f2)))=w95 at n0_ n1_ n2_ ⊢
                  have BK238:=n0_;have BK257:=n1_;have HB:=n2_;clear n0_ n1_ n2_;have n0_:=qK (qW BK238.out);have n1_:=qK (qW BK257.out);have n2_:=qK (qO HB.out);clear BK238;clear BK257;clear HB;have BK238:=n0_;have BK257:=n1_;have HB:=n2_;clear n0_ n1_ n2_;have p258:0≤((ji77):Int):=of_decide_eq_true (by first|(with_reducible assumption)|assumption);have q258:(ji77) < (l0_0.length:Int):=of_decide_eq_true (by first|(with_reducible assumption)|assumption);obtain ⟨ad258,e258,hx258_0,hx258_1,hx258_2⟩:=at_T47 HR0_0.out (ji77) p258 q258;have hw258_2:=hx258_2;have hw258_1:=hx258_1;have hw258_0:=hx258_0;obtain rfl:ad256=ad258:=(by injection e258);replace hx258_0:=(HB.out.cell (World.block_lt_of_cell? w _ hx258_0)).trans hx258_0;replace hx258_1:=(HB.out.cell (World.block_lt_of_cell? w _ hx258_1)).trans hx258_1;replace hx258_2:=(HB.out.cell (World.block_lt_of_cell? w _ hx258_2)).trans hx258_2;replace p258:=eq_true p258;replace q258:=eq_true q258;refine start_ (n:=21) (S:=fun w'=>w'.cell? ⟨gb238,0,none⟩=some (.slice (some ad256) l0_0.length c0_0)∧w'.cell? ⟨gb238,1,none⟩=some (.slice A0_1 l0_1.length c0_1)∧w'.cell? ⟨gb238,2,none⟩=some (.slice A0_2 l0_2.length c0_2)∧w'.cell? ⟨gb238,3,none⟩=some (.slice A0_3 l0_3.length c0_3)∧w'.cell? ⟨gb238,4,none⟩=some (.slice A0_4 l0_4.length c0_4)∧w'.cell? ⟨gb257,0,none⟩=some (.int .i64 ((rd_T47 l0_0 x74_3).f0))∧w'.cell? ⟨gb257,1,none⟩=some (.int .i64 ((rd_T47 l0_0 x74_3).f1))∧w'.cell? ⟨gb257,2,none⟩=some (.int .i64 ((rd_T47 l0_0 x74_3).f2))∧w'.cell? (ad256.add (((ji77)).toNat * 3))=some (.int .i64 ((rd_T47 l0_0 (ji77)).f0))∧w'.cell? ⟨(ad256.add (((ji77)).toNat * 3)).block,(ad256.add (((ji77)).toNat * 3)).off + 1,none⟩=some (.int .i64 ((rd_T47 l0_0 (ji77)).f1))∧w'.cell? ⟨(ad256.add (((ji77)).toNat * 3)).block,(ad256.add (((ji77)).toNat * 3)).off + 2,none⟩=some (.int .i64 ((rd_T47 l0_0 (ji77)).f2))) (ds:=[]) #[Z,Z,Z,Z,Z,Z,Z,Z,Z,Z,Z,Z,Z,Z,Z,Z,Z,Z,Z,Z,Z] (by kernel_rfl) rfl rfl ⟨(qC BK238.out 0).trans rfl,(qC BK238.out 1).trans rfl,(qC BK238.out 2).trans rfl,(qC BK238.out 3).trans rfl,(qC BK238.out 4).trans rfl,(qC BK257.out 0).trans rfl,(qC BK257.out 1).trans rfl,(qC BK257.out 2).trans rfl,((HB.out.cell (World.block_lt_of_cell? w _ hw258_0)).trans hw258_0),((HB.out.cell (World.block_lt_of_cell? w _ hw258_1)).trans hw258_1),((HB.out.cell (World.block_lt_of_cell? w _ hw258_2)).trans hw258_2)⟩ (fun hHeld=>?_);refine with_tabW impl_GoodLocks.tab10 impl_GoodLocks.bits10 (fun HT_ HW_=>?_);generalize w95.drew=w96 at BK238 BK257 HB hx258_0 hx258_1 hx258_2 hHeld ⊢
                  refine pure_ (i:=0) (N:=some 79) (v:=?_) (a':=?_) #[Y,Z,Z,Z,Z,Z,Z,Z,Z,Z,Z,Z,Z,Z,Z,Z,Z,Z,Z,Z,Z] rfl rfl (any_of HT_.out (by kernel_rfl)) (fun _ _ _ h=>h) (Or.inl ⟨by rfl,?_⟩) ?_ ?_;rotate_left
                  ·intro w';go_simp;with_reducible rfl
                  rotate_left
                  ·simp only [Act.put,sIb,sZ,sS,i64_w,i32_w];rfl
                  refine pure_ (i:=1) (N:=some 80) (v:=?_) (a':=?_) #[Y,Y,Z,Z,Z,Z,Z,Z,Z,Z,Z,Z,Z,Z,Z,Z,Z,Z,Z,Z,Z] rfl rfl (any_of HT_.out (by kernel_rfl)) (fun _ _ _ h=>h) (Or.inl ⟨by rfl,?_⟩) ?_ ?_;rotate_left
                  ·intro w';go_simp;with_reducible rfl
                  rotate_left
                  ·simp only [Act.put,sIb,sZ,sS,i64_w,i32_w];rfl
                  refine pure_ (i:=2) (N:=some 81) (v:=?_) (a':=?_) #[Y,Y,Y,Z,Z,Z,Z,Z,Z,Z,Z,Z,Z,Z,Z,Z,Z,Z,Z,Z,Z] rfl rfl (any_of HT_.out (by kernel_rfl)) (fun _ _ _ h=>h) (Or.inl ⟨by rfl,?_⟩) ?_ ?_;rotate_left
                  ·intro w';go_simp;with_reducible rfl
                  rotate_left
                  ·simp only [Act.put,sIb,sZ,sS,i64_w,i32_w];rfl
                  refine pure_ (i:=3) (N:=some 82) (v:=?_) (a':=?_) #[Y,Y,Y,Y,Z,Z,Z,Z,Z,Z,Z,Z,Z,Z,Z,Z,Z,Z,Z,Z,Z] rfl rfl (any_of HT_.out (by kernel_rfl)) (fun _ _ _ h=>h) (Or.inl ⟨by rfl,?_⟩) ?_ ?_;rotate_left
                  ·intro w';go_simp;with_reducible rfl
                  rotate_left
                  ·simp only [Act.put,sIb,sZ,sS,i64_w,i32_w];rfl
                  refine pure_ (i:=5) (N:=some 84) (v:=?_) (a':=?_) #[Y,Y,Y,Y,Z,Y,Z,Z,Z,Z,Z,Z,Z,Z,Z,Z,Z,Z,Z,Z,Z] rfl rfl (any_of HT_.out (by kernel_rfl)) (fun _ _ _ h=>h) (Or.inl ⟨by rfl,?_⟩) ?_ ?_;rotate_left
                  ·intro w';go_simp;with_reducible rfl
                  rotate_left
                  ·simp only [Act.put,sIb,sZ,sS,i64_w,i32_w];rfl
                  refine pure_ (i:=6) (N:=some 85) (v:=?_) (a':=?_) #[Y,Y,Y,Y,Z,Y,Y,Z,Z,Z,Z,Z,Z,Z,Z,Z,Z,Z,Z,Z,Z] rfl rfl (any_of HT_.out (by kernel_rfl)) (fun _ _ _ h=>h) (Or.inl ⟨by rfl,?_⟩) ?_ ?_;rotate_left
                  ·intro w';go_simp;with_reducible rfl
                  rotate_left
                  ·simp only [Act.put,sIb,sZ,sS,i64_w,i32_w];rfl
                  refine take_ (i:=4) (N:=some 83) (v:=?_) (a':=?_) #[Y,Y,Y,Y,Y,Y,Y,Z,Z,Z,Z,Z,Z,Z,Z,Z,Z,Z,Z,Z,Z] rfl rfl (take_ofW HT_.out HW_.out (by kernel_rfl)) (fun _ _ _ h=>h) (Or.inl ⟨by rfl,?_⟩) hHeld ?_ ?_;rotate_left
                  ·rintro w' ⟨s0,s1,s2,s3,s4,s5,s6,s7,s8,s9,s10⟩;go_simp;with_reducible rfl
                  rotate_left
                  ·simp only [Act.put,sIb,sZ,sS,i64_w,i32_w];rfl
                  refine pure_ (i:=7) (N:=some 86) (v:=?_) (a':=?_) #[Y,Y,Y,Y,Y,Y,Y,Y,Z,Z,Z,Z,Z,Z,Z,Z,Z,Z,Z,Z,Z] rfl rfl (any_of HT_.out (by kernel_rfl)) (fun _ _ _ h=>h) (Or.inl ⟨by rfl,?_⟩) ?_ ?_;rotate_left
                  ·intro w';go_simp;with_reducible rfl
                  rotate_left
                  ·simp only [Act.put,sIb,sZ,sS,i64_w,i32_w];rfl
                  refine take_ (i:=8) (N:=some 87) (v:=?_) (a':=?_) #[Y,Y,Y,Y,Y,Y,Y,Y,Y,Z,Z,Z,Z,Z,Z,Z,Z,Z,Z,Z,Z] rfl rfl (take_ofW HT_.out HW_.out (by kernel_rfl)) (fun _ _ _ h=>h) (Or.inl ⟨by rfl,?_⟩) hHeld ?_ ?_;rotate_left
                  ·rintro w' ⟨s0,s1,s2,s3,s4,s5,s6,s7,s8,s9,s10⟩;go_simp;with_reducible rfl
                  rotate_left
                  ·simp only [Act.put,sIb,sZ,sS,i64_w,i32_w];rfl
                  refine take_ (i:=9) (N:=some 88) (v:=?_) (a':=?_) #[Y,Y,Y,Y,Y,Y,Y,Y,Y,Y,Z,Z,Z,Z,Z,Z,Z,Z,Z,Z,Z] rfl rfl (take_ofW HT_.out HW_.out (by kernel_rfl)) (fun _ _ _ h=>h) (Or.inl ⟨by rfl,?_⟩) hHeld ?_ ?_;rotate_left
                  ·rintro w' ⟨s0,s1,s2,s3,s4,s5,s6,s7,s8,s9,s10⟩;go_simp;with_reducible rfl
                  rotate_left
                  ·simp only [Act.put,sIb,sZ,sS,i64_w,i32_w];rfl
                  refine one_ (i:=10) (N:=some 89) #[Y,Y,Y,Y,Y,Y,Y,Y,Y,Y,Y,Z,Z,Z,Z,Z,Z,Z,Z,Z,Z] rfl rfl (one_of HT_.out (by kernel_rfl)) (by decide) (fun K hK=>?_);refine goes_ Try.func48 (by kernel_rfl) rfl #[.agg #[.int .i64 ((rd_T47 l0_0 (ji77)).f0),.int .i64 ((rd_T47 l0_0 (ji77)).f1),.int .i64 ((rd_T47 l0_0 (ji77)).f2)],.agg #[.int .i64 ((rd_T47 l0_0 x74_3).f0),.int .i64 ((rd_T47 l0_0 x74_3).f1),.int .i64 ((rd_T47 l0_0 x74_3).f2)]] (by rfl) rfl rfl (by (try simp only [mT,mC,mN]);first|done|(simp only [hji77];rfl)|rfl|(simp only [lD,lT];rfl)) ?_;with_reducible refine (impl_compareLocks.calls k3 ((rd_T47 l0_0 (ji77)).f0) ((rd_T47 l0_0 (ji77)).f1) ((rd_T47 l0_0 (ji77)).f2) ((rd_T47 l0_0 x74_3).f0) ((rd_T47 l0_0 x74_3).f1) ((rd_T47 l0_0 x74_3).f2) t259 _ A80.out).mono ?_
                  rintro e w97 ⟨rfl,hb⟩;refine ⟨_,rfl,?_⟩;have n0_:=qK (qB (g:=gb238) (o:=_) (by (with_reducible repeat (first|refine qN ?_ _|refine qW ?_|refine qL ?_ _));exact BK238.out) hb);have n1_:=qK (qB (g:=gb257) (o:=_) (by (with_reducible repeat (first|refine qN ?_ _|refine qW ?_|refine qL ?_ _));exact BK257.out) hb);have n2_:=qK (qT (by repeat (with_reducible first|exact HB.out|apply qA|apply qD|apply qO|refine qS ?_ GE238.out|refine qS ?_ GE257.out)) hb);clear BK238;clear BK257;clear HB;have BK238:=n0_;have BK257:=n1_;have HB:=n2_;clear n0_ n1_ n2_;(try clear hb);have q98:(x74_3:Int)≤((l0_0.length:Int):Int):=of_decide_eq_true (by first|(with_reducible assumption)|assumption);obtain ⟨i098,hi098,_,hsz98,_⟩:=info_parts info47;have hroom98:l0_0.length≤c0_0:=HC0_0.out;have hC98:Kd.C k47 _ (some ad256) l0_0.length l0_0:=HR0_0.out;have hcut98:=cut_to (P:=Try.prog) 27 47 .i64 Try.underlying27 hi098 (some ad256) l0_0.length c0_0 x74_3 (of_decide_eq_true (by first|(with_reducible assumption)|assumption)) q98 hroom98;have hr98:=Kd.C_take (m:=(x74_3:Int).toNat) hC98 (by omega);have hy98:y260.length=(x74_3:Int).toNat:=(by rw [Ny260.out,lT];omega);rw [← Ny260.out] at hr98;rw [← hy98] at hcut98;have HR263:=qK hr98;have HC263:=qK (show y260.length≤c0_0 from by omega);clear hr98 hC98 hroom98 hi098 hsz98;have KY98:=qK hy98;clear hy98;replace q98:=eq_true q98;refine hK.out _ _ ⟨(qC BK238.out 0).trans rfl,(qC BK238.out 1).trans rfl,(qC BK238.out 2).trans rfl,(qC BK238.out 3).trans rfl,(qC BK238.out 4).trans rfl,(qC BK257.out 0).trans rfl,(qC BK257.out 1).trans rfl,(qC BK257.out 2).trans rfl,((HB.out.cell (World.block_lt_of_cell? w _ hw258_0)).trans hw258_0),((HB.out.cell (World.block_lt_of_cell? w _ hw258_1)).trans hw258_1),((HB.out.cell (World.block_lt_of_cell? w _ hw258_2)).trans hw258_2)⟩ (fun hHeld=>?_);clear hK K;refine norm_ (a':=?_) ?_ ?_;rotate_left
                  ·show Act.put _ (some 89) _=_
                   simp only [Act.put,sIb,sZ,sS,i64_w,i32_w];rfl
                  refine pure_ (i:=11) (N:=some 90) (v:=?_) (a':=?_) #[Y,Y,Y,Y,Y,Y,Y,Y,Y,Y,Y,Y,Z,Z,Z,Z,Z,Z,Z,Z,Z] rfl rfl (any_of HT_.out (by kernel_rfl)) (fun _ _ _ h=>h) (Or.inl ⟨by rfl,?_⟩) ?_ ?_;rotate_left
                  ·intro w';go_simp;with_reducible rfl
                  rotate_left
                  ·simp only [Act.put,sIb,sZ,sS,i64_w,i32_w];rfl
                  refine pure_ (i:=12) (N:=some 91) (v:=?_) (a':=?_) #[Y,Y,Y,Y,Y,Y,Y,Y,Y,Y,Y,Y,Y,Z,Z,Z,Z,Z,Z,Z,Z] rfl rfl (any_of HT_.out (by kernel_rfl)) (fun _ _ _ h=>h) (Or.inl ⟨by rfl,?_⟩) ?_ ?_;rotate_left
                  ·intro w';go_simp;with_reducible rfl
                  rotate_left
                  ·simp only [Act.put,sIb,sZ,sS,i64_w,i32_w];rfl
                  refine pure_ (i:=13) (N:=some 92) (v:=?_) (a':=?_) #[Y,Y,Y,Y,Y,Y,Y,Y,Y,Y,Y,Y,Y,Y,Z,Z,Z,Z,Z,Z,Z] rfl rfl (any_of HT_.out (by kernel_rfl)) (fun _ _ _ h=>h) (Or.inl ⟨by rfl,?_⟩) ?_ ?_;rotate_left
                  ·intro w';go_simp;with_reducible rfl
                  rotate_left
                  ·simp only [Act.put,sIb,sZ,sS,i64_w,i32_w];rfl
                  refine pure_ (i:=14) (N:=some 93) (v:=?_) (a':=?_) #[Y,Y,Y,Y,Y,Y,Y,Y,Y,Y,Y,Y,Y,Y,Y,Z,Z,Z,Z,Z,Z] rfl rfl (any_of HT_.out (by kernel_rfl)) (fun _ _ _ h=>h) (Or.inl ⟨by rfl,?_⟩) ?_ ?_;rotate_left
                  ·intro w';go_simp;with_reducible rfl
                  rotate_left
                  ·simp only [Act.put,sIb,sZ,sS,i64_w,i32_w];rfl
                  refine pure_ (i:=16) (N:=some 95) (v:=?_) (a':=?_) #[Y,Y,Y,Y,Y,Y,Y,Y,Y,Y,Y,Y,Y,Y,Y,Z,Y,Z,Z,Z,Z] rfl rfl (any_of HT_.out (by kernel_rfl)) (fun _ _ _ h=>h) (Or.inl ⟨by rfl,?_⟩) ?_ ?_;rotate_left
                  ·intro w';go_simp;with_reducible rfl
                  rotate_left
                  ·simp only [Act.put,sIb,sZ,sS,i64_w,i32_w];rfl
                  refine pure_ (i:=18) (N:=some 97) (v:=?_) (a':=?_) #[Y,Y,Y,Y,Y,Y,Y,Y,Y,Y,Y,Y,Y,Y,Y,Z,Y,Z,Y,Z,Z] rfl rfl (any_of HT_.out (by kernel_rfl)) (fun _ _ _ h=>h) (Or.inl ⟨by rfl,?_⟩) ?_ ?_;rotate_left
                  ·intro w';go_simp;with_reducible rfl
                  rotate_left
                  ·simp only [Act.put,sIb,sZ,sS,i64_w,i32_w];rfl
                  refine take_ (i:=15) (N:=some 94) (v:=?_) (a':=?_) #[Y,Y,Y,Y,Y,Y,Y,Y,Y,Y,Y,Y,Y,Y,Y,Y,Y,Z,Y,Z,Z] rfl rfl (take_ofW HT_.out HW_.out (by kernel_rfl)) (fun _ _ _ h=>h) (Or.inl ⟨by rfl,?_⟩) hHeld ?_ ?_;rotate_left
                  ·rintro w' ⟨s0,s1,s2,s3,s4,s5,s6,s7,s8,s9,s10⟩;go_simp;with_reducible rfl
                  rotate_left
                  ·simp only [Act.put,sIb,sZ,sS,i64_w,i32_w];rfl
                  refine pure_ (i:=17) (N:=some 96) (v:=?_) (a':=?_) #[Y,Y,Y,Y,Y,Y,Y,Y,Y,Y,Y,Y,Y,Y,Y,Y,Y,Y,Y,Z,Z] rfl rfl (any_of HT_.out (by kernel_rfl)) (fun _ _ _ h=>h) (Or.inl ⟨by rfl,?_⟩) ?_ ?_;rotate_left
                  ·intro w';go_simp;with_reducible rfl
                  rotate_left
                  ·simp only [Act.put,sIb,sZ,sS,i64_w,i32_w];rfl
                  refine one_ (i:=19) (N:=some 98) #[Y,Y,Y,Y,Y,Y,Y,Y,Y,Y,Y,Y,Y,Y,Y,Y,Y,Y,Y,Y,Z] rfl rfl (one_of HT_.out (by kernel_rfl)) (by decide) (fun K hK=>?_);refine goes_ Try.func49 (by kernel_rfl) rfl #[.slice (some ad256) y260.length c0_0,.func (.func 50) #[] #[.pointer (some ⟨gb257,0,none⟩)]] (by rfl) rfl rfl (by (try simp only [mT,mC,mN]);first|done|rfl|(simp only [lD,lT];rfl)) ?_;with_reducible refine (anyf_GoodLocks1.calls _ _ y260 gb257 ((rd_T47 l0_0 x74_3).f0) ((rd_T47 l0_0 x74_3).f1) ((rd_T47 l0_0 x74_3).f2) true _ ?side1 ?side2 ?side3 A90.out).mono ?_
                  (case side1=>repeat (first|exact (cB HR263.out HB.out)|(with_reducible first|refine cL ?_ _|refine cN ?_ _|refine cW ?_)));(case side2=>exact HC263.out);(case side3=>exact (by (with_reducible repeat (first|refine qN ?_ _|refine qW ?_|refine qL ?_ _));exact BK257.out));rintro e w99 ⟨rfl,hb⟩;refine ⟨_,rfl,?_⟩;have n0_:=qK (qB (g:=gb238) (o:=_) (by (with_reducible repeat (first|refine qN ?_ _|refine qW ?_|refine qL ?_ _));exact BK238.out) hb);have n1_:=qK (qB (g:=gb257) (o:=_) (by (with_reducible repeat (first|refine qN ?_ _|refine qW ?_|refine qL ?_ _));exact BK257.out) hb);have n2_:=qK (qT (by repeat (with_reducible first|exact HB.out|apply qA|apply qD|apply qO|refine qS ?_ GE238.out|refine qS ?_ GE257.out)) hb);clear BK238;clear BK257;clear HB;have BK238:=n0_;have BK257:=n1_;have HB:=n2_;clear n0_ n1_ n2_;(try clear hb);refine hK.out _ _ ⟨(qC BK238.out 0).trans rfl,(qC BK238.out 1).trans rfl,(qC BK238.out 2).trans rfl,(qC BK238.out 3).trans rfl,(qC BK238.out 4).trans rfl,(qC BK257.out 0).trans rfl,(qC BK257.out 1).trans rfl,(qC BK257.out 2).trans rfl,((HB.out.cell (World.block_lt_of_cell? w _ hw258_0)).trans hw258_0),((HB.out.cell (World.block_lt_of_cell? w _ hw258_1)).trans hw258_1),((HB.out.cell (World.block_lt_of_cell? w _ hw258_2)).trans hw258_2)⟩ (fun hHeld=>?_);clear hK K;refine norm_ (a':=?_) ?_ ?_;rotate_left
                  ·show Act.put _ (some 98) _=_
                   simp only [Act.put,sIb,sZ,sS,i64_w,i32_w];rfl
                  refine pure_ (i:=20) (N:=some 99) (v:=?_) (a':=?_) #[Y,Y,Y,Y,Y,Y,Y,Y,Y,Y,Y,Y,Y,Y,Y,Y,Y,Y,Y,Y,Y] rfl rfl (any_of HT_.out (by kernel_rfl)) (fun _ _ _ h=>h) (Or.inl ⟨by rfl,?_⟩) ?_ ?_;rotate_left
                  ·intro w';go_simp;with_reducible rfl
                  rotate_left
                  ·simp only [Act.put,sIb,sZ,sS,i64_w,i32_w];rfl
                  refine done_ (done_of HT_.out (by kernel_rfl)) ?_;try go_wp2
                  go_ret
                  exact ⟨by first|rfl|(simp [errW_none,errW_some] <;> rfl)|(simp only [← hji77];first|rfl|(simp [errW_none,errW_some] <;> rfl))|(simp [*,errW_none,errW_some] <;> rfl),by repeat (first|(with_reducible first|exact HB.out|apply qA|apply qD|apply qO|refine qS ?_ GE238.out|refine qS ?_ GE257.out)|exact HB.out)⟩
                 ·replace c91:=Bool.eq_false_iff.mpr c91;subst c91;have H1:(impl_GoodLocks.l0 k3 l0_0 (l0_0.length:Int) (wrap64 (x74_3 + 1)) l0_0 l0_1 l0_2 l0_3 l0_4)=some r:=by rw [if_neg (show ¬ (false=true) by decide)] at H;exact H
                  clear H;have H:=H1;clear H1;have H':=qK H;clear H;have p256:0≤(x74_3:Int):=of_decide_eq_true (by first|(with_reducible assumption)|assumption);have q256:x74_3 < (l0_0.length:Int):=of_decide_eq_true (by first|(with_reducible assumption)|assumption);obtain ⟨ad256,e256,hx256_0,hx256_1,hx256_2⟩:=at_T47 HR0_0.out x74_3 p256 q256;cases e256
                  replace hx256_0:=(HB.out.cell (World.block_lt_of_cell? w _ hx256_0)).trans hx256_0;replace hx256_1:=(HB.out.cell (World.block_lt_of_cell? w _ hx256_1)).trans hx256_1;replace hx256_2:=(HB.out.cell (World.block_lt_of_cell? w _ hx256_2)).trans hx256_2;replace p256:=eq_true p256;replace q256:=eq_true q256;try go_wp2_with (first|((with_reducible refine gate_dst (N:=6) rfl ?_);(try (refine gate_guard (by rfl) ?_;dsimp only));refine box_event ?hg (N:=6) ?hd (cs:=#[.int .i64 0,.int .i64 0,.int .i64 0]) (t:=47) ?hr ?_;(case hd=>rfl);(case hg=>rfl);(case hr=>(go_simp;try rfl));intro gb257 hg w100 hbox hb;have n0_:=qK (qB (g:=gb238) (o:=_) (by (with_reducible repeat (first|refine qN ?_ _|refine qW ?_|refine qL ?_ _));exact BK238.out) hb);have n1_:=qK (qT (by repeat (with_reducible first|exact HB.out|apply qA|apply qD|apply qO|refine qS ?_ GE238.out)) hb);have n2_:=qK (hbox);have n3_:=qK ((by rw [hg];exact (qZ (by repeat (with_reducible first|exact HB.out|apply qA|apply qD|apply qO|refine qS ?_ GE238.out))):w.heap.size≤gb257));have n4_:=qK ((by rw [hg];exact (qZ (by repeat (with_reducible first|exact HB.out|apply qA|apply qD|apply qO|refine qS ?_ GE238.out))):w.heap.size≤gb257));have n5_:=qK ((by rw [hg];exact Nat.ne_of_lt (blk_lt (g:=gb238) (o:=_) (by (with_reducible repeat (first|refine qN ?_ _|refine qW ?_|refine qL ?_ _));exact BK238.out)):gb238 ≠ gb257));have n6_:=qK ((by rw [hg];exact Nat.ne_of_gt (blk_lt (g:=gb238) (o:=_) (by (with_reducible repeat (first|refine qN ?_ _|refine qW ?_|refine qL ?_ _));exact BK238.out)):gb257 ≠ gb238));clear BK238;clear HB;have BK238:=n0_;have HB:=n1_;have BK257:=n2_;have GW257:=n3_;have GE257:=n4_;have NB238_257:=n5_;have NB257_238:=n6_;clear n0_ n1_ n2_ n3_ n4_ n5_ n6_;clear hb hbox hg;have hnb101:=NB257_238.out;have hnc101:=NB238_257.out;have hcz102_0:w100.cell? ⟨gb257,0,none⟩=some (.int .i64 0):=(qC BK257.out 0).trans rfl;have hcz102_1:w100.cell? ⟨gb257,1,none⟩=some (.int .i64 0):=(qC BK257.out 1).trans rfl;have hcz102_2:w100.cell? ⟨gb257,2,none⟩=some (.int .i64 0):=(qC BK257.out 2).trans rfl;have hfz102_0:=qF BK257.out 0;have hfz102_1:=qF BK257.out 1;have hfz102_2:=qF BK257.out 2))
                  have n0_:Aside0 ((((w100.setCell ⟨gb257,0,none⟩ (.int .i64 ((rd_T47 l0_0 x74_3).f0))).setCell ⟨gb257,1,none⟩ (.int .i64 ((rd_T47 l0_0 x74_3).f1))).setCell ⟨gb257,2,none⟩ (.int .i64 ((rd_T47 l0_0 x74_3).f2))).heap[gb238]?=some (.cells #[.slice (some ad256) l0_0.length c0_0,.slice A0_1 l0_1.length c0_1,.slice A0_2 l0_2.length c0_2,.slice A0_3 l0_3.length c0_3,.slice A0_4 l0_4.length c0_4] 31 (0,0))):=⟨by (with_reducible repeat (first|refine qN ?_ _|refine qW ?_|refine qL ?_ _));refine qR ?_ NB238_257.out _;(with_reducible repeat (first|refine qN ?_ _|refine qW ?_|refine qL ?_ _));refine qR ?_ NB238_257.out _;(with_reducible repeat (first|refine qN ?_ _|refine qW ?_|refine qL ?_ _));refine qR ?_ NB238_257.out _;(with_reducible repeat (first|refine qN ?_ _|refine qW ?_|refine qL ?_ _));exact BK238.out⟩;have n1_:Aside0 ((((w100.setCell ⟨gb257,0,none⟩ (.int .i64 ((rd_T47 l0_0 x74_3).f0))).setCell ⟨gb257,1,none⟩ (.int .i64 ((rd_T47 l0_0 x74_3).f1))).setCell ⟨gb257,2,none⟩ (.int .i64 ((rd_T47 l0_0 x74_3).f2))).heap[gb257]?=some (.cells #[.int .i64 ((rd_T47 l0_0 x74_3).f0),.int .i64 ((rd_T47 l0_0 x74_3).f1),.int .i64 ((rd_T47 l0_0 x74_3).f2)] 47 (0,0))):=⟨by (with_reducible repeat (first|refine qN ?_ _|refine qW ?_|refine qL ?_ _));refine qP (cs:=#[.int .i64 ((rd_T47 l0_0 x74_3).f0),.int .i64 ((rd_T47 l0_0 x74_3).f1),.int .i64 0]) ?_ 2 _ rfl;(with_reducible repeat (first|refine qN ?_ _|refine qW ?_|refine qL ?_ _));refine qP (cs:=#[.int .i64 ((rd_T47 l0_0 x74_3).f0),.int .i64 0,.int .i64 0]) ?_ 1 _ rfl;(with_reducible repeat (first|refine qN ?_ _|refine qW ?_|refine qL ?_ _));refine qP (cs:=#[.int .i64 0,.int .i64 0,.int .i64 0]) ?_ 0 _ rfl;(with_reducible repeat (first|refine qN ?_ _|refine qW ?_|refine qL ?_ _));exact BK257.out⟩;have n2_:Aside0 (Below w.heap.size w (((w100.setCell ⟨gb257,0,none⟩ (.int .i64 ((rd_T47 l0_0 x74_3).f0))).setCell ⟨gb257,1,none⟩ (.int .i64 ((rd_T47 l0_0 x74_3).f1))).setCell ⟨gb257,2,none⟩ (.int .i64 ((rd_T47 l0_0 x74_3).f2)))):=⟨by repeat (first|(with_reducible first|exact HB.out|apply qA|apply qD|apply qO|refine qS ?_ GE238.out|refine qS ?_ GE257.out)|exact HB.out)⟩;(try clear BK238);(try clear BK257);(try clear HB);generalize (((w100.setCell ⟨gb257,0,none⟩ (.int .i64 ((rd_T47 l0_0 x74_3).f0))).setCell ⟨gb257,1,none⟩ (.int .i64 ((rd_T47 l0_0 x74_3).f1))).setCell ⟨gb257,2,none⟩ (.int .i64 ((rd_T47 l0_0 x74_3).f2)))=w103 at n0_ n1_ n2_ ⊢
                  have BK238:=n0_;have BK257:=n1_;have HB:=n2_;clear n0_ n1_ n2_;have n0_:=qK (qW BK238.out);have n1_:=qK (qW BK257.out);have n2_:=qK (qO HB.out);clear BK238;clear BK257;clear HB;have BK238:=n0_;have BK257:=n1_;have HB:=n2_;clear n0_ n1_ n2_;have p258:0≤((ji77):Int):=of_decide_eq_true (by first|(with_reducible assumption)|assumption);have q258:(ji77) < (l0_0.length:Int):=of_decide_eq_true (by first|(with_reducible assumption)|assumption);obtain ⟨ad258,e258,hx258_0,hx258_1,hx258_2⟩:=at_T47 HR0_0.out (ji77) p258 q258;have hw258_2:=hx258_2;have hw258_1:=hx258_1;have hw258_0:=hx258_0;obtain rfl:ad256=ad258:=(by injection e258);replace hx258_0:=(HB.out.cell (World.block_lt_of_cell? w _ hx258_0)).trans hx258_0;replace hx258_1:=(HB.out.cell (World.block_lt_of_cell? w _ hx258_1)).trans hx258_1;replace hx258_2:=(HB.out.cell (World.block_lt_of_cell? w _ hx258_2)).trans hx258_2;replace p258:=eq_true p258;replace q258:=eq_true q258;refine start_ (n:=21) (S:=fun w'=>w'.cell? ⟨gb238,0,none⟩=some (.slice (some ad256) l0_0.length c0_0)∧w'.cell? ⟨gb238,1,none⟩=some (.slice A0_1 l0_1.length c0_1)∧w'.cell? ⟨gb238,2,none⟩=some (.slice A0_2 l0_2.length c0_2)∧w'.cell? ⟨gb238,3,none⟩=some (.slice A0_3 l0_3.length c0_3)∧w'.cell? ⟨gb238,4,none⟩=some (.slice A0_4 l0_4.length c0_4)∧w'.cell? ⟨gb257,0,none⟩=some (.int .i64 ((rd_T47 l0_0 x74_3).f0))∧w'.cell? ⟨gb257,1,none⟩=some (.int .i64 ((rd_T47 l0_0 x74_3).f1))∧w'.cell? ⟨gb257,2,none⟩=some (.int .i64 ((rd_T47 l0_0 x74_3).f2))∧w'.cell? (ad256.add (((ji77)).toNat * 3))=some (.int .i64 ((rd_T47 l0_0 (ji77)).f0))∧w'.cell? ⟨(ad256.add (((ji77)).toNat * 3)).block,(ad256.add (((ji77)).toNat * 3)).off + 1,none⟩=some (.int .i64 ((rd_T47 l0_0 (ji77)).f1))∧w'.cell? ⟨(ad256.add (((ji77)).toNat * 3)).block,(ad256.add (((ji77)).toNat * 3)).off + 2,none⟩=some (.int .i64 ((rd_T47 l0_0 (ji77)).f2))) (ds:=[]) #[Z,Z,Z,Z,Z,Z,Z,Z,Z,Z,Z,Z,Z,Z,Z,Z,Z,Z,Z,Z,Z] (by kernel_rfl) rfl rfl ⟨(qC BK238.out 0).trans rfl,(qC BK238.out 1).trans rfl,(qC BK238.out 2).trans rfl,(qC BK238.out 3).trans rfl,(qC BK238.out 4).trans rfl,(qC BK257.out 0).trans rfl,(qC BK257.out 1).trans rfl,(qC BK257.out 2).trans rfl,((HB.out.cell (World.block_lt_of_cell? w _ hw258_0)).trans hw258_0),((HB.out.cell (World.block_lt_of_cell? w _ hw258_1)).trans hw258_1),((HB.out.cell (World.block_lt_of_cell? w _ hw258_2)).trans hw258_2)⟩ (fun hHeld=>?_);refine with_tabW impl_GoodLocks.tab10 impl_GoodLocks.bits10 (fun HT_ HW_=>?_);generalize w103.drew=w104 at BK238 BK257 HB hx258_0 hx258_1 hx258_2 hHeld ⊢
                  refine pure_ (i:=0) (N:=some 79) (v:=?_) (a':=?_) #[Y,Z,Z,Z,Z,Z,Z,Z,Z,Z,Z,Z,Z,Z,Z,Z,Z,Z,Z,Z,Z] rfl rfl (any_of HT_.out (by kernel_rfl)) (fun _ _ _ h=>h) (Or.inl ⟨by rfl,?_⟩) ?_ ?_;rotate_left
                  ·intro w';go_simp;with_reducible rfl
                  rotate_left
                  ·simp only [Act.put,sIb,sZ,sS,i64_w,i32_w];rfl
                  refine pure_ (i:=1) (N:=some 80) (v:=?_) (a':=?_) #[Y,Y,Z,Z,Z,Z,Z,Z,Z,Z,Z,Z,Z,Z,Z,Z,Z,Z,Z,Z,Z] rfl rfl (any_of HT_.out (by kernel_rfl)) (fun _ _ _ h=>h) (Or.inl ⟨by rfl,?_⟩) ?_ ?_;rotate_left
                  ·intro w';go_simp;with_reducible rfl
                  rotate_left
                  ·simp only [Act.put,sIb,sZ,sS,i64_w,i32_w];rfl
                  refine pure_ (i:=2) (N:=some 81) (v:=?_) (a':=?_) #[Y,Y,Y,Z,Z,Z,Z,Z,Z,Z,Z,Z,Z,Z,Z,Z,Z,Z,Z,Z,Z] rfl rfl (any_of HT_.out (by kernel_rfl)) (fun _ _ _ h=>h) (Or.inl ⟨by rfl,?_⟩) ?_ ?_;rotate_left
                  ·intro w';go_simp;with_reducible rfl
                  rotate_left
                  ·simp only [Act.put,sIb,sZ,sS,i64_w,i32_w];rfl
                  refine pure_ (i:=3) (N:=some 82) (v:=?_) (a':=?_) #[Y,Y,Y,Y,Z,Z,Z,Z,Z,Z,Z,Z,Z,Z,Z,Z,Z,Z,Z,Z,Z] rfl rfl (any_of HT_.out (by kernel_rfl)) (fun _ _ _ h=>h) (Or.inl ⟨by rfl,?_⟩) ?_ ?_;rotate_left
                  ·intro w';go_simp;with_reducible rfl
                  rotate_left
                  ·simp only [Act.put,sIb,sZ,sS,i64_w,i32_w];rfl
                  refine pure_ (i:=5) (N:=some 84) (v:=?_) (a':=?_) #[Y,Y,Y,Y,Z,Y,Z,Z,Z,Z,Z,Z,Z,Z,Z,Z,Z,Z,Z,Z,Z] rfl rfl (any_of HT_.out (by kernel_rfl)) (fun _ _ _ h=>h) (Or.inl ⟨by rfl,?_⟩) ?_ ?_;rotate_left
                  ·intro w';go_simp;with_reducible rfl
                  rotate_left
                  ·simp only [Act.put,sIb,sZ,sS,i64_w,i32_w];rfl
                  refine pure_ (i:=6) (N:=some 85) (v:=?_) (a':=?_) #[Y,Y,Y,Y,Z,Y,Y,Z,Z,Z,Z,Z,Z,Z,Z,Z,Z,Z,Z,Z,Z] rfl rfl (any_of HT_.out (by kernel_rfl)) (fun _ _ _ h=>h) (Or.inl ⟨by rfl,?_⟩) ?_ ?_;rotate_left
                  ·intro w';go_simp;with_reducible rfl
                  rotate_left
                  ·simp only [Act.put,sIb,sZ,sS,i64_w,i32_w];rfl
                  refine take_ (i:=4) (N:=some 83) (v:=?_) (a':=?_) #[Y,Y,Y,Y,Y,Y,Y,Z,Z,Z,Z,Z,Z,Z,Z,Z,Z,Z,Z,Z,Z] rfl rfl (take_ofW HT_.out HW_.out (by kernel_rfl)) (fun _ _ _ h=>h) (Or.inl ⟨by rfl,?_⟩) hHeld ?_ ?_;rotate_left
                  ·rintro w' ⟨s0,s1,s2,s3,s4,s5,s6,s7,s8,s9,s10⟩;go_simp;with_reducible rfl
                  rotate_left
                  ·simp only [Act.put,sIb,sZ,sS,i64_w,i32_w];rfl
                  refine pure_ (i:=7) (N:=some 86) (v:=?_) (a':=?_) #[Y,Y,Y,Y,Y,Y,Y,Y,Z,Z,Z,Z,Z,Z,Z,Z,Z,Z,Z,Z,Z] rfl rfl (any_of HT_.out (by kernel_rfl)) (fun _ _ _ h=>h) (Or.inl ⟨by rfl,?_⟩) ?_ ?_;rotate_left
                  ·intro w';go_simp;with_reducible rfl
                  rotate_left
                  ·simp only [Act.put,sIb,sZ,sS,i64_w,i32_w];rfl
                  refine take_ (i:=8) (N:=some 87) (v:=?_) (a':=?_) #[Y,Y,Y,Y,Y,Y,Y,Y,Y,Z,Z,Z,Z,Z,Z,Z,Z,Z,Z,Z,Z] rfl rfl (take_ofW HT_.out HW_.out (by kernel_rfl)) (fun _ _ _ h=>h) (Or.inl ⟨by rfl,?_⟩) hHeld ?_ ?_;rotate_left
                  ·rintro w' ⟨s0,s1,s2,s3,s4,s5,s6,s7,s8,s9,s10⟩;go_simp;with_reducible rfl
                  rotate_left
                  ·simp only [Act.put,sIb,sZ,sS,i64_w,i32_w];rfl
                  refine take_ (i:=9) (N:=some 88) (v:=?_) (a':=?_) #[Y,Y,Y,Y,Y,Y,Y,Y,Y,Y,Z,Z,Z,Z,Z,Z,Z,Z,Z,Z,Z] rfl rfl (take_ofW HT_.out HW_.out (by kernel_rfl)) (fun _ _ _ h=>h) (Or.inl ⟨by rfl,?_⟩) hHeld ?_ ?_;rotate_left
                  ·rintro w' ⟨s0,s1,s2,s3,s4,s5,s6,s7,s8,s9,s10⟩;go_simp;with_reducible rfl
                  rotate_left
                  ·simp only [Act.put,sIb,sZ,sS,i64_w,i32_w];rfl
                  refine one_ (i:=10) (N:=some 89) #[Y,Y,Y,Y,Y,Y,Y,Y,Y,Y,Y,Z,Z,Z,Z,Z,Z,Z,Z,Z,Z] rfl rfl (one_of HT_.out (by kernel_rfl)) (by decide) (fun K hK=>?_);refine goes_ Try.func48 (by kernel_rfl) rfl #[.agg #[.int .i64 ((rd_T47 l0_0 (ji77)).f0),.int .i64 ((rd_T47 l0_0 (ji77)).f1),.int .i64 ((rd_T47 l0_0 (ji77)).f2)],.agg #[.int .i64 ((rd_T47 l0_0 x74_3).f0),.int .i64 ((rd_T47 l0_0 x74_3).f1),.int .i64 ((rd_T47 l0_0 x74_3).f2)]] (by rfl) rfl rfl (by (try simp only [mT,mC,mN]);first|done|(simp only [hji77];rfl)|rfl|(simp only [lD,lT];rfl)) ?_;with_reducible refine (impl_compareLocks.calls k3 ((rd_T47 l0_0 (ji77)).f0) ((rd_T47 l0_0 (ji77)).f1) ((rd_T47 l0_0 (ji77)).f2) ((rd_T47 l0_0 x74_3).f0) ((rd_T47 l0_0 x74_3).f1) ((rd_T47 l0_0 x74_3).f2) t259 _ A80.out).mono ?_
                  rintro e w105 ⟨rfl,hb⟩;refine ⟨_,rfl,?_⟩;have n0_:=qK (qB (g:=gb238) (o:=_) (by (with_reducible repeat (first|refine qN ?_ _|refine qW ?_|refine qL ?_ _));exact BK238.out) hb);have n1_:=qK (qB (g:=gb257) (o:=_) (by (with_reducible repeat (first|refine qN ?_ _|refine qW ?_|refine qL ?_ _));exact BK257.out) hb);have n2_:=qK (qT (by repeat (with_reducible first|exact HB.out|apply qA|apply qD|apply qO|refine qS ?_ GE238.out|refine qS ?_ GE257.out)) hb);clear BK238;clear BK257;clear HB;have BK238:=n0_;have BK257:=n1_;have HB:=n2_;clear n0_ n1_ n2_;(try clear hb);have q106:(x74_3:Int)≤((l0_0.length:Int):Int):=of_decide_eq_true (by first|(with_reducible assumption)|assumption);obtain ⟨i0106,hi0106,_,hsz106,_⟩:=info_parts info47;have hroom106:l0_0.length≤c0_0:=HC0_0.out;have hC106:Kd.C k47 _ (some ad256) l0_0.length l0_0:=HR0_0.out;have hcut106:=cut_to (P:=Try.prog) 27 47 .i64 Try.underlying27 hi0106 (some ad256) l0_0.length c0_0 x74_3 (of_decide_eq_true (by first|(with_reducible assumption)|assumption)) q106 hroom106;have hr106:=Kd.C_take (m:=(x74_3:Int).toNat) hC106 (by omega);have hy106:y260.length=(x74_3:Int).toNat:=(by rw [Ny260.out,lT];omega);rw [← Ny260.out] at hr106;rw [← hy106] at hcut106;have HR263:=qK hr106;have HC263:=qK (show y260.length≤c0_0 from by omega);clear hr106 hC106 hroom106 hi0106 hsz106;have KY106:=qK hy106;clear hy106;replace q106:=eq_true q106;refine hK.out _ _ ⟨(qC BK238.out 0).trans rfl,(qC BK238.out 1).trans rfl,(qC BK238.out 2).trans rfl,(qC BK238.out 3).trans rfl,(qC BK238.out 4).trans rfl,(qC BK257.out 0).trans rfl,(qC BK257.out 1).trans rfl,(qC BK257.out 2).trans rfl,((HB.out.cell (World.block_lt_of_cell? w _ hw258_0)).trans hw258_0),((HB.out.cell (World.block_lt_of_cell? w _ hw258_1)).trans hw258_1),((HB.out.cell (World.block_lt_of_cell? w _ hw258_2)).trans hw258_2)⟩ (fun hHeld=>?_);clear hK K;refine norm_ (a':=?_) ?_ ?_;rotate_left
                  ·show Act.put _ (some 89) _=_
                   simp only [Act.put,sIb,sZ,sS,i64_w,i32_w];rfl
                  refine pure_ (i:=11) (N:=some 90) (v:=?_) (a':=?_) #[Y,Y,Y,Y,Y,Y,Y,Y,Y,Y,Y,Y,Z,Z,Z,Z,Z,Z,Z,Z,Z] rfl rfl (any_of HT_.out (by kernel_rfl)) (fun _ _ _ h=>h) (Or.inl ⟨by rfl,?_⟩) ?_ ?_;rotate_left
                  ·intro w';go_simp;with_reducible rfl
                  rotate_left
                  ·simp only [Act.put,sIb,sZ,sS,i64_w,i32_w];rfl
                  refine pure_ (i:=12) (N:=some 91) (v:=?_) (a':=?_) #[Y,Y,Y,Y,Y,Y,Y,Y,Y,Y,Y,Y,Y,Z,Z,Z,Z,Z,Z,Z,Z] rfl rfl (any_of HT_.out (by kernel_rfl)) (fun _ _ _ h=>h) (Or.inl ⟨by rfl,?_⟩) ?_ ?_;rotate_left
                  ·intro w';go_simp;with_reducible rfl
                  rotate_left
                  ·simp only [Act.put,sIb,sZ,sS,i64_w,i32_w];rfl
                  refine pure_ (i:=13) (N:=some 92) (v:=?_) (a':=?_) #[Y,Y,Y,Y,Y,Y,Y,Y,Y,Y,Y,Y,Y,Y,Z,Z,Z,Z,Z,Z,Z] rfl rfl (any_of HT_.out (by kernel_rfl)) (fun _ _ _ h=>h) (Or.inl ⟨by rfl,?_⟩) ?_ ?_;rotate_left
                  ·intro w';go_simp;with_reducible rfl
                  rotate_left
                  ·simp only [Act.put,sIb,sZ,sS,i64_w,i32_w];rfl
                  refine pure_ (i:=14) (N:=some 93) (v:=?_) (a':=?_) #[Y,Y,Y,Y,Y,Y,Y,Y,Y,Y,Y,Y,Y,Y,Y,Z,Z,Z,Z,Z,Z] rfl rfl (any_of HT_.out (by kernel_rfl)) (fun _ _ _ h=>h) (Or.inl ⟨by rfl,?_⟩) ?_ ?_;rotate_left
                  ·intro w';go_simp;with_reducible rfl
                  rotate_left
                  ·simp only [Act.put,sIb,sZ,sS,i64_w,i32_w];rfl
                  refine pure_ (i:=16) (N:=some 95) (v:=?_) (a':=?_) #[Y,Y,Y,Y,Y,Y,Y,Y,Y,Y,Y,Y,Y,Y,Y,Z,Y,Z,Z,Z,Z] rfl rfl (any_of HT_.out (by kernel_rfl)) (fun _ _ _ h=>h) (Or.inl ⟨by rfl,?_⟩) ?_ ?_;rotate_left
                  ·intro w';go_simp;with_reducible rfl
                  rotate_left
                  ·simp only [Act.put,sIb,sZ,sS,i64_w,i32_w];rfl
                  refine pure_ (i:=18) (N:=some 97) (v:=?_) (a':=?_) #[Y,Y,Y,Y,Y,Y,Y,Y,Y,Y,Y,Y,Y,Y,Y,Z,Y,Z,Y,Z,Z] rfl rfl (any_of HT_.out (by kernel_rfl)) (fun _ _ _ h=>h) (Or.inl ⟨by rfl,?_⟩) ?_ ?_;rotate_left
                  ·intro w';go_simp;with_reducible rfl
                  rotate_left
                  ·simp only [Act.put,sIb,sZ,sS,i64_w,i32_w];rfl
                  refine take_ (i:=15) (N:=some 94) (v:=?_) (a':=?_) #[Y,Y,Y,Y,Y,Y,Y,Y,Y,Y,Y,Y,Y,Y,Y,Y,Y,Z,Y,Z,Z] rfl rfl (take_ofW HT_.out HW_.out (by kernel_rfl)) (fun _ _ _ h=>h) (Or.inl ⟨by rfl,?_⟩) hHeld ?_ ?_;rotate_left
                  ·rintro w' ⟨s0,s1,s2,s3,s4,s5,s6,s7,s8,s9,s10⟩;go_simp;with_reducible rfl
                  rotate_left
                  ·simp only [Act.put,sIb,sZ,sS,i64_w,i32_w];rfl
                  refine pure_ (i:=17) (N:=some 96) (v:=?_) (a':=?_) #[Y,Y,Y,Y,Y,Y,Y,Y,Y,Y,Y,Y,Y,Y,Y,Y,Y,Y,Y,Z,Z] rfl rfl (any_of HT_.out (by kernel_rfl)) (fun _ _ _ h=>h) (Or.inl ⟨by rfl,?_⟩) ?_ ?_;rotate_left
                  ·intro w';go_simp;with_reducible rfl
                  rotate_left
                  ·simp only [Act.put,sIb,sZ,sS,i64_w,i32_w];rfl
                  refine one_ (i:=19) (N:=some 98) #[Y,Y,Y,Y,Y,Y,Y,Y,Y,Y,Y,Y,Y,Y,Y,Y,Y,Y,Y,Y,Z] rfl rfl (one_of HT_.out (by kernel_rfl)) (by decide) (fun K hK=>?_);refine goes_ Try.func49 (by kernel_rfl) rfl #[.slice (some ad256) y260.length c0_0,.func (.func 50) #[] #[.pointer (some ⟨gb257,0,none⟩)]] (by rfl) rfl rfl (by (try simp only [mT,mC,mN]);first|done|rfl|(simp only [lD,lT];rfl)) ?_;with_reducible refine (anyf_GoodLocks1.calls _ _ y260 gb257 ((rd_T47 l0_0 x74_3).f0) ((rd_T47 l0_0 x74_3).f1) ((rd_T47 l0_0 x74_3).f2) false _ ?side1 ?side2 ?side3 A90.out).mono ?_
                  (case side1=>repeat (first|exact (cB HR263.out HB.out)|(with_reducible first|refine cL ?_ _|refine cN ?_ _|refine cW ?_)));(case side2=>exact HC263.out);(case side3=>exact (by (with_reducible repeat (first|refine qN ?_ _|refine qW ?_|refine qL ?_ _));exact BK257.out));rintro e w107 ⟨rfl,hb⟩;refine ⟨_,rfl,?_⟩;have n0_:=qK (qB (g:=gb238) (o:=_) (by (with_reducible repeat (first|refine qN ?_ _|refine qW ?_|refine qL ?_ _));exact BK238.out) hb);have n1_:=qK (qB (g:=gb257) (o:=_) (by (with_reducible repeat (first|refine qN ?_ _|refine qW ?_|refine qL ?_ _));exact BK257.out) hb);have n2_:=qK (qT (by repeat (with_reducible first|exact HB.out|apply qA|apply qD|apply qO|refine qS ?_ GE238.out|refine qS ?_ GE257.out)) hb);clear BK238;clear BK257;clear HB;have BK238:=n0_;have BK257:=n1_;have HB:=n2_;clear n0_ n1_ n2_;(try clear hb);refine hK.out _ _ ⟨(qC BK238.out 0).trans rfl,(qC BK238.out 1).trans rfl,(qC BK238.out 2).trans rfl,(qC BK238.out 3).trans rfl,(qC BK238.out 4).trans rfl,(qC BK257.out 0).trans rfl,(qC BK257.out 1).trans rfl,(qC BK257.out 2).trans rfl,((HB.out.cell (World.block_lt_of_cell? w _ hw258_0)).trans hw258_0),((HB.out.cell (World.block_lt_of_cell? w _ hw258_1)).trans hw258_1),((HB.out.cell (World.block_lt_of_cell? w _ hw258_2)).trans hw258_2)⟩ (fun hHeld=>?_);clear hK K;refine norm_ (a':=?_) ?_ ?_;rotate_left
                  ·show Act.put _ (some 98) _=_
                   simp only [Act.put,sIb,sZ,sS,i64_w,i32_w];rfl
                  refine pure_ (i:=20) (N:=some 99) (v:=?_) (a':=?_) #[Y,Y,Y,Y,Y,Y,Y,Y,Y,Y,Y,Y,Y,Y,Y,Y,Y,Y,Y,Y,Y] rfl rfl (any_of HT_.out (by kernel_rfl)) (fun _ _ _ h=>h) (Or.inl ⟨by rfl,?_⟩) ?_ ?_;rotate_left
                  ·intro w';go_simp;with_reducible rfl
                  rotate_left
                  ·simp only [Act.put,sIb,sZ,sS,i64_w,i32_w];rfl
                  refine done_ (done_of HT_.out (by kernel_rfl)) ?_;try go_wp2
                  go_roundg k3
                  case measure=>have:=HJ2.out;have:=HJ44.out;have:=HK3.out;omega
                  case rel=>exact ⟨(wrap64 (x74_3 + 1)),(by first|rfl|(simp;done)|(simp [*];done)),H',⟨by have:=HJ2.out;have:=HJ44.out;have:=HK3.out;omega⟩,⟨by (with_reducible repeat (first|refine qN ?_ _|refine qW ?_|refine qL ?_ _));exact BK238.out⟩,⟨by repeat (first|(with_reducible first|exact HB.out|apply qA|apply qD|apply qO|refine qS ?_ GE238.out|refine qS ?_ GE257.out)|exact HB.out)⟩⟩
                ·rw [if_neg c89] at H;exact absurd H (by simp)
              ·rw [if_neg c79] at H;exact absurd H (by simp)
             ·rw [if_neg c78] at H;exact absurd H (by simp)
            ·rw [if_neg c76] at H;have c76b0:decide (0 < x74_3)=false:=decide_eq_false c76;clear c76;have c108b0:=eq_true (of_decide_eq_true (by first|(with_reducible assumption)|assumption):0≤x74_3);by_cases c109:x74_3≤(l0_0.length:Int)
             ·rw [if_pos c109] at H;have c109b0:=eq_true c109;have c109b1:decide (x74_3≤(l0_0.length:Int))=true:=decide_eq_true c109;clear c109;obtain ⟨y265,hy265⟩:∃ y_:List (S47),y_=(l0_0.take (x74_3:Int).toNat):=⟨_,rfl⟩;replace H:((anyf_GoodLocks1.f y265 ((rd_T47 l0_0 x74_3).f0) ((rd_T47 l0_0 x74_3).f1) ((rd_T47 l0_0 x74_3).f2)).bind fun t269=>(if t269=true then (some false) else (impl_GoodLocks.l0 k3 l0_0 (l0_0.length:Int) (wrap64 (x74_3 + 1)) l0_0 l0_1 l0_2 l0_3 l0_4)))=some r:=by first|(rw [hy265];with_reducible exact H)|(have H2_:=(Option.bind_some _ _).symm.trans H;rw [hy265];with_reducible exact H2_)|(have H2_:=(Option.bind_some _ _).symm.trans H;with_reducible exact H2_)|with_reducible exact H|(rw [hy265];exact H)|exact H
              have Ny265:=qK hy265;clear hy265;replace H:=Option.bind_eq_some_iff.mp H;obtain ⟨t269,A1100,H⟩:=H;replace H:(if t269=true then (some false) else (impl_GoodLocks.l0 k3 l0_0 (l0_0.length:Int) (wrap64 (x74_3 + 1)) l0_0 l0_1 l0_2 l0_3 l0_4))=some r:=H;have A110:=qK A1100;clear A1100;by_cases c111:t269=true
              ·subst c111;have H1:(some false)=some r:=by rw [if_pos rfl] at H;exact H
               clear H;have H:=H1;clear H1;obtain rfl:=Option.some.inj H;have p256:0≤(x74_3:Int):=of_decide_eq_true (by first|(with_reducible assumption)|assumption);have q256:x74_3 < (l0_0.length:Int):=of_decide_eq_true (by first|(with_reducible assumption)|assumption);obtain ⟨ad256,e256,hx256_0,hx256_1,hx256_2⟩:=at_T47 HR0_0.out x74_3 p256 q256;cases e256
               replace hx256_0:=(HB.out.cell (World.block_lt_of_cell? w _ hx256_0)).trans hx256_0;replace hx256_1:=(HB.out.cell (World.block_lt_of_cell? w _ hx256_1)).trans hx256_1;replace hx256_2:=(HB.out.cell (World.block_lt_of_cell? w _ hx256_2)).trans hx256_2;replace p256:=eq_true p256;replace q256:=eq_true q256;try go_wp2_with (first|((with_reducible refine gate_dst (N:=6) rfl ?_);(try (refine gate_guard (by rfl) ?_;dsimp only));refine box_event ?hg (N:=6) ?hd (cs:=#[.int .i64 0,.int .i64 0,.int .i64 0]) (t:=47) ?hr ?_;(case hd=>rfl);(case hg=>rfl);(case hr=>(go_simp;try rfl));intro gb257 hg w112 hbox hb;have n0_:=qK (qB (g:=gb238) (o:=_) (by (with_reducible repeat (first|refine qN ?_ _|refine qW ?_|refine qL ?_ _));exact BK238.out) hb);have n1_:=qK (qT (by repeat (with_reducible first|exact HB.out|apply qA|apply qD|apply qO|refine qS ?_ GE238.out)) hb);have n2_:=qK (hbox);have n3_:=qK ((by rw [hg];exact (qZ (by repeat (with_reducible first|exact HB.out|apply qA|apply qD|apply qO|refine qS ?_ GE238.out))):w.heap.size≤gb257));have n4_:=qK ((by rw [hg];exact (qZ (by repeat (with_reducible first|exact HB.out|apply qA|apply qD|apply qO|refine qS ?_ GE238.out))):w.heap.size≤gb257));have n5_:=qK ((by rw [hg];exact Nat.ne_of_lt (blk_lt (g:=gb238) (o:=_) (by (with_reducible repeat (first|refine qN ?_ _|refine qW ?_|refine qL ?_ _));exact BK238.out)):gb238 ≠ gb257));have n6_:=qK ((by rw [hg];exact Nat.ne_of_gt (blk_lt (g:=gb238) (o:=_) (by (with_reducible repeat (first|refine qN ?_ _|refine qW ?_|refine qL ?_ _));exact BK238.out)):gb257 ≠ gb238));clear BK238;clear HB;have BK238:=n0_;have HB:=n1_;have BK257:=n2_;have GW257:=n3_;have GE257:=n4_;have NB238_257:=n5_;have NB257_238:=n6_;clear n0_ n1_ n2_ n3_ n4_ n5_ n6_;clear hb hbox hg;have hnb113:=NB257_238.out;have hnc113:=NB238_257.out;have hcz114_0:w112.cell? ⟨gb257,0,none⟩=some (.int .i64 0):=(qC BK257.out 0).trans rfl;have hcz114_1:w112.cell? ⟨gb257,1,none⟩=some (.int .i64 0):=(qC BK257.out 1).trans rfl;have hcz114_2:w112.cell? ⟨gb257,2,none⟩=some (.int .i64 0):=(qC BK257.out 2).trans rfl;have hfz114_0:=qF BK257.out 0;have hfz114_1:=qF BK257.out 1;have hfz114_2:=qF BK257.out 2))
               have n0_:Aside0 ((((w112.setCell ⟨gb257,0,none⟩ (.int .i64 ((rd_T47 l0_0 x74_3).f0))).setCell ⟨gb257,1,none⟩ (.int .i64 ((rd_T47 l0_0 x74_3).f1))).setCell ⟨gb257,2,none⟩ (.int .i64 ((rd_T47 l0_0 x74_3).f2))).heap[gb238]?=some (.cells #[.slice (some ad256) l0_0.length c0_0,.slice A0_1 l0_1.length c0_1,.slice A0_2 l0_2.length c0_2,.slice A0_3 l0_3.length c0_3,.slice A0_4 l0_4.length c0_4] 31 (0,0))):=⟨by (with_reducible repeat (first|refine qN ?_ _|refine qW ?_|refine qL ?_ _));refine qR ?_ NB238_257.out _;(with_reducible repeat (first|refine qN ?_ _|refine qW ?_|refine qL ?_ _));refine qR ?_ NB238_257.out _;(with_reducible repeat (first|refine qN ?_ _|refine qW ?_|refine qL ?_ _));refine qR ?_ NB238_257.out _;(with_reducible repeat (first|refine qN ?_ _|refine qW ?_|refine qL ?_ _));exact BK238.out⟩;have n1_:Aside0 ((((w112.setCell ⟨gb257,0,none⟩ (.int .i64 ((rd_T47 l0_0 x74_3).f0))).setCell ⟨gb257,1,none⟩ (.int .i64 ((rd_T47 l0_0 x74_3).f1))).setCell ⟨gb257,2,none⟩ (.int .i64 ((rd_T47 l0_0 x74_3).f2))).heap[gb257]?=some (.cells #[.int .i64 ((rd_T47 l0_0 x74_3).f0),.int .i64 ((rd_T47 l0_0 x74_3).f1),.int .i64 ((rd_T47 l0_0 x74_3).f2)] 47 (0,0))):=⟨by (with_reducible repeat (first|refine qN ?_ _|refine qW ?_|refine qL ?_ _));refine qP (cs:=#[.int .i64 ((rd_T47 l0_0 x74_3).f0),.int .i64 ((rd_T47 l0_0 x74_3).f1),.int .i64 0]) ?_ 2 _ rfl;(with_reducible repeat (first|refine qN ?_ _|refine qW ?_|refine qL ?_ _));refine qP (cs:=#[.int .i64 ((rd_T47 l0_0 x74_3).f0),.int .i64 0,.int .i64 0]) ?_ 1 _ rfl;(with_reducible repeat (first|refine qN ?_ _|refine qW ?_|refine qL ?_ _));refine qP (cs:=#[.int .i64 0,.int .i64 0,.int .i64 0]) ?_ 0 _ rfl;(with_reducible repeat (first|refine qN ?_ _|refine qW ?_|refine qL ?_ _));exact BK257.out⟩;have n2_:Aside0 (Below w.heap.size w (((w112.setCell ⟨gb257,0,none⟩ (.int .i64 ((rd_T47 l0_0 x74_3).f0))).setCell ⟨gb257,1,none⟩ (.int .i64 ((rd_T47 l0_0 x74_3).f1))).setCell ⟨gb257,2,none⟩ (.int .i64 ((rd_T47 l0_0 x74_3).f2)))):=⟨by repeat (first|(with_reducible first|exact HB.out|apply qA|apply qD|apply qO|refine qS ?_ GE238.out|refine qS ?_ GE257.out)|exact HB.out)⟩;(try clear BK238);(try clear BK257);(try clear HB);generalize (((w112.setCell ⟨gb257,0,none⟩ (.int .i64 ((rd_T47 l0_0 x74_3).f0))).setCell ⟨gb257,1,none⟩ (.int .i64 ((rd_T47 l0_0 x74_3).f1))).setCell ⟨gb257,2,none⟩ (.int .i64 ((rd_T47 l0_0 x74_3).f2)))=w115 at n0_ n1_ n2_ ⊢
               have BK238:=n0_;have BK257:=n1_;have HB:=n2_;clear n0_ n1_ n2_;have n0_:=qK (qW BK238.out);have n1_:=qK (qW BK257.out);have n2_:=qK (qO HB.out);clear BK238;clear BK257;clear HB;have BK238:=n0_;have BK257:=n1_;have HB:=n2_;clear n0_ n1_ n2_;have q117:(x74_3:Int)≤((l0_0.length:Int):Int):=of_decide_eq_true (by first|(with_reducible assumption)|assumption);obtain ⟨i0117,hi0117,_,hsz117,_⟩:=info_parts info47;have hroom117:l0_0.length≤c0_0:=HC0_0.out;have hC117:Kd.C k47 _ (some ad256) l0_0.length l0_0:=HR0_0.out;have hcut117:=cut_to (P:=Try.prog) 27 47 .i64 Try.underlying27 hi0117 (some ad256) l0_0.length c0_0 x74_3 (of_decide_eq_true (by first|(with_reducible assumption)|assumption)) q117 hroom117;have hr117:=Kd.C_take (m:=(x74_3:Int).toNat) hC117 (by omega);have hy117:y265.length=(x74_3:Int).toNat:=(by rw [Ny265.out,lT];omega);rw [← Ny265.out] at hr117;rw [← hy117] at hcut117;have HR268:=qK hr117;have HC268:=qK (show y265.length≤c0_0 from by omega);clear hr117 hC117 hroom117 hi0117 hsz117;have KY117:=qK hy117;clear hy117;replace q117:=eq_true q117;refine start_ (n:=21) (S:=fun w'=>w'.cell? ⟨gb238,0,none⟩=some (.slice (some ad256) l0_0.length c0_0)∧w'.cell? ⟨gb238,1,none⟩=some (.slice A0_1 l0_1.length c0_1)∧w'.cell? ⟨gb238,2,none⟩=some (.slice A0_2 l0_2.length c0_2)∧w'.cell? ⟨gb238,3,none⟩=some (.slice A0_3 l0_3.length c0_3)∧w'.cell? ⟨gb238,4,none⟩=some (.slice A0_4 l0_4.length c0_4)) (ds:=[]) #[Z,Z,Z,Z,Z,Z,Z,Z,Z,Z,Z,Z,Z,Z,Z,Z,Z,Z,Z,Z,Z] (by kernel_rfl) rfl rfl ⟨(qC BK238.out 0).trans rfl,(qC BK238.out 1).trans rfl,(qC BK238.out 2).trans rfl,(qC BK238.out 3).trans rfl,(qC BK238.out 4).trans rfl⟩ (fun hHeld=>?_);refine with_tabW impl_GoodLocks.tab10 impl_GoodLocks.bits10 (fun HT_ HW_=>?_);generalize w115.drew=w116 at BK238 BK257 HB HR268 hHeld ⊢
               refine pure_ (i:=0) (N:=some 79) (v:=?_) (a':=?_) #[Y,Z,Z,Z,Z,Z,Z,Z,Z,Z,Z,Z,Z,Z,Z,Z,Z,Z,Z,Z,Z] rfl rfl (any_of HT_.out (by kernel_rfl)) (fun _ _ _ h=>h) (Or.inl ⟨by rfl,?_⟩) ?_ ?_;rotate_left
               ·intro w';go_simp;with_reducible rfl
               rotate_left
               ·simp only [Act.put,sIb,sZ,sS,i64_w,i32_w];rfl
               refine pure_ (i:=1) (N:=some 80) (v:=?_) (a':=?_) #[Y,Y,Z,Z,Z,Z,Z,Z,Z,Z,Z,Z,Z,Z,Z,Z,Z,Z,Z,Z,Z] rfl rfl (any_of HT_.out (by kernel_rfl)) (fun _ _ _ h=>h) (Or.inl ⟨by rfl,?_⟩) ?_ ?_;rotate_left
               ·intro w';go_simp;with_reducible rfl
               rotate_left
               ·simp only [Act.put,sIb,sZ,sS,i64_w,i32_w];rfl
               refine pure_ (i:=2) (N:=some 81) (v:=?_) (a':=?_) #[Y,Y,Y,Z,Z,Z,Z,Z,Z,Z,Z,Z,Z,Z,Z,Z,Z,Z,Z,Z,Z] rfl rfl (any_of HT_.out (by kernel_rfl)) (fun _ _ _ h=>h) (Or.inl ⟨by rfl,?_⟩) ?_ ?_;rotate_left
               ·intro w';go_simp;with_reducible rfl
               rotate_left
               ·simp only [Act.put,sIb,sZ,sS,i64_w,i32_w];rfl
               refine pure_ (i:=3) (N:=some 82) (v:=undef) (a':=?_) #[Y,Y,Y,Y,Z,Z,Z,Z,Z,Z,Z,Z,Z,Z,Z,Z,Z,Z,Z,Z,Z] rfl rfl (any_of HT_.out (by kernel_rfl)) (fun _ _ _ h=>h) (Or.inr ⟨by rfl,rfl⟩) ?_ ?_;rotate_left
               ·simp only [Act.put,sIb,sZ,sS,i64_w,i32_w];rfl
               refine pure_ (i:=4) (N:=some 83) (v:=undef) (a':=?_) #[Y,Y,Y,Y,Y,Z,Z,Z,Z,Z,Z,Z,Z,Z,Z,Z,Z,Z,Z,Z,Z] rfl rfl (any_of HT_.out (by kernel_rfl)) (fun _ _ _ h=>h) (Or.inr ⟨by rfl,rfl⟩) ?_ ?_;rotate_left
               ·simp only [Act.put,sIb,sZ,sS,i64_w,i32_w];rfl
               refine pure_ (i:=5) (N:=some 84) (v:=undef) (a':=?_) #[Y,Y,Y,Y,Y,Y,Z,Z,Z,Z,Z,Z,Z,Z,Z,Z,Z,Z,Z,Z,Z] rfl rfl (any_of HT_.out (by kernel_rfl)) (fun _ _ _ h=>h) (Or.inr ⟨by rfl,rfl⟩) ?_ ?_;rotate_left
               ·simp only [Act.put,sIb,sZ,sS,i64_w,i32_w];rfl
               refine pure_ (i:=6) (N:=some 85) (v:=undef) (a':=?_) #[Y,Y,Y,Y,Y,Y,Y,Z,Z,Z,Z,Z,Z,Z,Z,Z,Z,Z,Z,Z,Z] rfl rfl (any_of HT_.out (by kernel_rfl)) (fun _ _ _ h=>h) (Or.inr ⟨by rfl,rfl⟩) ?_ ?_;rotate_left
               ·simp only [Act.put,sIb,sZ,sS,i64_w,i32_w];rfl
               refine pure_ (i:=7) (N:=some 86) (v:=undef) (a':=?_) #[Y,Y,Y,Y,Y,Y,Y,Y,Z,Z,Z,Z,Z,Z,Z,Z,Z,Z,Z,Z,Z] rfl rfl (any_of HT_.out (by kernel_rfl)) (fun _ _ _ h=>h) (Or.inr ⟨by rfl,rfl⟩) ?_ ?_;rotate_left
               ·simp only [Act.put,sIb,sZ,sS,i64_w,i32_w];rfl
               refine pure_ (i:=8) (N:=some 87) (v:=undef) (a':=?_) #[Y,Y,Y,Y,Y,Y,Y,Y,Y,Z,Z,Z,Z,Z,Z,Z,Z,Z,Z,Z,Z] rfl rfl (any_of HT_.out (by kernel_rfl)) (fun _ _ _ h=>h) (Or.inr ⟨by rfl,rfl⟩) ?_ ?_;rotate_left
               ·simp only [Act.put,sIb,sZ,sS,i64_w,i32_w];rfl
               refine pure_ (i:=9) (N:=some 88) (v:=undef) (a':=?_) #[Y,Y,Y,Y,Y,Y,Y,Y,Y,Y,Z,Z,Z,Z,Z,Z,Z,Z,Z,Z,Z] rfl rfl (any_of HT_.out (by kernel_rfl)) (fun _ _ _ h=>h) (Or.inr ⟨by rfl,rfl⟩) ?_ ?_;rotate_left
               ·simp only [Act.put,sIb,sZ,sS,i64_w,i32_w];rfl
               refine pure_ (i:=10) (N:=some 89) (v:=undef) (a':=?_) #[Y,Y,Y,Y,Y,Y,Y,Y,Y,Y,Y,Z,Z,Z,Z,Z,Z,Z,Z,Z,Z] rfl rfl (any_of HT_.out (by kernel_rfl)) (fun _ _ _ h=>h) (Or.inr ⟨by rfl,rfl⟩) ?_ ?_;rotate_left
               ·simp only [Act.put,sIb,sZ,sS,i64_w,i32_w];rfl
               refine pure_ (i:=11) (N:=some 90) (v:=undef) (a':=?_) #[Y,Y,Y,Y,Y,Y,Y,Y,Y,Y,Y,Y,Z,Z,Z,Z,Z,Z,Z,Z,Z] rfl rfl (any_of HT_.out (by kernel_rfl)) (fun _ _ _ h=>h) (Or.inr ⟨by rfl,rfl⟩) ?_ ?_;rotate_left
               ·simp only [Act.put,sIb,sZ,sS,i64_w,i32_w];rfl
               refine pure_ (i:=12) (N:=some 91) (v:=?_) (a':=?_) #[Y,Y,Y,Y,Y,Y,Y,Y,Y,Y,Y,Y,Y,Z,Z,Z,Z,Z,Z,Z,Z] rfl rfl (any_of HT_.out (by kernel_rfl)) (fun _ _ _ h=>h) (Or.inl ⟨by rfl,?_⟩) ?_ ?_;rotate_left
               ·intro w';go_simp;with_reducible rfl
               rotate_left
               ·simp only [Act.put,sIb,sZ,sS,i64_w,i32_w];rfl
               refine pure_ (i:=13) (N:=some 92) (v:=?_) (a':=?_) #[Y,Y,Y,Y,Y,Y,Y,Y,Y,Y,Y,Y,Y,Y,Z,Z,Z,Z,Z,Z,Z] rfl rfl (any_of HT_.out (by kernel_rfl)) (fun _ _ _ h=>h) (Or.inl ⟨by rfl,?_⟩) ?_ ?_;rotate_left
               ·intro w';go_simp;with_reducible rfl
               rotate_left
               ·simp only [Act.put,sIb,sZ,sS,i64_w,i32_w];rfl
               refine pure_ (i:=14) (N:=some 93) (v:=?_) (a':=?_) #[Y,Y,Y,Y,Y,Y,Y,Y,Y,Y,Y,Y,Y,Y,Y,Z,Z,Z,Z,Z,Z] rfl rfl (any_of HT_.out (by kernel_rfl)) (fun _ _ _ h=>h) (Or.inl ⟨by rfl,?_⟩) ?_ ?_;rotate_left
               ·intro w';go_simp;with_reducible rfl
               rotate_left
               ·simp only [Act.put,sIb,sZ,sS,i64_w,i32_w];rfl
               refine pure_ (i:=16) (N:=some 95) (v:=?_) (a':=?_) #[Y,Y,Y,Y,Y,Y,Y,Y,Y,Y,Y,Y,Y,Y,Y,Z,Y,Z,Z,Z,Z] rfl rfl (any_of HT_.out (by kernel_rfl)) (fun _ _ _ h=>h) (Or.inl ⟨by rfl,?_⟩) ?_ ?_;rotate_left
               ·intro w';go_simp;with_reducible rfl
               rotate_left
               ·simp only [Act.put,sIb,sZ,sS,i64_w,i32_w];rfl
               refine pure_ (i:=18) (N:=some 97) (v:=?_) (a':=?_) #[Y,Y,Y,Y,Y,Y,Y,Y,Y,Y,Y,Y,Y,Y,Y,Z,Y,Z,Y,Z,Z] rfl rfl (any_of HT_.out (by kernel_rfl)) (fun _ _ _ h=>h) (Or.inl ⟨by rfl,?_⟩) ?_ ?_;rotate_left
               ·intro w';go_simp;with_reducible rfl
               rotate_left
               ·simp only [Act.put,sIb,sZ,sS,i64_w,i32_w];rfl
               refine take_ (i:=15) (N:=some 94) (v:=?_) (a':=?_) #[Y,Y,Y,Y,Y,Y,Y,Y,Y,Y,Y,Y,Y,Y,Y,Y,Y,Z,Y,Z,Z] rfl rfl (take_ofW HT_.out HW_.out (by kernel_rfl)) (fun _ _ _ h=>h) (Or.inl ⟨by rfl,?_⟩) hHeld ?_ ?_;rotate_left
               ·rintro w' ⟨s0,s1,s2,s3,s4⟩;go_simp;with_reducible rfl
               rotate_left
               ·simp only [Act.put,sIb,sZ,sS,i64_w,i32_w];rfl
               refine pure_ (i:=17) (N:=some 96) (v:=?_) (a':=?_) #[Y,Y,Y,Y,Y,Y,Y,Y,Y,Y,Y,Y,Y,Y,Y,Y,Y,Y,Y,Z,Z] rfl rfl (any_of HT_.out (by kernel_rfl)) (fun _ _ _ h=>h) (Or.inl ⟨by rfl,?_⟩) ?_ ?_;rotate_left
               ·intro w';go_simp;with_reducible rfl
               rotate_left
               ·simp only [Act.put,sIb,sZ,sS,i64_w,i32_w];rfl
               refine one_ (i:=19) (N:=some 98) #[Y,Y,Y,Y,Y,Y,Y,Y,Y,Y,Y,Y,Y,Y,Y,Y,Y,Y,Y,Y,Z] rfl rfl (one_of HT_.out (by kernel_rfl)) (by decide) (fun K hK=>?_);refine goes_ Try.func49 (by kernel_rfl) rfl #[.slice (some ad256) y265.length c0_0,.func (.func 50) #[] #[.pointer (some ⟨gb257,0,none⟩)]] (by rfl) rfl rfl (by (try simp only [mT,mC,mN]);first|done|rfl|(simp only [lD,lT];rfl)) ?_;with_reducible refine (anyf_GoodLocks1.calls _ _ y265 gb257 ((rd_T47 l0_0 x74_3).f0) ((rd_T47 l0_0 x74_3).f1) ((rd_T47 l0_0 x74_3).f2) true _ ?side1 ?side2 ?side3 A110.out).mono ?_
               (case side1=>repeat (first|exact (cB HR268.out HB.out)|(with_reducible first|refine cL ?_ _|refine cN ?_ _|refine cW ?_)));(case side2=>exact HC268.out);(case side3=>exact (by (with_reducible repeat (first|refine qN ?_ _|refine qW ?_|refine qL ?_ _));exact BK257.out));rintro e w118 ⟨rfl,hb⟩;refine ⟨_,rfl,?_⟩;have n0_:=qK (qB (g:=gb238) (o:=_) (by (with_reducible repeat (first|refine qN ?_ _|refine qW ?_|refine qL ?_ _));exact BK238.out) hb);have n1_:=qK (qB (g:=gb257) (o:=_) (by (with_reducible repeat (first|refine qN ?_ _|refine qW ?_|refine qL ?_ _));exact BK257.out) hb);have n2_:=qK (qT (by repeat (with_reducible first|exact HB.out|apply qA|apply qD|apply qO|refine qS ?_ GE238.out|refine qS ?_ GE257.out)) hb);clear BK238;clear BK257;clear HB;have BK238:=n0_;have BK257:=n1_;have HB:=n2_;clear n0_ n1_ n2_;(try clear hb);refine hK.out _ _ ⟨(qC BK238.out 0).trans rfl,(qC BK238.out 1).trans rfl,(qC BK238.out 2).trans rfl,(qC BK238.out 3).trans rfl,(qC BK238.out 4).trans rfl⟩ (fun hHeld=>?_);clear hK K;refine norm_ (a':=?_) ?_ ?_;rotate_left
               ·show Act.put _ (some 98) _=_
                simp only [Act.put,sIb,sZ,sS,i64_w,i32_w];rfl
               refine pure_ (i:=20) (N:=some 99) (v:=?_) (a':=?_) #[Y,Y,Y,Y,Y,Y,Y,Y,Y,Y,Y,Y,Y,Y,Y,Y,Y,Y,Y,Y,Y] rfl rfl (any_of HT_.out (by kernel_rfl)) (fun _ _ _ h=>h) (Or.inl ⟨by rfl,?_⟩) ?_ ?_;rotate_left
               ·intro w';go_simp;with_reducible rfl
               rotate_left
               ·simp only [Act.put,sIb,sZ,sS,i64_w,i32_w];rfl
               refine done_ (done_of HT_.out (by kernel_rfl)) ?_;try go_wp2
               go_ret
               exact ⟨by first|rfl|(simp [errW_none,errW_some] <;> rfl)|(simp [*,errW_none,errW_some] <;> rfl),by repeat (first|(with_reducible first|exact HB.out|apply qA|apply qD|apply qO|refine qS ?_ GE238.out|refine qS ?_ GE257.out)|exact HB.out)⟩
              ·replace c111:=Bool.eq_false_iff.mpr c111;subst c111;have H1:(impl_GoodLocks.l0 k3 l0_0 (l0_0.length:Int) (wrap64 (x74_3 + 1)) l0_0 l0_1 l0_2 l0_3 l0_4)=some r:=by rw [if_neg (show ¬ (false=true) by decide)] at H;exact H
               clear H;have H:=H1;clear H1;have H':=qK H;clear H;have p256:0≤(x74_3:Int):=of_decide_eq_true (by first|(with_reducible assumption)|assumption);have q256:x74_3 < (l0_0.length:Int):=of_decide_eq_true (by first|(with_reducible assumption)|assumption);obtain ⟨ad256,e256,hx256_0,hx256_1,hx256_2⟩:=at_T47 HR0_0.out x74_3 p256 q256;cases e256
               replace hx256_0:=(HB.out.cell (World.block_lt_of_cell? w _ hx256_0)).trans hx256_0;replace hx256_1:=(HB.out.cell (World.block_lt_of_cell? w _ hx256_1)).trans hx256_1;replace hx256_2:=(HB.out.cell (World.block_lt_of_cell? w _ hx256_2)).trans hx256_2;replace p256:=eq_true p256;replace q256:=eq_true q256;try go_wp2_with (first|((with_reducible refine gate_dst (N:=6) rfl ?_);(try (refine gate_guard (by rfl) ?_;dsimp only));refine box_event ?hg (N:=6) ?hd (cs:=#[.int .i64 0,.int .i64 0,.int .i64 0]) (t:=47) ?hr ?_;(case hd=>rfl);(case hg=>rfl);(case hr=>(go_simp;try rfl));intro gb257 hg w119 hbox hb;have n0_:=qK (qB (g:=gb238) (o:=_) (by (with_reducible repeat (first|refine qN ?_ _|refine qW ?_|refine qL ?_ _));exact BK238.out) hb);have n1_:=qK (qT (by repeat (with_reducible first|exact HB.out|apply qA|apply qD|apply qO|refine qS ?_ GE238.out)) hb);have n2_:=qK (hbox);have n3_:=qK ((by rw [hg];exact (qZ (by repeat (with_reducible first|exact HB.out|apply qA|apply qD|apply qO|refine qS ?_ GE238.out))):w.heap.size≤gb257));have n4_:=qK ((by rw [hg];exact (qZ (by repeat (with_reducible first|exact HB.out|apply qA|apply qD|apply qO|refine qS ?_ GE238.out))):w.heap.size≤gb257));have n5_:=qK ((by rw [hg];exact Nat.ne_of_lt (blk_lt (g:=gb238) (o:=_) (by (with_reducible repeat (first|refine qN ?_ _|refine qW ?_|refine qL ?_ _));exact BK238.out)):gb238 ≠ gb257));have n6_:=qK ((by rw [hg];exact Nat.ne_of_gt (blk_lt (g:=gb238) (o:=_) (by (with_reducible repeat (first|refine qN ?_ _|refine qW ?_|refine qL ?_ _));exact BK238.out)):gb257 ≠ gb238));clear BK238;clear HB;have BK238:=n0_;have HB:=n1_;have BK257:=n2_;have GW257:=n3_;have GE257:=n4_;have NB238_257:=n5_;have NB257_238:=n6_;clear n0_ n1_ n2_ n3_ n4_ n5_ n6_;clear hb hbox hg;have hnb120:=NB257_238.out;have hnc120:=NB238_257.out;have hcz121_0:w119.cell? ⟨gb257,0,none⟩=some (.int .i64 0):=(qC BK257.out 0).trans rfl;have hcz121_1:w119.cell? ⟨gb257,1,none⟩=some (.int .i64 0):=(qC BK257.out 1).trans rfl;have hcz121_2:w119.cell? ⟨gb257,2,none⟩=some (.int .i64 0):=(qC BK257.out 2).trans rfl;have hfz121_0:=qF BK257.out 0;have hfz121_1:=qF BK257.out 1;have hfz121_2:=qF BK257.out 2))
               have n0_:Aside0 ((((w119.setCell ⟨gb257,0,none⟩ (.int .i64 ((rd_T47 l0_0 x74_3).f0))).setCell ⟨gb257,1,none⟩ (.int .i64 ((rd_T47 l0_0 x74_3).f1))).setCell ⟨gb257,2,none⟩ (.int .i64 ((rd_T47 l0_0 x74_3).f2))).heap[gb238]?=some (.cells #[.slice (some ad256) l0_0.length c0_0,.slice A0_1 l0_1.length c0_1,.slice A0_2 l0_2.length c0_2,.slice A0_3 l0_3.length c0_3,.slice A0_4 l0_4.length c0_4] 31 (0,0))):=⟨by (with_reducible repeat (first|refine qN ?_ _|refine qW ?_|refine qL ?_ _));refine qR ?_ NB238_257.out _;(with_reducible repeat (first|refine qN ?_ _|refine qW ?_|refine qL ?_ _));refine qR ?_ NB238_257.out _;(with_reducible repeat (first|refine qN ?_ _|refine qW ?_|refine qL ?_ _));refine qR ?_ NB238_257.out _;(with_reducible repeat (first|refine qN ?_ _|refine qW ?_|refine qL ?_ _));exact BK238.out⟩;have n1_:Aside0 ((((w119.setCell ⟨gb257,0,none⟩ (.int .i64 ((rd_T47 l0_0 x74_3).f0))).setCell ⟨gb257,1,none⟩ (.int .i64 ((rd_T47 l0_0 x74_3).f1))).setCell ⟨gb257,2,none⟩ (.int .i64 ((rd_T47 l0_0 x74_3).f2))).heap[gb257]?=some (.cells #[.int .i64 ((rd_T47 l0_0 x74_3).f0),.int .i64 ((rd_T47 l0_0 x74_3).f1),.int .i64 ((rd_T47 l0_0 x74_3).f2)] 47 (0,0))):=⟨by (with_reducible repeat (first|refine qN ?_ _|refine qW ?_|refine qL ?_ _));refine qP (cs:=#[.int .i64 ((rd_T47 l0_0 x74_3).f0),.int .i64 ((rd_T47 l0_0 x74_3).f1),.int .i64 0]) ?_ 2 _ rfl;(with_reducible repeat (first|refine qN ?_ _|refine qW ?_|refine qL ?_ _));refine qP (cs:=#[.int .i64 ((rd_T47 l0_0 x74_3).f0),.int .i64 0,.int .i64 0]) ?_ 1 _ rfl;(with_reducible repeat (first|refine qN ?_ _|refine qW ?_|refine qL ?_ _));refine qP (cs:=#[.int .i64 0,.int .i64 0,.int .i64 0]) ?_ 0 _ rfl;(with_reducible repeat (first|refine qN ?_ _|refine qW ?_|refine qL ?_ _));exact BK257.out⟩;have n2_:Aside0 (Below w.heap.size w (((w119.setCell ⟨gb257,0,none⟩ (.int .i64 ((rd_T47 l0_0 x74_3).f0))).setCell ⟨gb257,1,none⟩ (.int .i64 ((rd_T47 l0_0 x74_3).f1))).setCell ⟨gb257,2,none⟩ (.int .i64 ((rd_T47 l0_0 x74_3).f2)))):=⟨by repeat (first|(with_reducible first|exact HB.out|apply qA|apply qD|apply qO|refine qS ?_ GE238.out|refine qS ?_ GE257.out)|exact HB.out)⟩;(try clear BK238);(try clear BK257);(try clear HB);generalize (((w119.setCell ⟨gb257,0,none⟩ (.int .i64 ((rd_T47 l0_0 x74_3).f0))).setCell ⟨gb257,1,none⟩ (.int .i64 ((rd_T47 l0_0 x74_3).f1))).setCell ⟨gb257,2,none⟩ (.int .i64 ((rd_T47 l0_0 x74_3).f2)))=w122 at n0_ n1_ n2_ ⊢
               have BK238:=n0_;have BK257:=n1_;have HB:=n2_;clear n0_ n1_ n2_;have n0_:=qK (qW BK238.out);have n1_:=qK (qW BK257.out);have n2_:=qK (qO HB.out);clear BK238;clear BK257;clear HB;have BK238:=n0_;have BK257:=n1_;have HB:=n2_;clear n0_ n1_ n2_;have q124:(x74_3:Int)≤((l0_0.length:Int):Int):=of_decide_eq_true (by first|(with_reducible assumption)|assumption);obtain ⟨i0124,hi0124,_,hsz124,_⟩:=info_parts info47;have hroom124:l0_0.length≤c0_0:=HC0_0.out;have hC124:Kd.C k47 _ (some ad256) l0_0.length l0_0:=HR0_0.out;have hcut124:=cut_to (P:=Try.prog) 27 47 .i64 Try.underlying27 hi0124 (some ad256) l0_0.length c0_0 x74_3 (of_decide_eq_true (by first|(with_reducible assumption)|assumption)) q124 hroom124;have hr124:=Kd.C_take (m:=(x74_3:Int).toNat) hC124 (by omega);have hy124:y265.length=(x74_3:Int).toNat:=(by rw [Ny265.out,lT];omega);rw [← Ny265.out] at hr124;rw [← hy124] at hcut124;have HR268:=qK hr124;have HC268:=qK (show y265.length≤c0_0 from by omega);clear hr124 hC124 hroom124 hi0124 hsz124;have KY124:=qK hy124;clear hy124;replace q124:=eq_true q124;refine start_ (n:=21) (S:=fun w'=>w'.cell? ⟨gb238,0,none⟩=some (.slice (some ad256) l0_0.length c0_0)∧w'.cell? ⟨gb238,1,none⟩=some (.slice A0_1 l0_1.length c0_1)∧w'.cell? ⟨gb238,2,none⟩=some (.slice A0_2 l0_2.length c0_2)∧w'.cell? ⟨gb238,3,none⟩=some (.slice A0_3 l0_3.length c0_3)∧w'.cell? ⟨gb238,4,none⟩=some (.slice A0_4 l0_4.length c0_4)) (ds:=[]) #[Z,Z,Z,Z,Z,Z,Z,Z,Z,Z,Z,Z,Z,Z,Z,Z,Z,Z,Z,Z,Z] (by kernel_rfl) rfl rfl ⟨(qC BK238.out 0).trans rfl,(qC BK238.out 1).trans rfl,(qC BK238.out 2).trans rfl,(qC BK238.out 3).trans rfl,(qC BK238.out 4).trans rfl⟩ (fun hHeld=>?_);refine with_tabW impl_GoodLocks.tab10 impl_GoodLocks.bits10 (fun HT_ HW_=>?_);generalize w122.drew=w123 at BK238 BK257 HB HR268 hHeld ⊢
               refine pure_ (i:=0) (N:=some 79) (v:=?_) (a':=?_) #[Y,Z,Z,Z,Z,Z,Z,Z,Z,Z,Z,Z,Z,Z,Z,Z,Z,Z,Z,Z,Z] rfl rfl (any_of HT_.out (by kernel_rfl)) (fun _ _ _ h=>h) (Or.inl ⟨by rfl,?_⟩) ?_ ?_;rotate_left
               ·intro w';go_simp;with_reducible rfl
               rotate_left
               ·simp only [Act.put,sIb,sZ,sS,i64_w,i32_w];rfl
               refine pure_ (i:=1) (N:=some 80) (v:=?_) (a':=?_) #[Y,Y,Z,Z,Z,Z,Z,Z,Z,Z,Z,Z,Z,Z,Z,Z,Z,Z,Z,Z,Z] rfl rfl (any_of HT_.out (by kernel_rfl)) (fun _ _ _ h=>h) (Or.inl ⟨by rfl,?_⟩) ?_ ?_;rotate_left
               ·intro w';go_simp;with_reducible rfl
               rotate_left
               ·simp only [Act.put,sIb,sZ,sS,i64_w,i32_w];rfl
               refine pure_ (i:=2) (N:=some 81) (v:=?_) (a':=?_) #[Y,Y,Y,Z,Z,Z,Z,Z,Z,Z,Z,Z,Z,Z,Z,Z,Z,Z,Z,Z,Z] rfl rfl (any_of HT_.out (by kernel_rfl)) (fun _ _ _ h=>h) (Or.inl ⟨by rfl,?_⟩) ?_ ?_;rotate_left
               ·intro w';go_simp;with_reducible rfl
               rotate_left
               ·simp only [Act.put,sIb,sZ,sS,i64_w,i32_w];rfl
               refine pure_ (i:=3) (N:=some 82) (v:=undef) (a':=?_) #[Y,Y,Y,Y,Z,Z,Z,Z,Z,Z,Z,Z,Z,Z,Z,Z,Z,Z,Z,Z,Z] rfl rfl (any_of HT_.out (by kernel_rfl)) (fun _ _ _ h=>h) (Or.inr ⟨by rfl,rfl⟩) ?_ ?_;rotate_left
               ·simp only [Act.put,sIb,sZ,sS,i64_w,i32_w];rfl
               refine pure_ (i:=4) (N:=some 83) (v:=undef) (a':=?_) #[Y,Y,Y,Y,Y,Z,Z,Z,Z,Z,Z,Z,Z,Z,Z,Z,Z,Z,Z,Z,Z] rfl rfl (any_of HT_.out (by kernel_rfl)) (fun _ _ _ h=>h) (Or.inr ⟨by rfl,rfl⟩) ?_ ?_;rotate_left
               ·simp only [Act.put,sIb,sZ,sS,i64_w,i32_w];rfl
               refine pure_ (i:=5) (N:=some 84) (v:=undef) (a':=?_) #[Y,Y,Y,Y,Y,Y,Z,Z,Z,Z,Z,Z,Z,Z,Z,Z,Z,Z,Z,Z,Z] rfl rfl (any_of HT_.out (by kernel_rfl)) (fun _ _ _ h=>h) (Or.inr ⟨by rfl,rfl⟩) ?_ ?_;rotate_left
               ·simp only [Act.put,sIb,sZ,sS,i64_w,i32_w];rfl
               refine pure_ (i:=6) (N:=some 85) (v:=undef) (a':=?_) #[Y,Y,Y,Y,Y,Y,Y,Z,Z,Z,Z,Z,Z,Z,Z,Z,Z,Z,Z,Z,Z] rfl rfl (any_of HT_.out (by kernel_rfl)) (fun _ _ _ h=>h) (Or.inr ⟨by rfl,rfl⟩) ?_ ?_;rotate_left
               ·simp only [Act.put,sIb,sZ,sS,i64_w,i32_w];rfl
               refine pure_ (i:=7) (N:=some 86) (v:=undef) (a':=?_) #[Y,Y,Y,Y,Y,Y,Y,Y,Z,Z,Z,Z,Z,Z,Z,Z,Z,Z,Z,Z,Z] rfl rfl (any_of HT_.out (by kernel_rfl)) (fun _ _ _ h=>h) (Or.inr ⟨by rfl,rfl⟩) ?_ ?_;rotate_left
               ·simp only [Act.put,sIb,sZ,sS,i64_w,i32_w];rfl
               refine pure_ (i:=8) (N:=some 87) (v:=undef) (a':=?_) #[Y,Y,Y,Y,Y,Y,Y,Y,Y,Z,Z,Z,Z,Z,Z,Z,Z,Z,Z,Z,Z] rfl rfl (any_of HT_.out (by kernel_rfl)) (fun _ _ _ h=>h) (Or.inr ⟨by rfl,rfl⟩) ?_ ?_;rotate_left
               ·simp only [Act.put,sIb,sZ,sS,i64_w,i32_w];rfl
               refine pure_ (i:=9) (N:=some 88) (v:=undef) (a':=?_) #[Y,Y,Y,Y,Y,Y,Y,Y,Y,Y,Z,Z,Z,Z,Z,Z,Z,Z,Z,Z,Z] rfl rfl (any_of HT_.out (by kernel_rfl)) (fun _ _ _ h=>h) (Or.inr ⟨by rfl,rfl⟩) ?_ ?_;rotate_left
               ·simp only [Act.put,sIb,sZ,sS,i64_w,i32_w];rfl
               refine pure_ (i:=10) (N:=some 89) (v:=undef) (a':=?_) #[Y,Y,Y,Y,Y,Y,Y,Y,Y,Y,Y,Z,Z,Z,Z,Z,Z,Z,Z,Z,Z] rfl rfl (any_of HT_.out (by kernel_rfl)) (fun _ _ _ h=>h) (Or.inr ⟨by rfl,rfl⟩) ?_ ?_;rotate_left
               ·simp only [Act.put,sIb,sZ,sS,i64_w,i32_w];rfl
               refine pure_ (i:=11) (N:=some 90) (v:=undef) (a':=?_) #[Y,Y,Y,Y,Y,Y,Y,Y,Y,Y,Y,Y,Z,Z,Z,Z,Z,Z,Z,Z,Z] rfl rfl (any_of HT_.out (by kernel_rfl)) (fun _ _ _ h=>h) (Or.inr ⟨by rfl,rfl⟩) ?_ ?_;rotate_left
               ·simp only [Act.put,sIb,sZ,sS,i64_w,i32_w];rfl
               refine pure_ (i:=12) (N:=some 91) (v:=?_) (a':=?_) #[Y,Y,Y,Y,Y,Y,Y,Y,Y,Y,Y,Y,Y,Z,Z,Z,Z,Z,Z,Z,Z] rfl rfl (any_of HT_.out (by kernel_rfl)) (fun _ _ _ h=>h) (Or.inl ⟨by rfl,?_⟩) ?_ ?_;rotate_left
               ·intro w';go_simp;with_reducible rfl
               rotate_left
               ·simp only [Act.put,sIb,sZ,sS,i64_w,i32_w];rfl
               refine pure_ (i:=13) (N:=some 92) (v:=?_) (a':=?_) #[Y,Y,Y,Y,Y,Y,Y,Y,Y,Y,Y,Y,Y,Y,Z,Z,Z,Z,Z,Z,Z] rfl rfl (any_of HT_.out (by kernel_rfl)) (fun _ _ _ h=>h) (Or.inl ⟨by rfl,?_⟩) ?_ ?_;rotate_left
               ·intro w';go_simp;with_reducible rfl
               rotate_left
               ·simp only [Act.put,sIb,sZ,sS,i64_w,i32_w];rfl
               refine pure_ (i:=14) (N:=some 93) (v:=?_) (a':=?_) #[Y,Y,Y,Y,Y,Y,Y,Y,Y,Y,Y,Y,Y,Y,Y,Z,Z,Z,Z,Z,Z] rfl rfl (any_of HT_.out (by kernel_rfl)) (fun _ _ _ h=>h) (Or.inl ⟨by rfl,?_⟩) ?_ ?_;rotate_left
               ·intro w';go_simp;with_reducible rfl
               rotate_left
               ·simp only [Act.put,sIb,sZ,sS,i64_w,i32_w];rfl
               refine pure_ (i:=16) (N:=some 95) (v:=?_) (a':=?_) #[Y,Y,Y,Y,Y,Y,Y,Y,Y,Y,Y,Y,Y,Y,Y,Z,Y,Z,Z,Z,Z] rfl rfl (any_of HT_.out (by kernel_rfl)) (fun _ _ _ h=>h) (Or.inl ⟨by rfl,?_⟩) ?_ ?_;rotate_left
               ·intro w';go_simp;with_reducible rfl
               rotate_left
               ·simp only [Act.put,sIb,sZ,sS,i64_w,i32_w];rfl
               refine pure_ (i:=18) (N:=some 97) (v:=?_) (a':=?_) #[Y,Y,Y,Y,Y,Y,Y,Y,Y,Y,Y,Y,Y,Y,Y,Z,Y,Z,Y,Z,Z] rfl rfl (any_of HT_.out (by kernel_rfl)) (fun _ _ _ h=>h) (Or.inl ⟨by rfl,?_⟩) ?_ ?_;rotate_left
               ·intro w';go_simp;with_reducible rfl
               rotate_left
               ·simp only [Act.put,sIb,sZ,sS,i64_w,i32_w];rfl
               refine take_ (i:=15) (N:=some 94) (v:=?_) (a':=?_) #[Y,Y,Y,Y,Y,Y,Y,Y,Y,Y,Y,Y,Y,Y,Y,Y,Y,Z,Y,Z,Z] rfl rfl (take_ofW HT_.out HW_.out (by kernel_rfl)) (fun _ _ _ h=>h) (Or.inl ⟨by rfl,?_⟩) hHeld ?_ ?_;rotate_left
               ·rintro w' ⟨s0,s1,s2,s3,s4⟩;go_simp;with_reducible rfl
               rotate_left
               ·simp only [Act.put,sIb,sZ,sS,i64_w,i32_w];rfl
               refine pure_ (i:=17) (N:=some 96) (v:=?_) (a':=?_) #[Y,Y,Y,Y,Y,Y,Y,Y,Y,Y,Y,Y,Y,Y,Y,Y,Y,Y,Y,Z,Z] rfl rfl (any_of HT_.out (by kernel_rfl)) (fun _ _ _ h=>h) (Or.inl ⟨by rfl,?_⟩) ?_ ?_;rotate_left
               ·intro w';go_simp;with_reducible rfl
               rotate_left
               ·simp only [Act.put,sIb,sZ,sS,i64_w,i32_w];rfl
               refine one_ (i:=19) (N:=some 98) #[Y,Y,Y,Y,Y,Y,Y,Y,Y,Y,Y,Y,Y,Y,Y,Y,Y,Y,Y,Y,Z] rfl rfl (one_of HT_.out (by kernel_rfl)) (by decide) (fun K hK=>?_);refine goes_ Try.func49 (by kernel_rfl) rfl #[.slice (some ad256) y265.length c0_0,.func (.func 50) #[] #[.pointer (some ⟨gb257,0,none⟩)]] (by rfl) rfl rfl (by (try simp only [mT,mC,mN]);first|done|rfl|(simp only [lD,lT];rfl)) ?_;with_reducible refine (anyf_GoodLocks1.calls _ _ y265 gb257 ((rd_T47 l0_0 x74_3).f0) ((rd_T47 l0_0 x74_3).f1) ((rd_T47 l0_0 x74_3).f2) false _ ?side1 ?side2 ?side3 A110.out).mono ?_
               (case side1=>repeat (first|exact (cB HR268.out HB.out)|(with_reducible first|refine cL ?_ _|refine cN ?_ _|refine cW ?_)));(case side2=>exact HC268.out);(case side3=>exact (by (with_reducible repeat (first|refine qN ?_ _|refine qW ?_|refine qL ?_ _));exact BK257.out));rintro e w125 ⟨rfl,hb⟩;refine ⟨_,rfl,?_⟩;have n0_:=qK (qB (g:=gb238) (o:=_) (by (with_reducible repeat (first|refine qN ?_ _|refine qW ?_|refine qL ?_ _));exact BK238.out) hb);have n1_:=qK (qB (g:=gb257) (o:=_) (by (with_reducible repeat (first|refine qN ?_ _|refine qW ?_|refine qL ?_ _));exact BK257.out) hb);have n2_:=qK (qT (by repeat (with_reducible first|exact HB.out|apply qA|apply qD|apply qO|refine qS ?_ GE238.out|refine qS ?_ GE257.out)) hb);clear BK238;clear BK257;clear HB;have BK238:=n0_;have BK257:=n1_;have HB:=n2_;clear n0_ n1_ n2_;(try clear hb);refine hK.out _ _ ⟨(qC BK238.out 0).trans rfl,(qC BK238.out 1).trans rfl,(qC BK238.out 2).trans rfl,(qC BK238.out 3).trans rfl,(qC BK238.out 4).trans rfl⟩ (fun hHeld=>?_);clear hK K;refine norm_ (a':=?_) ?_ ?_;rotate_left
               ·show Act.put _ (some 98) _=_
                simp only [Act.put,sIb,sZ,sS,i64_w,i32_w];rfl
               refine pure_ (i:=20) (N:=some 99) (v:=?_) (a':=?_) #[Y,Y,Y,Y,Y,Y,Y,Y,Y,Y,Y,Y,Y,Y,Y,Y,Y,Y,Y,Y,Y] rfl rfl (any_of HT_.out (by kernel_rfl)) (fun _ _ _ h=>h) (Or.inl ⟨by rfl,?_⟩) ?_ ?_;rotate_left
               ·intro w';go_simp;with_reducible rfl
               rotate_left
               ·simp only [Act.put,sIb,sZ,sS,i64_w,i32_w];rfl
               refine done_ (done_of HT_.out (by kernel_rfl)) ?_;try go_wp2
               go_roundg k3
               case measure=>have:=HJ2.out;have:=HJ44.out;have:=HK3.out;omega
               case rel=>exact ⟨(wrap64 (x74_3 + 1)),(by first|rfl|(simp;done)|(simp [*];done)),H',⟨by have:=HJ2.out;have:=HJ44.out;have:=HK3.out;omega⟩,⟨by (with_reducible repeat (first|refine qN ?_ _|refine qW ?_|refine qL ?_ _));exact BK238.out⟩,⟨by repeat (first|(with_reducible first|exact HB.out|apply qA|apply qD|apply qO|refine qS ?_ GE238.out|refine qS ?_ GE257.out)|exact HB.out)⟩⟩
             ·rw [if_neg c109] at H;exact absurd H (by simp)
           ·rw [if_neg c75] at H;exact absurd H (by simp)
          ·rw [if_neg c74] at H;exact absurd H (by simp)
         ·rw [if_neg c73] at H;have c73b0:decide (x74_3 < (l0_0.length:Int))=false:=decide_eq_false c73;clear c73;obtain rfl:=Option.some.inj H;go_wp2
          go_ret
          exact ⟨by first|rfl|(simp [errW_none,errW_some] <;> rfl)|(simp [*,errW_none,errW_some] <;> rfl),by repeat (first|(with_reducible first|exact HB.out|apply qA|apply qD|apply qO|refine qS ?_ GE238.out)|exact HB.out)⟩

end Go.Proofs.Ytfnaclgiggkbmaa.PFnExactRunDone
