/-
  A text of this claim's own, printed by a program of the session (wip/tools/xprint.py): functions of the program as Lean functions, each with what its call comes to.
-/
import Derived.Test.YtadfmbmnnekamaaPFnCoverx0
import Derived.Test.YtadfmbmnnekamaaPFnCoverx4
import Derived.Test.YtadfmbmnnekamaaPFnCoverx5
namespace Go.Proofs.Ytadfmbmnnekamaa.PFnCover
open Go.Proofs.YtadfmbmnnekamaaW.PrintWords renaming pw_below_drewN → qD, blk_cell → qC, below_drew1 → qO, below_alloc → qA, blk_frozen → qF, below_set → qS, blk_drewN → qN, blk_alloc → qL, blk_drew → qW, below_size → qZ, below_step → qT, blk_below → qB, blk_far → qR, blk_put → qP
open Go.Proofs.YtadfmbmnnekamaaW.PrintWords.Aside0 renaming mk → qK
open Bool renaming true → Y, false → Z
open List renaming setIfInBounds_toArray → sIb, set_cons_zero → sZ, set_cons_succ → sS, map_toArray → mT, map_cons → mC, map_nil → mN, length_drop → lD, length_take → lT
open Go.Proofs.YtadfmbmnnekamaaW.PrintWords.Kd renaming C_alloc → cL, C_drewN → cN, C_drew → cW, C_below → cB, R_alloc → rL, R_drewN → rN, R_drew → rW, R_below → rB
open Go.RowKit Go.Proofs.YtadfmbmnnekamaaW.PrintWords Go.Proofs.YtadfmbmnnekamaaW.PrintLast Go.Proofs.YtadfmbmnnekamaaW.PrintMore
attribute [local go_sem] max2_int min2_int max_two min_two max_three min_three max_four min_four   -- for this text's walks alone
set_option linter.unusedVariables false
set_option linter.unusedSimpArgs false

/-! ### impl_CoverOf: function 8 -/
mutual
def impl_CoverOf.l0 : Nat→List (S53)→List (S53)→Int→Int→Option ((List (S37)) × Bool)
 | 0,_,_,_,_=>none
 | k + 1,x6,x26,x27,x28=>if x28 < x27 then (if 0≤x28 then (if x28 < (x26.length:Int) then ((impl_set_list.f k ((rd_T53 x26 x28).f1)).bind fun t266=>(impl_CoverOf.l1 k x6 x26 x27 x28 t266 (t266.length:Int) 0 ((rd_T53 x26 x28).f0) ((rd_T53 x26 x28).f1))) else (none)) else (none)) else (impl_CoverOf.l2 k x6 (x6.length:Int) 0)
def impl_CoverOf.l1 : Nat→List (S53)→List (S53)→Int→Int→List Int→Int→Int→Int→Int→Option ((List (S37)) × Bool)
 | 0,_,_,_,_,_,_,_,_,_=>none
 | k + 1,x6,x26,x27,x28,x34,x35,x36,x266000,x266001=>if x36 < x35 then (if 0≤x36 then (if x36 < (x34.length:Int) then (if 0≤(rd x34 x36) then ((impl_rule_26.f k x6 x266000 (shl .i64 1 (rd x34 x36))).bind fun t271=>(if t271=true then (impl_CoverOf.l1 k x6 x26 x27 x28 x34 x35 (wrap64 (x36 + 1)) x266000 x266001) else (if x6.length < 8796093022208 then (impl_CoverOf.l1 k (x6 ++ [(⟨x266000,shl .i64 1 (rd x34 x36)⟩:S53)]) x26 x27 x28 x34 x35 (wrap64 (x36 + 1)) x266000 x266001) else (none)))) else (none)) else (none)) else (none)) else (impl_CoverOf.l0 k x6 x26 x27 (wrap64 (x28 + 1)))
def impl_CoverOf.l2 : Nat→List (S53)→Int→Int→Option ((List (S37)) × Bool)
 | 0,_,_,_=>none
 | k + 1,x6,x56,x57=>if x57 < x56 then (if 0≤x57 then (if x57 < (x6.length:Int) then ((impl_set_list.f k ((rd_T53 x6 x57).f0)).bind fun t276=>(impl_CoverOf.l3 k x6 x57 x56 x57 t276 (t276.length:Int) 0)) else (none)) else (none)) else (impl_CoverOf.l4 k x6 0)
def impl_CoverOf.l3 : Nat→List (S53)→Int→Int→Int→List Int→Int→Int→Option ((List (S37)) × Bool)
 | 0,_,_,_,_,_,_,_=>none
 | k + 1,x6,x12,x56,x57,x65,x66,x67=>if x67 < x66 then (if 0≤x67 then (if x67 < (x65.length:Int) then (if 0≤x12 then (if x12 < (x6.length:Int) then (if 0≤(rd x65 x67) then ((impl_implies.f k x6 (Go.bits .andNot .i64 ((rd_T53 x6 x12).f0) (shl .i64 1 (rd x65 x67))) ((rd_T53 x6 x12).f1)).bind fun t283=>(if t283=true then (impl_CoverOf.l3 k (x6.set (x12:Int).toNat (⟨Go.bits .andNot .i64 ((rd_T53 x6 x12).f0) (shl .i64 1 (rd x65 x67)),(rd_T53 x6 x12).f1⟩:S53)) x12 x56 x57 x65 x66 (wrap64 (x67 + 1))) else (impl_CoverOf.l3 k x6 x12 x56 x57 x65 x66 (wrap64 (x67 + 1))))) else (none)) else (none)) else (none)) else (none)) else (none)) else (impl_CoverOf.l2 k x6 x56 (wrap64 (x57 + 1)))
def impl_CoverOf.l4 : Nat→List (S53)→Int→Option ((List (S37)) × Bool)
 | 0,_,_=>none
 | k + 1,x6,x16=>if x16 < (x6.length:Int) then ((clone_Rule.f x6).bind fun t285=>((del_Rule.f t285 x16 (wrap64 (x16 + 1))).bind fun t288=>(if 0≤x16 then ((impl_implies.f k t288 ((rd_T53 x6 x16).f0) ((rd_T53 x6 x16).f1)).bind fun t292=>(if t292=true then (impl_CoverOf.l4 k t288 x16) else (impl_CoverOf.l4 k x6 (wrap64 (x16 + 1))))) else (none)))) else (if (x6.length:Int) > 10 then (some (([]:List (S37)),false)) else (impl_CoverOf.l5 k ([]:List (S37)) x6 (x6.length:Int) 0))
def impl_CoverOf.l5 : Nat→List (S37)→List (S53)→Int→Int→Option ((List (S37)) × Bool)
 | 0,_,_,_,_=>none
 | k + 1,x18,x116,x117,x118=>if x118 < x117 then (if 0≤x118 then (if x118 < (x116.length:Int) then ((impl_set_list.f k ((rd_T53 x116 x118).f0)).bind fun t295=>((impl_set_list.f k ((rd_T53 x116 x118).f1)).bind fun t298=>(if x18.length < 2932031007402 then (impl_CoverOf.l5 k (x18 ++ [(⟨t295,t298⟩:S37)]) x116 x117 (wrap64 (x118 + 1))) else (none)))) else (none)) else (none)) else (some (x18,true))
end
def impl_CoverOf.f (k:Nat) (l0:List (S37)) (a1:Int):Option ((List (S37)) × Bool):=(impl_GoodDepends.f k l0 a1).bind fun t260=>(if t260=true then ((impl_rulesOf.f k l0).bind fun t261=>(impl_CoverOf.l0 k ([]:List (S53)) t261 (t261.length:Int) 0)) else (some (([]:List (S37)),false)))
theorem impl_CoverOf.mono_l : ∀ k,(∀ y0 y1 y2 y3,LeO (impl_CoverOf.l0 k y0 y1 y2 y3) (impl_CoverOf.l0 (k + 1) y0 y1 y2 y3))∧(∀ y0 y1 y2 y3 y4 y5 y6 y7 y8,LeO (impl_CoverOf.l1 k y0 y1 y2 y3 y4 y5 y6 y7 y8) (impl_CoverOf.l1 (k + 1) y0 y1 y2 y3 y4 y5 y6 y7 y8))∧(∀ y0 y1 y2,LeO (impl_CoverOf.l2 k y0 y1 y2) (impl_CoverOf.l2 (k + 1) y0 y1 y2))∧(∀ y0 y1 y2 y3 y4 y5 y6,LeO (impl_CoverOf.l3 k y0 y1 y2 y3 y4 y5 y6) (impl_CoverOf.l3 (k + 1) y0 y1 y2 y3 y4 y5 y6))∧(∀ y0 y1,LeO (impl_CoverOf.l4 k y0 y1) (impl_CoverOf.l4 (k + 1) y0 y1))∧(∀ y0 y1 y2 y3,LeO (impl_CoverOf.l5 k y0 y1 y2 y3) (impl_CoverOf.l5 (k + 1) y0 y1 y2 y3))
 | 0=>⟨fun _ _ _ _ r h=>by simp [impl_CoverOf.l0] at h,fun _ _ _ _ _ _ _ _ _ r h=>by simp [impl_CoverOf.l1] at h,fun _ _ _ r h=>by simp [impl_CoverOf.l2] at h,fun _ _ _ _ _ _ _ r h=>by simp [impl_CoverOf.l3] at h,fun _ _ r h=>by simp [impl_CoverOf.l4] at h,fun _ _ _ _ r h=>by simp [impl_CoverOf.l5] at h⟩
 | k + 1=>by
  obtain ⟨ih0,ih1,ih2,ih3,ih4,ih5⟩:=impl_CoverOf.mono_l k;refine ⟨?_,?_,?_,?_,?_,?_⟩
  ·intro y0 y1 y2 y3;unfold impl_CoverOf.l0
   repeat' first
   | (with_reducible exact ih0 _ _ _ _)
   | (with_reducible exact ih1 _ _ _ _ _ _ _ _ _)
   | (with_reducible exact ih2 _ _ _)
   | (with_reducible exact ih3 _ _ _ _ _ _ _)
   | (with_reducible exact ih4 _ _)
   | (with_reducible exact ih5 _ _ _ _)
   | (with_reducible exact impl_GoodDepends.mono _ _ _)
   | (with_reducible exact impl_implies.mono _ _ _ _)
   | (with_reducible exact impl_rule_26.mono _ _ _ _)
   | (with_reducible exact impl_rulesOf.mono _ _)
   | (with_reducible exact impl_set_list.mono _ _)
   | (with_reducible exact LeO.refl _)
   | (with_reducible exact LeO.none _)
   | (with_reducible refine LeO.ite ?_ ?_)
   | (with_reducible refine LeO.bind ?_ (fun _=>?_))
   | exact ih0 _ _ _ _
   | exact ih1 _ _ _ _ _ _ _ _ _
   | exact ih2 _ _ _
   | exact ih3 _ _ _ _ _ _ _
   | exact ih4 _ _
   | exact ih5 _ _ _ _
   | exact impl_GoodDepends.mono _ _ _
   | exact impl_implies.mono _ _ _ _
   | exact impl_rule_26.mono _ _ _ _
   | exact impl_rulesOf.mono _ _
   | exact impl_set_list.mono _ _
   | exact LeO.none _
   | refine LeO.ite ?_ ?_
   | refine LeO.bind ?_ (fun _=>?_)
  ·intro y0 y1 y2 y3 y4 y5 y6 y7 y8;unfold impl_CoverOf.l1
   repeat' first
   | (with_reducible exact ih0 _ _ _ _)
   | (with_reducible exact ih1 _ _ _ _ _ _ _ _ _)
   | (with_reducible exact ih2 _ _ _)
   | (with_reducible exact ih3 _ _ _ _ _ _ _)
   | (with_reducible exact ih4 _ _)
   | (with_reducible exact ih5 _ _ _ _)
   | (with_reducible exact impl_GoodDepends.mono _ _ _)
   | (with_reducible exact impl_implies.mono _ _ _ _)
   | (with_reducible exact impl_rule_26.mono _ _ _ _)
   | (with_reducible exact impl_rulesOf.mono _ _)
   | (with_reducible exact impl_set_list.mono _ _)
   | (with_reducible exact LeO.refl _)
   | (with_reducible exact LeO.none _)
   | (with_reducible refine LeO.ite ?_ ?_)
   | (with_reducible refine LeO.bind ?_ (fun _=>?_))
   | exact ih0 _ _ _ _
   | exact ih1 _ _ _ _ _ _ _ _ _
   | exact ih2 _ _ _
   | exact ih3 _ _ _ _ _ _ _
   | exact ih4 _ _
   | exact ih5 _ _ _ _
   | exact impl_GoodDepends.mono _ _ _
   | exact impl_implies.mono _ _ _ _
   | exact impl_rule_26.mono _ _ _ _
   | exact impl_rulesOf.mono _ _
   | exact impl_set_list.mono _ _
   | exact LeO.none _
   | refine LeO.ite ?_ ?_
   | refine LeO.bind ?_ (fun _=>?_)
  ·intro y0 y1 y2;unfold impl_CoverOf.l2
   repeat' first
   | (with_reducible exact ih0 _ _ _ _)
   | (with_reducible exact ih1 _ _ _ _ _ _ _ _ _)
   | (with_reducible exact ih2 _ _ _)
   | (with_reducible exact ih3 _ _ _ _ _ _ _)
   | (with_reducible exact ih4 _ _)
   | (with_reducible exact ih5 _ _ _ _)
   | (with_reducible exact impl_GoodDepends.mono _ _ _)
   | (with_reducible exact impl_implies.mono _ _ _ _)
   | (with_reducible exact impl_rule_26.mono _ _ _ _)
   | (with_reducible exact impl_rulesOf.mono _ _)
   | (with_reducible exact impl_set_list.mono _ _)
   | (with_reducible exact LeO.refl _)
   | (with_reducible exact LeO.none _)
   | (with_reducible refine LeO.ite ?_ ?_)
   | (with_reducible refine LeO.bind ?_ (fun _=>?_))
   | exact ih0 _ _ _ _
   | exact ih1 _ _ _ _ _ _ _ _ _
   | exact ih2 _ _ _
   | exact ih3 _ _ _ _ _ _ _
   | exact ih4 _ _
   | exact ih5 _ _ _ _
   | exact impl_GoodDepends.mono _ _ _
   | exact impl_implies.mono _ _ _ _
   | exact impl_rule_26.mono _ _ _ _
   | exact impl_rulesOf.mono _ _
   | exact impl_set_list.mono _ _
   | exact LeO.none _
   | refine LeO.ite ?_ ?_
   | refine LeO.bind ?_ (fun _=>?_)
  ·intro y0 y1 y2 y3 y4 y5 y6;unfold impl_CoverOf.l3
   repeat' first
   | (with_reducible exact ih0 _ _ _ _)
   | (with_reducible exact ih1 _ _ _ _ _ _ _ _ _)
   | (with_reducible exact ih2 _ _ _)
   | (with_reducible exact ih3 _ _ _ _ _ _ _)
   | (with_reducible exact ih4 _ _)
   | (with_reducible exact ih5 _ _ _ _)
   | (with_reducible exact impl_GoodDepends.mono _ _ _)
   | (with_reducible exact impl_implies.mono _ _ _ _)
   | (with_reducible exact impl_rule_26.mono _ _ _ _)
   | (with_reducible exact impl_rulesOf.mono _ _)
   | (with_reducible exact impl_set_list.mono _ _)
   | (with_reducible exact LeO.refl _)
   | (with_reducible exact LeO.none _)
   | (with_reducible refine LeO.ite ?_ ?_)
   | (with_reducible refine LeO.bind ?_ (fun _=>?_))
   | exact ih0 _ _ _ _
   | exact ih1 _ _ _ _ _ _ _ _ _
   | exact ih2 _ _ _
   | exact ih3 _ _ _ _ _ _ _
   | exact ih4 _ _
   | exact ih5 _ _ _ _
   | exact impl_GoodDepends.mono _ _ _
   | exact impl_implies.mono _ _ _ _
   | exact impl_rule_26.mono _ _ _ _
   | exact impl_rulesOf.mono _ _
   | exact impl_set_list.mono _ _
   | exact LeO.none _
   | refine LeO.ite ?_ ?_
   | refine LeO.bind ?_ (fun _=>?_)
  ·intro y0 y1;unfold impl_CoverOf.l4
   repeat' first
   | (with_reducible exact ih0 _ _ _ _)
   | (with_reducible exact ih1 _ _ _ _ _ _ _ _ _)
   | (with_reducible exact ih2 _ _ _)
   | (with_reducible exact ih3 _ _ _ _ _ _ _)
   | (with_reducible exact ih4 _ _)
   | (with_reducible exact ih5 _ _ _ _)
   | (with_reducible exact impl_GoodDepends.mono _ _ _)
   | (with_reducible exact impl_implies.mono _ _ _ _)
   | (with_reducible exact impl_rule_26.mono _ _ _ _)
   | (with_reducible exact impl_rulesOf.mono _ _)
   | (with_reducible exact impl_set_list.mono _ _)
   | (with_reducible exact LeO.refl _)
   | (with_reducible exact LeO.none _)
   | (with_reducible refine LeO.ite ?_ ?_)
   | (with_reducible refine LeO.bind ?_ (fun _=>?_))
   | exact ih0 _ _ _ _
   | exact ih1 _ _ _ _ _ _ _ _ _
   | exact ih2 _ _ _
   | exact ih3 _ _ _ _ _ _ _
   | exact ih4 _ _
   | exact ih5 _ _ _ _
   | exact impl_GoodDepends.mono _ _ _
   | exact impl_implies.mono _ _ _ _
   | exact impl_rule_26.mono _ _ _ _
   | exact impl_rulesOf.mono _ _
   | exact impl_set_list.mono _ _
   | exact LeO.none _
   | refine LeO.ite ?_ ?_
   | refine LeO.bind ?_ (fun _=>?_)
  ·intro y0 y1 y2 y3;unfold impl_CoverOf.l5
   repeat' first
   | (with_reducible exact ih0 _ _ _ _)
   | (with_reducible exact ih1 _ _ _ _ _ _ _ _ _)
   | (with_reducible exact ih2 _ _ _)
   | (with_reducible exact ih3 _ _ _ _ _ _ _)
   | (with_reducible exact ih4 _ _)
   | (with_reducible exact ih5 _ _ _ _)
   | (with_reducible exact impl_GoodDepends.mono _ _ _)
   | (with_reducible exact impl_implies.mono _ _ _ _)
   | (with_reducible exact impl_rule_26.mono _ _ _ _)
   | (with_reducible exact impl_rulesOf.mono _ _)
   | (with_reducible exact impl_set_list.mono _ _)
   | (with_reducible exact LeO.refl _)
   | (with_reducible exact LeO.none _)
   | (with_reducible refine LeO.ite ?_ ?_)
   | (with_reducible refine LeO.bind ?_ (fun _=>?_))
   | exact ih0 _ _ _ _
   | exact ih1 _ _ _ _ _ _ _ _ _
   | exact ih2 _ _ _
   | exact ih3 _ _ _ _ _ _ _
   | exact ih4 _ _
   | exact ih5 _ _ _ _
   | exact impl_GoodDepends.mono _ _ _
   | exact impl_implies.mono _ _ _ _
   | exact impl_rule_26.mono _ _ _ _
   | exact impl_rulesOf.mono _ _
   | exact impl_set_list.mono _ _
   | exact LeO.none _
   | refine LeO.ite ?_ ?_
   | refine LeO.bind ?_ (fun _=>?_)
theorem impl_CoverOf.mono : ∀ a0 a1 k,LeO (impl_CoverOf.f k a0 a1) (impl_CoverOf.f (k + 1) a0 a1):=by
 intro a0 a1 k;obtain ⟨ih0,ih1,ih2,ih3,ih4,ih5⟩:=impl_CoverOf.mono_l k;unfold impl_CoverOf.f
 repeat' first
   | (with_reducible exact ih0 _ _ _ _)
   | (with_reducible exact ih1 _ _ _ _ _ _ _ _ _)
   | (with_reducible exact ih2 _ _ _)
   | (with_reducible exact ih3 _ _ _ _ _ _ _)
   | (with_reducible exact ih4 _ _)
   | (with_reducible exact ih5 _ _ _ _)
   | (with_reducible exact impl_GoodDepends.mono _ _ _)
   | (with_reducible exact impl_implies.mono _ _ _ _)
   | (with_reducible exact impl_rule_26.mono _ _ _ _)
   | (with_reducible exact impl_rulesOf.mono _ _)
   | (with_reducible exact impl_set_list.mono _ _)
   | (with_reducible exact LeO.refl _)
   | (with_reducible exact LeO.none _)
   | (with_reducible refine LeO.ite ?_ ?_)
   | (with_reducible refine LeO.bind ?_ (fun _=>?_))
   | exact ih0 _ _ _ _
   | exact ih1 _ _ _ _ _ _ _ _ _
   | exact ih2 _ _ _
   | exact ih3 _ _ _ _ _ _ _
   | exact ih4 _ _
   | exact ih5 _ _ _ _
   | exact impl_GoodDepends.mono _ _ _
   | exact impl_implies.mono _ _ _ _
   | exact impl_rule_26.mono _ _ _ _
   | exact impl_rulesOf.mono _ _
   | exact impl_set_list.mono _ _
   | exact LeO.none _
   | refine LeO.ite ?_ ?_
   | refine LeO.bind ?_ (fun _=>?_)
def impl_CoverOf.T21 : Bool × List (List Nat × List Nat):=(true,[([],[]),([],[]),([0,1],[0,1]),([2],[2]),([3],[3]),([],[]),([5],[5]),([4,6],[4,6]),([],[]),([],[]),([8,9],[8,9]),([10],[10]),([11],[11]),([7,12],[7,12]),([],[]),([14,13,0,1,2,3,4,5,6,7,8,9,10,11,12,13,14],[13,14])])
def impl_CoverOf.B21 : List Nat:=[0,0,3,7,15,0,32,127,0,0,768,1792,3840,8191,0,32767]
theorem impl_CoverOf.tab21 : rtab .any (opsOf Try.f8 21)=impl_CoverOf.T21:=by kernel_rfl
theorem impl_CoverOf.bits21 : waitsOk impl_CoverOf.T21.2 impl_CoverOf.B21=true:=by kernel_rfl
def impl_CoverOf.T38 : Bool × List (List Nat × List Nat):=(true,[([],[]),([],[]),([1],[1]),([2],[2]),([],[]),([4],[4]),([5,3],[5]),([3,6],[3,6]),([7],[7]),([0,8,6],[0,8]),([9,9,0,1,2,3,4,5,6,7,8,9],[0,9])])
def impl_CoverOf.B38 : List Nat:=[0,0,2,6,0,16,62,126,254,511,1023]
theorem impl_CoverOf.tab38 : rtab .any (opsOf Try.f8 38)=impl_CoverOf.T38:=by kernel_rfl
theorem impl_CoverOf.bits38 : waitsOk impl_CoverOf.T38.2 impl_CoverOf.B38=true:=by kernel_rfl
set_option maxHeartbeats 8000000 in
set_option maxRecDepth 100000 in
theorem impl_CoverOf.calls (k:Nat) (A0:Option Addr) (c0:Nat) (l0:List (S37)) (a1:Int) (r1:List (S37)) (r2:Bool) (w:World) (hr0:Kd.C k37 w A0 l0.length l0) (hc0:l0.length≤c0) (h:impl_CoverOf.f k l0 a1=some (r1,r2)) :
  Calls Try.prog 8 #[.slice A0 l0.length c0,.int .i64 a1] w fun e w'=>∃ v0_:Value,e=.returned (.tuple #[v0_,.bool r2])∧Kd.S k37 37 w' w.heap.size (fun _=>True) v0_ r1∧Below w.heap.size w w':=by
 have hu53:=Try.underlying53;have hu37:=Try.underlying37;have HR0:=qK hr0;have HC0:=qK hc0;clear hr0 hc0;have HB:=qK (Below.refl w.heap.size w);have H:((impl_GoodDepends.f k l0 a1).bind fun t260=>(if t260=true then ((impl_rulesOf.f k l0).bind fun t261=>(impl_CoverOf.l0 k ([]:List (S53)) t261 (t261.length:Int) 0)) else (some (([]:List (S37)),false))))=some (r1,r2):=h;clear h;replace H:=Option.bind_eq_some_iff.mp H;obtain ⟨t260,A30,H⟩:=H;replace H:(if t260=true then ((impl_rulesOf.f k l0).bind fun t261=>(impl_CoverOf.l0 k ([]:List (S53)) t261 (t261.length:Int) 0)) else (some (([]:List (S37)),false)))=some (r1,r2):=H;have A3:=qK A30;clear A30;by_cases c4:t260=true
 ·subst c4;have H1:((impl_rulesOf.f k l0).bind fun t261=>(impl_CoverOf.l0 k ([]:List (S53)) t261 (t261.length:Int) 0))=some (r1,r2):=by rw [if_pos rfl] at H;exact H
  clear H;have H:=H1;clear H1;replace H:=Option.bind_eq_some_iff.mp H;obtain ⟨t261,A50,H⟩:=H;replace H:(impl_CoverOf.l0 k ([]:List (S53)) t261 (t261.length:Int) 0)=some (r1,r2):=H;have A5:=qK A50;clear A50;have H':=qK H;clear H;go_enter Try.func8,Try.ntmps8
  go_wp2_with (first|((with_reducible refine gate_callee (f:=23) rfl ?_);refine goesL_ (some 23) rfl rfl Try.func23 (by kernel_rfl) rfl #[.slice A0 l0.length c0,.int .i64 a1] rfl (by (try simp only [mT,mC,mN]);first|done|rfl|(simp only [lD,lT];rfl)) ?_;(with_reducible refine (impl_GoodDepends.calls k _ _ l0 a1 true _ ?side1 ?side2 A3.out).mono ?_);(case side1=>repeat (first|exact HR0.out|(with_reducible first|refine cL ?_ _|refine cN ?_ _|refine cW ?_)));(case side2=>exact HC0.out);rintro e w6 ⟨rfl,hb⟩;refine ⟨_,rfl,?_⟩;have n0_:=qK (qT (by repeat (with_reducible first|exact HB.out|apply qA|apply qD|apply qO)) hb);clear HB;have HB:=n0_;clear n0_;(try clear hb))|((with_reducible refine gate_callee (f:=24) rfl ?_);refine goesL_ (some 26) rfl rfl Try.func24 (by kernel_rfl) rfl #[.slice A0 l0.length c0] rfl (by (try simp only [mT,mC,mN]);first|done|rfl|(simp only [lD,lT];rfl)) ?_;(with_reducible refine (impl_rulesOf.calls k _ _ l0 t261 _ ?side1 ?side2 A5.out).mono ?_);(case side1=>repeat (first|exact (cB HR0.out HB.out)|(with_reducible first|refine cL ?_ _|refine cN ?_ _|refine cW ?_)));(case side2=>exact HC0.out);rintro e w7 ⟨v262,rfl,ho0,hb⟩;refine ⟨_,rfl,?_⟩;have n0_:=qK (Kd.R_lower ho0 (qZ (by repeat (with_reducible first|exact HB.out|apply qA|apply qD|apply qO))));have n1_:=qK (qT (by repeat (with_reducible first|exact HB.out|apply qA|apply qD|apply qO)) hb);clear HB;have HO263:=n0_;have HB:=n1_;clear n0_ n1_;(try clear hb);(try clear ho0);obtain ⟨Ao8,co8,eo8⟩:=Kd.R_slice HO263.out;subst eo8))
  go_loopg [6,28] k (fun kq v6 v28 w'=>∃ (x6_1:List (S53)) (x28_1:Int),v28=.int .i64 x28_1∧Aside0 (impl_CoverOf.l0 kq x6_1 t261 (t261.length:Int) x28_1=some (r1,r2))∧Aside0 (kq≤k)∧Aside0 (Kd.R k53 53 w' w.heap.size (fun k_=>some k_ ≠ ((.slice Ao8 t261.length co8):Value).ownBlock) v6 x6_1)∧Aside0 (Kd.R k53 53 w' w.heap.size (fun k_=>some k_ ≠ (v6:Value).ownBlock) (.slice Ao8 t261.length co8) t261)∧Aside0 (Below w.heap.size w w'))
  case atStart=>exact ⟨(([]:List (S53))),(0),(by first|rfl|(simp;done)|(simp [*];done)),H',⟨Nat.le_refl _⟩,⟨by first|exact Kd.R_nil _ _ _ _ _|exact Kd.N_nil _ _ _ _ _|exact Kd.V_nil _ _ _ _ _|exact Kd.Q_nil _ _ _ _ _|exact Kd.S_nil _ _ _ _ _⟩,⟨by (with_reducible repeat (first|apply rL|apply rN|apply rW));exact Kd.R_mono HO263.out (fun _ hk=>(by simp [Value.ownBlock]))⟩,⟨by repeat (first|(with_reducible first|exact HB.out|apply qA|apply qD|apply qO)|exact HB.out)⟩⟩
  case round =>
   clear H';try clear c2
   try clear p2
   try clear c4
   try clear c8
   obtain ⟨x6_1,x28_1,rfl,HA,HK1,HO_6,HO_26,HB⟩:=hrel;cases gk with
   | zero=>exact absurd HA.out (by simp [impl_CoverOf.l0])
   | succ k1 =>
    have H:=HA.out;clear HA;simp only [impl_CoverOf.l0] at H;by_cases c9:x28_1 < (t261.length:Int)
    ·rw [if_pos c9] at H;have c9b0:decide (x28_1 < (t261.length:Int))=true:=decide_eq_true c9;clear c9;by_cases c10:0≤x28_1
     ·rw [if_pos c10] at H;have c10b0:decide (0≤x28_1)=true:=decide_eq_true c10;clear c10;by_cases c11:x28_1 < (t261.length:Int)
      ·rw [if_pos c11] at H;have c11b0:decide (x28_1 < (t261.length:Int))=true:=decide_eq_true c11;clear c11;replace H:=Option.bind_eq_some_iff.mp H;obtain ⟨t266,A120,H⟩:=H;replace H:(impl_CoverOf.l1 k1 x6_1 t261 (t261.length:Int) x28_1 t266 (t266.length:Int) 0 ((rd_T53 t261 x28_1).f0) ((rd_T53 t261 x28_1).f1))=some (r1,r2):=H;have A12:=qK A120;clear A120;have H':=qK H;clear H;have p264:0≤(x28_1:Int):=of_decide_eq_true (by first|(with_reducible assumption)|assumption);have q264:x28_1 < (t261.length:Int):=of_decide_eq_true (by first|(with_reducible assumption)|assumption);obtain ⟨ad264,e264,hx264_0,hx264_1⟩:=at_T53 (Kd.R_reads' HO_26.out).2.2 x28_1 p264 q264;cases e264
       replace p264:=eq_true p264;replace q264:=eq_true q264;go_wp2_with (first|((with_reducible refine gate_dst (N:=8) rfl ?_);refine box_event ?hg (N:=8) ?hd (cs:=#[.int .i64 0,.int .i64 0]) (t:=53) ?hr ?_;(case hd=>rfl);(case hg=>rfl);(case hr=>(go_simp;try rfl));intro gb265 hg w13 hbox hb;have n0_:=qK (rB (Kd.R_elderB (by (with_reducible repeat (first|apply rL|apply rN|apply rW));exact HO_6.out) gb265 (Nat.le_of_eq hg.symm)) hb);have n1_:=qK (rB (Kd.R_elderB (by (with_reducible repeat (first|apply rL|apply rN|apply rW));exact HO_26.out) gb265 (Nat.le_of_eq hg.symm)) hb);have n2_:=qK (qT (by repeat (with_reducible first|exact HB.out|apply qA|apply qD|apply qO)) hb);have n3_:=qK (hbox);have n4_:=qK ((by rw [hg];exact (qZ (by repeat (with_reducible first|exact HB.out|apply qA|apply qD|apply qO))):w.heap.size≤gb265));have n5_:=qK ((by rw [hg];exact (qZ (by repeat (with_reducible first|exact HB.out|apply qA|apply qD|apply qO))):w.heap.size≤gb265));clear HO_6;clear HO_26;clear HB;have HO_6:=n0_;have HO_26:=n1_;have HB:=n2_;have BK265:=n3_;have GW265:=n4_;have GE265:=n5_;clear n0_ n1_ n2_ n3_ n4_ n5_;clear hb hbox hg;have hcz14_0:w13.cell? ⟨gb265,0,none⟩=some (.int .i64 0):=(qC BK265.out 0).trans rfl;have hcz14_1:w13.cell? ⟨gb265,1,none⟩=some (.int .i64 0):=(qC BK265.out 1).trans rfl;have hfz14_0:=qF BK265.out 0;have hfz14_1:=qF BK265.out 1)|((with_reducible refine gate_callee (f:=25) rfl ?_);refine goesL_ (some 34) rfl rfl Try.func25 (by kernel_rfl) rfl #[.int .i64 ((rd_T53 t261 x28_1).f1)] rfl (by (try simp only [mT,mC,mN]);first|done|rfl|(simp only [lD,lT];rfl)) ?_;(with_reducible refine (impl_set_list.calls k1 ((rd_T53 t261 x28_1).f1) t266 _ A12.out).mono ?_);rintro e w15 ⟨v267,rfl,ho0,hb⟩;refine ⟨_,rfl,?_⟩;have n0_:=qK (rB (by (with_reducible repeat (first|apply rL|apply rN|apply rW));exact (Kd.R_mono (Kd.R_far (p:=⟨gb265,1,none⟩) (Kd.R_far (p:=⟨gb265,0,none⟩) (Kd.R_mono HO_6.out (fun k_ hk=>(⟨hk,hk.2⟩:_∧k_ ≠ gb265))) (fun _ hk=>hk.2) (.int .i64 ((rd_T53 t261 x28_1).f0))) (fun _ hk=>hk.2) (.int .i64 ((rd_T53 t261 x28_1).f1))) (fun _ h_=>h_.1))) hb);have n1_:=qK (rB (by (with_reducible repeat (first|apply rL|apply rN|apply rW));exact (Kd.R_mono (Kd.R_far (p:=⟨gb265,1,none⟩) (Kd.R_far (p:=⟨gb265,0,none⟩) (Kd.R_mono HO_26.out (fun k_ hk=>(⟨hk,hk.2⟩:_∧k_ ≠ gb265))) (fun _ hk=>hk.2) (.int .i64 ((rd_T53 t261 x28_1).f0))) (fun _ hk=>hk.2) (.int .i64 ((rd_T53 t261 x28_1).f1))) (fun _ h_=>h_.1))) hb);have n2_:=qK (Kd.R_lower ho0 (qZ (by repeat (with_reducible first|exact HB.out|apply qA|apply qD|apply qO|refine qS ?_ GE265.out))));have n3_:=qK (qB (g:=gb265) (o:=.cells #[.int .i64 ((rd_T53 t261 x28_1).f0),.int .i64 ((rd_T53 t261 x28_1).f1)] 53 (0,0)) (by (with_reducible repeat (first|refine qN ?_ _|refine qW ?_|refine qL ?_ _));refine qP (cs:=#[.int .i64 ((rd_T53 t261 x28_1).f0),.int .i64 0]) ?_ 1 _ rfl;(with_reducible repeat (first|refine qN ?_ _|refine qW ?_|refine qL ?_ _));refine qP (cs:=#[.int .i64 0,.int .i64 0]) ?_ 0 _ rfl;(with_reducible repeat (first|refine qN ?_ _|refine qW ?_|refine qL ?_ _));exact BK265.out) hb);have n4_:=qK (qT (by repeat (with_reducible first|exact HB.out|apply qA|apply qD|apply qO|refine qS ?_ GE265.out)) hb);clear HO_6;clear HO_26;clear BK265;clear HB;have HO_6:=n0_;have HO_26:=n1_;have HO268:=n2_;have BK265:=n3_;have HB:=n4_;clear n0_ n1_ n2_ n3_ n4_;(try clear hb);(try clear ho0);obtain ⟨Ao16,co16,eo16⟩:=Kd.R_slice HO268.out;subst eo16))
       go_loopg [6,36] k1 (fun kq v6 v36 w'=>∃ (x6_2:List (S53)) (x36_2:Int),v36=.int .i64 x36_2∧Aside0 (impl_CoverOf.l1 kq x6_2 t261 (t261.length:Int) x28_1 t266 (t266.length:Int) x36_2 ((rd_T53 t261 x28_1).f0) ((rd_T53 t261 x28_1).f1)=some (r1,r2))∧Aside0 (kq≤k1)∧Aside0 (Kd.R k53 53 w' w.heap.size (fun k_=>some k_ ≠ ((.slice (some ad264) t261.length co8):Value).ownBlock∧k_ ≠ gb265) v6 x6_2)∧Aside0 (Kd.R k53 53 w' w.heap.size (fun k_=>some k_ ≠ (v6:Value).ownBlock∧k_ ≠ gb265) (.slice (some ad264) t261.length co8) t261)∧Aside0 (Kd.R (Kd.int .i64) 3 w' w.heap.size (fun _=>True) (.slice Ao16 t266.length co16) t266)∧Aside0 (w'.heap[gb265]?=some (.cells #[.int .i64 ((rd_T53 t261 x28_1).f0),.int .i64 ((rd_T53 t261 x28_1).f1)] 53 (0,0)))∧Aside0 (Below w.heap.size w w'))
       case atStart=>exact ⟨(x6_1),(0),(by first|rfl|(simp;done)|(simp [*];done)),H',⟨Nat.le_refl _⟩,⟨by (with_reducible repeat (first|apply rL|apply rN|apply rW));exact HO_6.out⟩,⟨by (with_reducible repeat (first|apply rL|apply rN|apply rW));exact HO_26.out⟩,⟨by (with_reducible repeat (first|apply rL|apply rN|apply rW));exact HO268.out⟩,⟨by (with_reducible repeat (first|refine qN ?_ _|refine qW ?_|refine qL ?_ _));exact BK265.out⟩,⟨by repeat (first|(with_reducible first|exact HB.out|apply qA|apply qD|apply qO|refine qS ?_ GE265.out)|exact HB.out)⟩⟩
       case round =>
        clear H';try clear c1
        try clear c2
        try clear p2
        try clear q2
        try clear hx2
        try clear c4
        try clear c8
        try clear c9
        try clear c9b0
        try clear c10
        try clear c10b0
        try clear c11
        try clear c11b0
        try clear hcz14_0
        try clear hcz14_1
        try clear hfz14_0
        try clear hfz14_1
        try clear hx264_0
        try clear hx264_1
        try clear p2
        try clear p264
        try clear q264
        obtain ⟨x6_2,x36_2,rfl,HA,HK2,HO_6,HO_26,HO_34,BK265,HB⟩:=hrel;cases gk with
        | zero=>exact absurd HA.out (by simp [impl_CoverOf.l1])
        | succ k2 =>
         have H:=HA.out;clear HA;simp only [impl_CoverOf.l1] at H;by_cases c17:x36_2 < (t266.length:Int)
         ·rw [if_pos c17] at H;have c17b0:decide (x36_2 < (t266.length:Int))=true:=decide_eq_true c17;clear c17;by_cases c18:0≤x36_2
          ·rw [if_pos c18] at H;have c18b0:decide (0≤x36_2)=true:=decide_eq_true c18;clear c18;by_cases c19:x36_2 < (t266.length:Int)
           ·rw [if_pos c19] at H;have c19b0:decide (x36_2 < (t266.length:Int))=true:=decide_eq_true c19;clear c19;by_cases c20:0≤(rd t266 x36_2)
            ·rw [if_pos c20] at H;have c20b0:=eq_true c20;have c20b1:decide (0≤(rd t266 x36_2))=true:=decide_eq_true c20;clear c20;obtain ⟨ji21,hji21⟩:∃ j_:Int,(shl .i64 1 (rd t266 x36_2))=j_:=⟨_,rfl⟩;replace H:((impl_rule_26.f k2 x6_2 ((rd_T53 t261 x28_1).f0) (ji21)).bind fun t271=>(if t271=true then (impl_CoverOf.l1 k2 x6_2 t261 (t261.length:Int) x28_1 t266 (t266.length:Int) (wrap64 (x36_2 + 1)) ((rd_T53 t261 x28_1).f0) ((rd_T53 t261 x28_1).f1)) else (if x6_2.length < 8796093022208 then (impl_CoverOf.l1 k2 (x6_2 ++ [(⟨((rd_T53 t261 x28_1).f0),ji21⟩:S53)]) t261 (t261.length:Int) x28_1 t266 (t266.length:Int) (wrap64 (x36_2 + 1)) ((rd_T53 t261 x28_1).f0) ((rd_T53 t261 x28_1).f1)) else (none))))=some (r1,r2):=by first|(rw [hji21] at H;exact H)|(simp only [hji21] at H ⊢;exact H)
             have hji21_:(IntKind.i64.wrap (1 * 2 ^ min (rd t266 x36_2).toNat 64))=ji21:=hji21;have hji21z:(rd t266 x36_2)≤64→(IntKind.i64.wrap (1 * 2 ^ (rd t266 x36_2).toNat))=ji21:=shl_small hji21;have hji21u:(IntKind.i64.wrap (2 ^ min (rd t266 x36_2).toNat 64))=ji21:=by have h_:=hji21_;rw [Int.one_mul] at h_;exact h_
             have hji21v:(rd t266 x36_2)≤64→(IntKind.i64.wrap (2 ^ (rd t266 x36_2).toNat))=ji21:=fun hle_=>by have h_:=hji21z hle_;rw [Int.one_mul] at h_;exact h_
             have hji21y:(wrap64 (1 * 2 ^ min (rd t266 x36_2).toNat 64))=ji21:=(i64_w _).symm.trans hji21_;have hji21x:(rd t266 x36_2)≤64→(wrap64 (1 * 2 ^ (rd t266 x36_2).toNat))=ji21:=fun h_=>(i64_w _).symm.trans (hji21z h_)
             replace H:=Option.bind_eq_some_iff.mp H;obtain ⟨t271,A220,H⟩:=H;replace H:(if t271=true then (impl_CoverOf.l1 k2 x6_2 t261 (t261.length:Int) x28_1 t266 (t266.length:Int) (wrap64 (x36_2 + 1)) ((rd_T53 t261 x28_1).f0) ((rd_T53 t261 x28_1).f1)) else (if x6_2.length < 8796093022208 then (impl_CoverOf.l1 k2 (x6_2 ++ [(⟨((rd_T53 t261 x28_1).f0),ji21⟩:S53)]) t261 (t261.length:Int) x28_1 t266 (t266.length:Int) (wrap64 (x36_2 + 1)) ((rd_T53 t261 x28_1).f0) ((rd_T53 t261 x28_1).f1)) else (none)))=some (r1,r2):=H;have A22:=qK A220;clear A220;by_cases c23:t271=true
             ·subst c23;have H1:(impl_CoverOf.l1 k2 x6_2 t261 (t261.length:Int) x28_1 t266 (t266.length:Int) (wrap64 (x36_2 + 1)) ((rd_T53 t261 x28_1).f0) ((rd_T53 t261 x28_1).f1))=some (r1,r2):=by rw [if_pos rfl] at H;exact H
              clear H;have H:=H1;clear H1;have H':=qK H;clear H;have p269:0≤(x36_2:Int):=of_decide_eq_true (by first|(with_reducible assumption)|assumption);have q269:x36_2 < (t266.length:Int):=of_decide_eq_true (by first|(with_reducible assumption)|assumption);obtain ⟨ad269,e269,hx269_0⟩:=Kd.at_int (Kd.R_reads' HO_34.out).2.2 x36_2 p269 q269;cases e269
              replace p269:=eq_true p269;replace q269:=eq_true q269;try go_wp2
              (try (rw [drewN_self wr];generalize hq_:World.drewN wr _=wr;have n0_:Aside0 (Kd.R k53 53 wr w.heap.size (fun k_=>some k_ ≠ (u6:Value).ownBlock∧k_ ≠ gb265) (.slice (some ad264) t261.length co8) t261):=⟨by rw [← hq_];exact (by (with_reducible repeat (first|apply rL|apply rN|apply rW));exact HO_26.out)⟩;have n1_:Aside0 (Kd.R (Kd.int .i64) 3 wr w.heap.size (fun _=>True) (.slice (some ad269) t266.length co16) t266):=⟨by rw [← hq_];exact (by (with_reducible repeat (first|apply rL|apply rN|apply rW));exact HO_34.out)⟩;have n2_:Aside0 (Kd.R k53 53 wr w.heap.size (fun k_=>some k_ ≠ (.slice (some ad264) t261.length co8:Value).ownBlock∧k_ ≠ gb265) u6 x6_2):=⟨by rw [← hq_];exact (by (with_reducible repeat (first|apply rL|apply rN|apply rW));exact HO_6.out)⟩;have n3_:Aside0 (wr.heap[gb265]?=some (.cells #[.int .i64 ((rd_T53 t261 x28_1).f0),.int .i64 ((rd_T53 t261 x28_1).f1)] 53 (0,0))):=⟨by rw [← hq_];exact (by (with_reducible repeat (first|refine qN ?_ _|refine qW ?_|refine qL ?_ _));exact BK265.out)⟩;have n4_:Aside0 (Below w.heap.size w wr):=⟨by rw [← hq_];exact (by repeat (with_reducible first|exact HB.out|apply qA|apply qD|apply qO|refine qS ?_ GE265.out))⟩;clear HO_26 HO_34 HO_6 BK265 HB hq_;have HO_26:=n0_;have HO_34:=n1_;have HO_6:=n2_;have BK265:=n3_;have HB:=n4_;clear n0_ n1_ n2_ n3_ n4_));have n0_:=qK (rW HO_6.out);have n1_:=qK (rW HO_26.out);have n2_:=qK (rW HO_34.out);have n3_:=qK (qW BK265.out);have n4_:=qK (qO HB.out);clear HO_6;clear HO_26;clear HO_34;clear BK265;clear HB;have HO_6:=n0_;have HO_26:=n1_;have HO_34:=n2_;have BK265:=n3_;have HB:=n4_;clear n0_ n1_ n2_ n3_ n4_;refine start_ (n:=7) (S:=fun w'=>w'.cell? ⟨gb265,0,none⟩=some (.int .i64 ((rd_T53 t261 x28_1).f0))∧w'.cell? ⟨gb265,1,none⟩=some (.int .i64 ((rd_T53 t261 x28_1).f1))) (ds:=[]) #[Z,Z,Z,Z,Z,Z,Z] (by kernel_rfl) rfl rfl ⟨(qC BK265.out 0).trans rfl,(qC BK265.out 1).trans rfl⟩ (fun hHeld=>?_);generalize wr.drew=w24 at HO_6 HO_26 HO_34 BK265 HB hHeld ⊢
              refine pure_ (i:=0) (N:=some 40) (v:=?_) (a':=?_) #[Y,Z,Z,Z,Z,Z,Z] rfl rfl (by kernel_rfl) (fun _ _ _ h=>h) (Or.inl ⟨by rfl,?_⟩) ?_ ?_;rotate_left
              ·intro w';go_simp;with_reducible rfl
              rotate_left
              ·simp only [Act.put,sIb,sZ,sS,i64_w,i32_w];rfl
              refine pure_ (i:=2) (N:=some 42) (v:=?_) (a':=?_) #[Y,Z,Y,Z,Z,Z,Z] rfl rfl (by kernel_rfl) (fun _ _ _ h=>h) (Or.inl ⟨by rfl,?_⟩) ?_ ?_;rotate_left
              ·intro w';go_simp;with_reducible rfl
              rotate_left
              ·simp only [Act.put,sIb,sZ,sS,i64_w,i32_w];rfl
              refine pure_ (i:=3) (N:=some 43) (v:=?_) (a':=?_) #[Y,Z,Y,Y,Z,Z,Z] rfl rfl (by kernel_rfl) (fun _ _ _ h=>h) (Or.inl ⟨by rfl,?_⟩) ?_ ?_;rotate_left
              ·intro w';go_simp;with_reducible rfl
              rotate_left
              ·simp only [Act.put,sIb,sZ,sS,i64_w,i32_w];rfl
              refine take_ (i:=1) (N:=some 41) (v:=?_) (a':=?_) #[Y,Y,Y,Y,Z,Z,Z] rfl rfl (by kernel_rfl) (fun _ _ _ h=>h) (Or.inl ⟨by rfl,?_⟩) hHeld ?_ ?_;rotate_left
              ·rintro w' ⟨s0,s1⟩;go_simp;with_reducible rfl
              rotate_left
              ·simp only [Act.put,sIb,sZ,sS,i64_w,i32_w];rfl
              refine pure_ (i:=4) (N:=some 44) (v:=?_) (a':=?_) #[Y,Y,Y,Y,Y,Z,Z] rfl rfl (by kernel_rfl) (fun _ _ _ h=>h) (Or.inl ⟨by rfl,?_⟩) ?_ ?_;rotate_left
              ·intro w';go_simp;with_reducible rfl
              rotate_left
              ·simp only [Act.put,sIb,sZ,sS,i64_w,i32_w];rfl
              refine one_ (i:=5) (N:=some 11) #[Y,Y,Y,Y,Y,Y,Z] rfl rfl (by kernel_rfl) (by decide) (fun K hK=>?_);refine box_step ?hg (N:=11) ?hd (cs:=#[.int .i64 0,.int .i64 0]) (t:=53) ?hr ?_;(case hd=>rfl);(case hg=>rfl);(case hr=>(go_simp;try rfl));intro gb270 hg w25 hbox hb;have n0_:=qK (rB (Kd.R_elderB (by (with_reducible repeat (first|apply rL|apply rN|apply rW));exact HO_6.out) gb270 (Nat.le_of_eq hg.symm)) hb);have n1_:=qK (rB (Kd.R_elderB (by (with_reducible repeat (first|apply rL|apply rN|apply rW));exact HO_26.out) gb270 (Nat.le_of_eq hg.symm)) hb);have n2_:=qK (rB (by (with_reducible repeat (first|apply rL|apply rN|apply rW));exact HO_34.out) hb);have n3_:=qK (qB (g:=gb265) (o:=_) (by (with_reducible repeat (first|refine qN ?_ _|refine qW ?_|refine qL ?_ _));exact BK265.out) hb);have n4_:=qK (qT (by repeat (with_reducible first|exact HB.out|apply qA|apply qD|apply qO|refine qS ?_ GE265.out)) hb);have n5_:=qK (hbox);have n6_:=qK ((by rw [hg];exact (qZ (by repeat (with_reducible first|exact HB.out|apply qA|apply qD|apply qO|refine qS ?_ GE265.out))):w.heap.size≤gb270));have n7_:=qK ((by rw [hg];exact (qZ (by repeat (with_reducible first|exact HB.out|apply qA|apply qD|apply qO|refine qS ?_ GE265.out))):w.heap.size≤gb270));have n8_:=qK ((by rw [hg];exact Nat.ne_of_lt (blk_lt (g:=gb265) (o:=_) (by (with_reducible repeat (first|refine qN ?_ _|refine qW ?_|refine qL ?_ _));exact BK265.out)):gb265 ≠ gb270));have n9_:=qK ((by rw [hg];exact Nat.ne_of_gt (blk_lt (g:=gb265) (o:=_) (by (with_reducible repeat (first|refine qN ?_ _|refine qW ?_|refine qL ?_ _));exact BK265.out)):gb270 ≠ gb265));clear HO_6;clear HO_26;clear HO_34;clear BK265;clear HB;have HO_6:=n0_;have HO_26:=n1_;have HO_34:=n2_;have BK265:=n3_;have HB:=n4_;have BK270:=n5_;have GW270:=n6_;have GE270:=n7_;have NB265_270:=n8_;have NB270_265:=n9_;clear n0_ n1_ n2_ n3_ n4_ n5_ n6_ n7_ n8_ n9_;clear hb hbox hg;refine hK.out _ _ ⟨(qC BK265.out 0).trans rfl,(qC BK265.out 1).trans rfl⟩ (fun hHeld=>?_);clear hK K;refine norm_ (a':=?_) ?_ ?_;rotate_left
              ·show Act.put _ (some 11) _=_
               simp only [Act.put,sIb,sZ,sS,i64_w,i32_w];rfl
              refine one_ (i:=6) (N:=none) #[Y,Y,Y,Y,Y,Y,Y] rfl rfl (by kernel_rfl) (by decide) (fun K hK=>?_);have hs26:w25.cell? ⟨gb270,0,none⟩=some (.int .i64 0):=(qC BK270.out 0).trans rfl;have hfs26:=qF BK270.out 0;have hns26_0:=NB265_270.out;have hms26_0:=NB270_265.out;have hs27:w25.cell? ⟨gb270,1,none⟩=some (.int .i64 0):=(qC BK270.out 1).trans rfl;have hfs27:=qF BK270.out 1;have hns27_0:=NB265_270.out;have hms27_0:=NB270_265.out;refine skip_ (w1:=?_) (by rfl) rfl ?_ ?_;rotate_left
              ·go_simp;rfl
              refine hK.out _ _ ⟨((cell_far (p:=⟨gb270,_,none⟩) NB265_270.out _).trans (((cell_far (p:=⟨gb270,_,none⟩) NB265_270.out _).trans (hHeld.1)))),((cell_far (p:=⟨gb270,_,none⟩) NB265_270.out _).trans (((cell_far (p:=⟨gb270,_,none⟩) NB265_270.out _).trans (hHeld.2))))⟩ (fun hHeld=>?_);clear hK K;refine done_ (by kernel_rfl) ?_;have hnb28:=NB270_265.out;have hnc28:=NB265_270.out;have hcz29_0:w25.cell? ⟨gb270,0,none⟩=some (.int .i64 0):=(qC BK270.out 0).trans rfl;have hcz29_1:w25.cell? ⟨gb270,1,none⟩=some (.int .i64 0):=(qC BK270.out 1).trans rfl;have hfz29_0:=qF BK270.out 0;have hfz29_1:=qF BK270.out 1;obtain ⟨Ao30,co30,eo30⟩:=Kd.R_slice HO_6.out;subst eo30;try go_wp2_with (first|((with_reducible refine gate_callee (f:=26) rfl ?_);refine goesL_ (some 47) rfl rfl Try.func26 (by kernel_rfl) rfl #[.slice Ao30 x6_2.length co30,.agg #[.int .i64 ((rd_T53 t261 x28_1).f0),.int .i64 ji21]] rfl (by (try simp only [mT,mC,mN]);first|done|(simp only [hji21];rfl)|rfl|(simp only [lD,lT];rfl)) ?_;(with_reducible refine (impl_rule_26.calls k2 _ _ x6_2 ((rd_T53 t261 x28_1).f0) ji21 true _ ?side1 ?side2 A22.out).mono ?_);(case side1=>refine (Kd.R_reads' (e:=53) (base:=w.heap.size) (ok:=fun k_=>((some k_ ≠ (.slice (some ad264) t261.length co8:Value).ownBlock∧k_ ≠ gb265)∧k_ ≠ gb270)) (n:=x6_2.length) (c:=co30) ?_).2.2;exact (by (with_reducible repeat (first|apply rL|apply rN|apply rW));exact (Kd.R_mono (Kd.R_far (p:=⟨gb270,1,none⟩) (Kd.R_far (p:=⟨gb270,0,none⟩) (Kd.R_mono HO_6.out (fun k_ hk=>(⟨hk,hk.2⟩:_∧k_ ≠ gb270))) (fun _ hk=>hk.2) (.int .i64 ((rd_T53 t261 x28_1).f0))) (fun _ hk=>hk.2) (.int .i64 ji21)) (fun _ h_=>h_.1))));(case side2=>exact (Kd.R_reads' HO_6.out).2.1);rintro e w31 ⟨rfl,hb⟩;refine ⟨_,rfl,?_⟩;have n0_:=qK (rB (by (with_reducible repeat (first|apply rL|apply rN|apply rW));exact (Kd.R_mono (Kd.R_far (p:=⟨gb270,1,none⟩) (Kd.R_far (p:=⟨gb270,0,none⟩) (Kd.R_mono HO_6.out (fun k_ hk=>(⟨hk,hk.2⟩:_∧k_ ≠ gb270))) (fun _ hk=>hk.2) (.int .i64 ((rd_T53 t261 x28_1).f0))) (fun _ hk=>hk.2) (.int .i64 ji21)) (fun _ h_=>h_.1))) hb);have n1_:=qK (rB (by (with_reducible repeat (first|apply rL|apply rN|apply rW));exact (Kd.R_mono (Kd.R_far (p:=⟨gb270,1,none⟩) (Kd.R_far (p:=⟨gb270,0,none⟩) (Kd.R_mono HO_26.out (fun k_ hk=>(⟨hk,hk.2⟩:_∧k_ ≠ gb270))) (fun _ hk=>hk.2) (.int .i64 ((rd_T53 t261 x28_1).f0))) (fun _ hk=>hk.2) (.int .i64 ji21)) (fun _ h_=>h_.1))) hb);have n2_:=qK (rB (by (with_reducible repeat (first|apply rL|apply rN|apply rW));exact (Kd.R_mono (Kd.R_far (p:=⟨gb270,1,none⟩) (Kd.R_far (p:=⟨gb270,0,none⟩) (Kd.R_types HO_34.out BK270.out (by decide)) (fun _ hk=>hk.2) (.int .i64 ((rd_T53 t261 x28_1).f0))) (fun _ hk=>hk.2) (.int .i64 ji21)) (fun _ h_=>h_.1))) hb);have n3_:=qK (qB (g:=gb265) (o:=.cells #[.int .i64 ((rd_T53 t261 x28_1).f0),.int .i64 ((rd_T53 t261 x28_1).f1)] 53 (0,0)) (by (with_reducible repeat (first|refine qN ?_ _|refine qW ?_|refine qL ?_ _));refine qR ?_ NB265_270.out _;(with_reducible repeat (first|refine qN ?_ _|refine qW ?_|refine qL ?_ _));refine qR ?_ NB265_270.out _;(with_reducible repeat (first|refine qN ?_ _|refine qW ?_|refine qL ?_ _));exact BK265.out) hb);have n4_:=qK (qB (g:=gb270) (o:=.cells #[.int .i64 ((rd_T53 t261 x28_1).f0),.int .i64 ji21] 53 (0,0)) (by (with_reducible repeat (first|refine qN ?_ _|refine qW ?_|refine qL ?_ _));refine qP (cs:=#[.int .i64 ((rd_T53 t261 x28_1).f0),.int .i64 0]) ?_ 1 _ rfl;(with_reducible repeat (first|refine qN ?_ _|refine qW ?_|refine qL ?_ _));refine qP (cs:=#[.int .i64 0,.int .i64 0]) ?_ 0 _ rfl;(with_reducible repeat (first|refine qN ?_ _|refine qW ?_|refine qL ?_ _));exact BK270.out) hb);have n5_:=qK (qT (by repeat (with_reducible first|exact HB.out|apply qA|apply qD|apply qO|refine qS ?_ GE265.out|refine qS ?_ GE270.out)) hb);clear HO_6;clear HO_26;clear HO_34;clear BK265;clear BK270;clear HB;have HO_6:=n0_;have HO_26:=n1_;have HO_34:=n2_;have BK265:=n3_;have BK270:=n4_;have HB:=n5_;clear n0_ n1_ n2_ n3_ n4_ n5_;(try clear hb)))
              go_roundg k2
              case measure=>have:=HK1.out;have:=HK2.out;omega
              case rel=>exact ⟨(x6_2),(wrap64 (x36_2 + 1)),(by first|rfl|(simp;done)|(simp [*];done)),H',⟨by have:=HK1.out;have:=HK2.out;omega⟩,⟨by (with_reducible repeat (first|apply rL|apply rN|apply rW));exact Kd.R_mono HO_6.out (fun _ hk=>⟨hk.1.1,hk.1.2⟩)⟩,⟨by (with_reducible repeat (first|apply rL|apply rN|apply rW));exact Kd.R_mono HO_26.out (fun _ hk=>⟨hk.1.1,hk.1.2⟩)⟩,⟨by (with_reducible repeat (first|apply rL|apply rN|apply rW));exact HO_34.out⟩,⟨by (with_reducible repeat (first|refine qN ?_ _|refine qW ?_|refine qL ?_ _));exact BK265.out⟩,⟨by repeat (first|(with_reducible first|exact HB.out|apply qA|apply qD|apply qO|refine qS ?_ GE265.out|refine qS ?_ GE270.out)|exact HB.out)⟩⟩
             ·replace c23:=Bool.eq_false_iff.mpr c23;subst c23;have H1:(if x6_2.length < 8796093022208 then (impl_CoverOf.l1 k2 (x6_2 ++ [(⟨((rd_T53 t261 x28_1).f0),ji21⟩:S53)]) t261 (t261.length:Int) x28_1 t266 (t266.length:Int) (wrap64 (x36_2 + 1)) ((rd_T53 t261 x28_1).f0) ((rd_T53 t261 x28_1).f1)) else (none))=some (r1,r2):=by rw [if_neg (show ¬ (false=true) by decide)] at H;exact H
              clear H;have H:=H1;clear H1;by_cases c32:x6_2.length < 8796093022208
              ·rw [if_pos c32] at H;have LMc32:=qK c32;clear c32;obtain ⟨y272,hy272⟩:∃ y_:List (S53),y_=(x6_2 ++ [(⟨((rd_T53 t261 x28_1).f0),ji21⟩:S53)]):=⟨_,rfl⟩;replace H:(impl_CoverOf.l1 k2 y272 t261 (t261.length:Int) x28_1 t266 (t266.length:Int) (wrap64 (x36_2 + 1)) ((rd_T53 t261 x28_1).f0) ((rd_T53 t261 x28_1).f1))=some (r1,r2):=by first|(rw [hy272];with_reducible exact H)|(have H2_:=(Option.bind_some _ _).symm.trans H;rw [hy272];with_reducible exact H2_)|(have H2_:=(Option.bind_some _ _).symm.trans H;with_reducible exact H2_)|with_reducible exact H|(rw [hy272];exact H)|exact H
               have Ny272:=qK hy272;clear hy272;have H':=qK H;clear H;have p269:0≤(x36_2:Int):=of_decide_eq_true (by first|(with_reducible assumption)|assumption);have q269:x36_2 < (t266.length:Int):=of_decide_eq_true (by first|(with_reducible assumption)|assumption);obtain ⟨ad269,e269,hx269_0⟩:=Kd.at_int (Kd.R_reads' HO_34.out).2.2 x36_2 p269 q269;cases e269
               replace p269:=eq_true p269;replace q269:=eq_true q269;try go_wp2
               (try (rw [drewN_self wr];generalize hq_:World.drewN wr _=wr;have n0_:Aside0 (Kd.R k53 53 wr w.heap.size (fun k_=>some k_ ≠ (u6:Value).ownBlock∧k_ ≠ gb265) (.slice (some ad264) t261.length co8) t261):=⟨by rw [← hq_];exact (by (with_reducible repeat (first|apply rL|apply rN|apply rW));exact HO_26.out)⟩;have n1_:Aside0 (Kd.R (Kd.int .i64) 3 wr w.heap.size (fun _=>True) (.slice (some ad269) t266.length co16) t266):=⟨by rw [← hq_];exact (by (with_reducible repeat (first|apply rL|apply rN|apply rW));exact HO_34.out)⟩;have n2_:Aside0 (Kd.R k53 53 wr w.heap.size (fun k_=>some k_ ≠ (.slice (some ad264) t261.length co8:Value).ownBlock∧k_ ≠ gb265) u6 x6_2):=⟨by rw [← hq_];exact (by (with_reducible repeat (first|apply rL|apply rN|apply rW));exact HO_6.out)⟩;have n3_:Aside0 (wr.heap[gb265]?=some (.cells #[.int .i64 ((rd_T53 t261 x28_1).f0),.int .i64 ((rd_T53 t261 x28_1).f1)] 53 (0,0))):=⟨by rw [← hq_];exact (by (with_reducible repeat (first|refine qN ?_ _|refine qW ?_|refine qL ?_ _));exact BK265.out)⟩;have n4_:Aside0 (Below w.heap.size w wr):=⟨by rw [← hq_];exact (by repeat (with_reducible first|exact HB.out|apply qA|apply qD|apply qO|refine qS ?_ GE265.out))⟩;clear HO_26 HO_34 HO_6 BK265 HB hq_;have HO_26:=n0_;have HO_34:=n1_;have HO_6:=n2_;have BK265:=n3_;have HB:=n4_;clear n0_ n1_ n2_ n3_ n4_));have n0_:=qK (rW HO_6.out);have n1_:=qK (rW HO_26.out);have n2_:=qK (rW HO_34.out);have n3_:=qK (qW BK265.out);have n4_:=qK (qO HB.out);clear HO_6;clear HO_26;clear HO_34;clear BK265;clear HB;have HO_6:=n0_;have HO_26:=n1_;have HO_34:=n2_;have BK265:=n3_;have HB:=n4_;clear n0_ n1_ n2_ n3_ n4_;refine start_ (n:=7) (S:=fun w'=>w'.cell? ⟨gb265,0,none⟩=some (.int .i64 ((rd_T53 t261 x28_1).f0))∧w'.cell? ⟨gb265,1,none⟩=some (.int .i64 ((rd_T53 t261 x28_1).f1))) (ds:=[]) #[Z,Z,Z,Z,Z,Z,Z] (by kernel_rfl) rfl rfl ⟨(qC BK265.out 0).trans rfl,(qC BK265.out 1).trans rfl⟩ (fun hHeld=>?_);generalize wr.drew=w33 at HO_6 HO_26 HO_34 BK265 HB hHeld ⊢
               refine pure_ (i:=0) (N:=some 40) (v:=?_) (a':=?_) #[Y,Z,Z,Z,Z,Z,Z] rfl rfl (by kernel_rfl) (fun _ _ _ h=>h) (Or.inl ⟨by rfl,?_⟩) ?_ ?_;rotate_left
               ·intro w';go_simp;with_reducible rfl
               rotate_left
               ·simp only [Act.put,sIb,sZ,sS,i64_w,i32_w];rfl
               refine pure_ (i:=2) (N:=some 42) (v:=?_) (a':=?_) #[Y,Z,Y,Z,Z,Z,Z] rfl rfl (by kernel_rfl) (fun _ _ _ h=>h) (Or.inl ⟨by rfl,?_⟩) ?_ ?_;rotate_left
               ·intro w';go_simp;with_reducible rfl
               rotate_left
               ·simp only [Act.put,sIb,sZ,sS,i64_w,i32_w];rfl
               refine pure_ (i:=3) (N:=some 43) (v:=?_) (a':=?_) #[Y,Z,Y,Y,Z,Z,Z] rfl rfl (by kernel_rfl) (fun _ _ _ h=>h) (Or.inl ⟨by rfl,?_⟩) ?_ ?_;rotate_left
               ·intro w';go_simp;with_reducible rfl
               rotate_left
               ·simp only [Act.put,sIb,sZ,sS,i64_w,i32_w];rfl
               refine take_ (i:=1) (N:=some 41) (v:=?_) (a':=?_) #[Y,Y,Y,Y,Z,Z,Z] rfl rfl (by kernel_rfl) (fun _ _ _ h=>h) (Or.inl ⟨by rfl,?_⟩) hHeld ?_ ?_;rotate_left
               ·rintro w' ⟨s0,s1⟩;go_simp;with_reducible rfl
               rotate_left
               ·simp only [Act.put,sIb,sZ,sS,i64_w,i32_w];rfl
               refine pure_ (i:=4) (N:=some 44) (v:=?_) (a':=?_) #[Y,Y,Y,Y,Y,Z,Z] rfl rfl (by kernel_rfl) (fun _ _ _ h=>h) (Or.inl ⟨by rfl,?_⟩) ?_ ?_;rotate_left
               ·intro w';go_simp;with_reducible rfl
               rotate_left
               ·simp only [Act.put,sIb,sZ,sS,i64_w,i32_w];rfl
               refine one_ (i:=5) (N:=some 11) #[Y,Y,Y,Y,Y,Y,Z] rfl rfl (by kernel_rfl) (by decide) (fun K hK=>?_);refine box_step ?hg (N:=11) ?hd (cs:=#[.int .i64 0,.int .i64 0]) (t:=53) ?hr ?_;(case hd=>rfl);(case hg=>rfl);(case hr=>(go_simp;try rfl));intro gb270 hg w34 hbox hb;have n0_:=qK (rB (Kd.R_elderB (by (with_reducible repeat (first|apply rL|apply rN|apply rW));exact HO_6.out) gb270 (Nat.le_of_eq hg.symm)) hb);have n1_:=qK (rB (Kd.R_elderB (by (with_reducible repeat (first|apply rL|apply rN|apply rW));exact HO_26.out) gb270 (Nat.le_of_eq hg.symm)) hb);have n2_:=qK (rB (by (with_reducible repeat (first|apply rL|apply rN|apply rW));exact HO_34.out) hb);have n3_:=qK (qB (g:=gb265) (o:=_) (by (with_reducible repeat (first|refine qN ?_ _|refine qW ?_|refine qL ?_ _));exact BK265.out) hb);have n4_:=qK (qT (by repeat (with_reducible first|exact HB.out|apply qA|apply qD|apply qO|refine qS ?_ GE265.out)) hb);have n5_:=qK (hbox);have n6_:=qK ((by rw [hg];exact (qZ (by repeat (with_reducible first|exact HB.out|apply qA|apply qD|apply qO|refine qS ?_ GE265.out))):w.heap.size≤gb270));have n7_:=qK ((by rw [hg];exact (qZ (by repeat (with_reducible first|exact HB.out|apply qA|apply qD|apply qO|refine qS ?_ GE265.out))):w.heap.size≤gb270));have n8_:=qK ((by rw [hg];exact Nat.ne_of_lt (blk_lt (g:=gb265) (o:=_) (by (with_reducible repeat (first|refine qN ?_ _|refine qW ?_|refine qL ?_ _));exact BK265.out)):gb265 ≠ gb270));have n9_:=qK ((by rw [hg];exact Nat.ne_of_gt (blk_lt (g:=gb265) (o:=_) (by (with_reducible repeat (first|refine qN ?_ _|refine qW ?_|refine qL ?_ _));exact BK265.out)):gb270 ≠ gb265));clear HO_6;clear HO_26;clear HO_34;clear BK265;clear HB;have HO_6:=n0_;have HO_26:=n1_;have HO_34:=n2_;have BK265:=n3_;have HB:=n4_;have BK270:=n5_;have GW270:=n6_;have GE270:=n7_;have NB265_270:=n8_;have NB270_265:=n9_;clear n0_ n1_ n2_ n3_ n4_ n5_ n6_ n7_ n8_ n9_;clear hb hbox hg;refine hK.out _ _ ⟨(qC BK265.out 0).trans rfl,(qC BK265.out 1).trans rfl⟩ (fun hHeld=>?_);clear hK K;refine norm_ (a':=?_) ?_ ?_;rotate_left
               ·show Act.put _ (some 11) _=_
                simp only [Act.put,sIb,sZ,sS,i64_w,i32_w];rfl
               refine one_ (i:=6) (N:=none) #[Y,Y,Y,Y,Y,Y,Y] rfl rfl (by kernel_rfl) (by decide) (fun K hK=>?_);have hs35:w34.cell? ⟨gb270,0,none⟩=some (.int .i64 0):=(qC BK270.out 0).trans rfl;have hfs35:=qF BK270.out 0;have hns35_0:=NB265_270.out;have hms35_0:=NB270_265.out;have hs36:w34.cell? ⟨gb270,1,none⟩=some (.int .i64 0):=(qC BK270.out 1).trans rfl;have hfs36:=qF BK270.out 1;have hns36_0:=NB265_270.out;have hms36_0:=NB270_265.out;refine skip_ (w1:=?_) (by rfl) rfl ?_ ?_;rotate_left
               ·go_simp;rfl
               refine hK.out _ _ ⟨((cell_far (p:=⟨gb270,_,none⟩) NB265_270.out _).trans (((cell_far (p:=⟨gb270,_,none⟩) NB265_270.out _).trans (hHeld.1)))),((cell_far (p:=⟨gb270,_,none⟩) NB265_270.out _).trans (((cell_far (p:=⟨gb270,_,none⟩) NB265_270.out _).trans (hHeld.2))))⟩ (fun hHeld=>?_);clear hK K;refine done_ (by kernel_rfl) ?_;have hnb37:=NB270_265.out;have hnc37:=NB265_270.out;have hcz38_0:w34.cell? ⟨gb270,0,none⟩=some (.int .i64 0):=(qC BK270.out 0).trans rfl;have hcz38_1:w34.cell? ⟨gb270,1,none⟩=some (.int .i64 0):=(qC BK270.out 1).trans rfl;have hfz38_0:=qF BK270.out 0;have hfz38_1:=qF BK270.out 1;obtain ⟨Ao39,co39,eo39⟩:=Kd.R_slice HO_6.out;subst eo39;try go_wp2_with (first|((with_reducible refine gate_callee (f:=26) rfl ?_);refine goesL_ (some 47) rfl rfl Try.func26 (by kernel_rfl) rfl #[.slice Ao39 x6_2.length co39,.agg #[.int .i64 ((rd_T53 t261 x28_1).f0),.int .i64 ji21]] rfl (by (try simp only [mT,mC,mN]);first|done|(simp only [hji21];rfl)|rfl|(simp only [lD,lT];rfl)) ?_;(with_reducible refine (impl_rule_26.calls k2 _ _ x6_2 ((rd_T53 t261 x28_1).f0) ji21 false _ ?side1 ?side2 A22.out).mono ?_);(case side1=>refine (Kd.R_reads' (e:=53) (base:=w.heap.size) (ok:=fun k_=>((some k_ ≠ (.slice (some ad264) t261.length co8:Value).ownBlock∧k_ ≠ gb265)∧k_ ≠ gb270)) (n:=x6_2.length) (c:=co39) ?_).2.2;exact (by (with_reducible repeat (first|apply rL|apply rN|apply rW));exact (Kd.R_mono (Kd.R_far (p:=⟨gb270,1,none⟩) (Kd.R_far (p:=⟨gb270,0,none⟩) (Kd.R_mono HO_6.out (fun k_ hk=>(⟨hk,hk.2⟩:_∧k_ ≠ gb270))) (fun _ hk=>hk.2) (.int .i64 ((rd_T53 t261 x28_1).f0))) (fun _ hk=>hk.2) (.int .i64 ji21)) (fun _ h_=>h_.1))));(case side2=>exact (Kd.R_reads' HO_6.out).2.1);rintro e w40 ⟨rfl,hb⟩;refine ⟨_,rfl,?_⟩;have n0_:=qK (rB (by (with_reducible repeat (first|apply rL|apply rN|apply rW));exact (Kd.R_mono (Kd.R_far (p:=⟨gb270,1,none⟩) (Kd.R_far (p:=⟨gb270,0,none⟩) (Kd.R_mono HO_6.out (fun k_ hk=>(⟨hk,hk.2⟩:_∧k_ ≠ gb270))) (fun _ hk=>hk.2) (.int .i64 ((rd_T53 t261 x28_1).f0))) (fun _ hk=>hk.2) (.int .i64 ji21)) (fun _ h_=>h_.1))) hb);have n1_:=qK (rB (by (with_reducible repeat (first|apply rL|apply rN|apply rW));exact (Kd.R_mono (Kd.R_far (p:=⟨gb270,1,none⟩) (Kd.R_far (p:=⟨gb270,0,none⟩) (Kd.R_mono HO_26.out (fun k_ hk=>(⟨hk,hk.2⟩:_∧k_ ≠ gb270))) (fun _ hk=>hk.2) (.int .i64 ((rd_T53 t261 x28_1).f0))) (fun _ hk=>hk.2) (.int .i64 ji21)) (fun _ h_=>h_.1))) hb);have n2_:=qK (rB (by (with_reducible repeat (first|apply rL|apply rN|apply rW));exact (Kd.R_mono (Kd.R_far (p:=⟨gb270,1,none⟩) (Kd.R_far (p:=⟨gb270,0,none⟩) (Kd.R_types HO_34.out BK270.out (by decide)) (fun _ hk=>hk.2) (.int .i64 ((rd_T53 t261 x28_1).f0))) (fun _ hk=>hk.2) (.int .i64 ji21)) (fun _ h_=>h_.1))) hb);have n3_:=qK (qB (g:=gb265) (o:=.cells #[.int .i64 ((rd_T53 t261 x28_1).f0),.int .i64 ((rd_T53 t261 x28_1).f1)] 53 (0,0)) (by (with_reducible repeat (first|refine qN ?_ _|refine qW ?_|refine qL ?_ _));refine qR ?_ NB265_270.out _;(with_reducible repeat (first|refine qN ?_ _|refine qW ?_|refine qL ?_ _));refine qR ?_ NB265_270.out _;(with_reducible repeat (first|refine qN ?_ _|refine qW ?_|refine qL ?_ _));exact BK265.out) hb);have n4_:=qK (qB (g:=gb270) (o:=.cells #[.int .i64 ((rd_T53 t261 x28_1).f0),.int .i64 ji21] 53 (0,0)) (by (with_reducible repeat (first|refine qN ?_ _|refine qW ?_|refine qL ?_ _));refine qP (cs:=#[.int .i64 ((rd_T53 t261 x28_1).f0),.int .i64 0]) ?_ 1 _ rfl;(with_reducible repeat (first|refine qN ?_ _|refine qW ?_|refine qL ?_ _));refine qP (cs:=#[.int .i64 0,.int .i64 0]) ?_ 0 _ rfl;(with_reducible repeat (first|refine qN ?_ _|refine qW ?_|refine qL ?_ _));exact BK270.out) hb);have n5_:=qK (qT (by repeat (with_reducible first|exact HB.out|apply qA|apply qD|apply qO|refine qS ?_ GE265.out|refine qS ?_ GE270.out)) hb);clear HO_6;clear HO_26;clear HO_34;clear BK265;clear BK270;clear HB;have HO_6:=n0_;have HO_26:=n1_;have HO_34:=n2_;have BK265:=n3_;have BK270:=n4_;have HB:=n5_;clear n0_ n1_ n2_ n3_ n4_ n5_;(try clear hb);have hcz41_0:w40.cell? ⟨gb270,0,none⟩=some (.int .i64 ((rd_T53 t261 x28_1).f0)):=(qC BK270.out 0).trans rfl;have hcz41_1:w40.cell? ⟨gb270,1,none⟩=some (.int .i64 ji21):=(qC BK270.out 1).trans rfl;have hfz41_0:=qF BK270.out 0;have hfz41_1:=qF BK270.out 1)|((with_reducible refine gate_builtin (b:=.append) (xs:=#[.tmp 49,.tmp 51]) rfl ?_);at_builtin;refine Kd.R_append k53 (w0:=w) w.heap.size rfl (.tmp 49) (.tmp 51) 49 53 (.agg #[(.int .i64 0),(.int .i64 0)]) 16 rfl Try.underlying49 info53 rfl (by decide) (by omega) (.slice Ao39 x6_2.length co39) x6_2 (⟨((rd_T53 t261 x28_1).f0),ji21⟩:S53) [.int .i64 ((rd_T53 t261 x28_1).f0),.int .i64 ji21] (fun k_=>some k_ ≠ (.slice (some ad264) t261.length co8:Value).ownBlock∧k_ ≠ gb265∧k_ ≠ gb270) (fun _=>False) rfl rfl ?aP (fun _ hk=>hk.elim) ?aF ?aO ?aB ?aS ?aL ?_;(case aP=>exact k53_mkM _ _ _ (⟨((rd_T53 t261 x28_1).f0),ji21⟩:S53));(case aB=>exact (by repeat (with_reducible first|exact HB.out|apply qA|apply qD|apply qO|refine qS ?_ GE265.out|refine qS ?_ GE270.out)));(case aF=>exact (fun k_ hk=>⟨Kd.fresh' (Kd.R_lt (by (with_reducible repeat (first|apply rL|apply rN|apply rW));exact HO_26.out)) k_ hk,Kd.freshB (g:=gb265) (o:=_) (by (with_reducible repeat (first|refine qN ?_ _|refine qW ?_|refine qL ?_ _));exact BK265.out) k_ hk,Kd.freshB (g:=gb270) (o:=_) (by (with_reducible repeat (first|refine qN ?_ _|refine qW ?_|refine qL ?_ _));exact BK270.out) k_ hk⟩));(case aO=>exact (by (with_reducible repeat (first|apply rL|apply rN|apply rW));exact Kd.R_mono HO_6.out (fun _ hk=>⟨hk.1.1,⟨hk.1.2,hk.2⟩⟩)));(case aS=>exact (qZ (by repeat (with_reducible first|exact HB.out|apply qA|apply qD|apply qO|refine qS ?_ GE265.out|refine qS ?_ GE270.out))));(case aL=>have:=LMc32.out;omega);intro v273 w42 ho hb hg hat;rw [← Ny272.out] at ho;have n0_:=qK (Kd.R_after (ok:=(fun k_=>k_ ≠ gb265∧k_ ≠ gb270)) (by (with_reducible repeat (first|apply rL|apply rN|apply rW));exact Kd.R_mono HO_26.out (fun _ hk=>⟨⟨hk.1.2,hk.2⟩,hk.1.1⟩)) hg hat);have n1_:=qK (Kd.R_over' (by (with_reducible repeat (first|apply rL|apply rN|apply rW));exact HO_34.out) (Kd.R_typed (by (with_reducible repeat (first|apply rL|apply rN|apply rW));exact HO_6.out)) (by decide) hg);have n2_:=qK (blk_grown (g:=gb265) (o:=_) (by (with_reducible repeat (first|refine qN ?_ _|refine qW ?_|refine qL ?_ _));exact BK265.out) hg (Kd.R_away HO_6.out (fun _ hk=>hk.1.2)));have n3_:=qK (blk_grown (g:=gb270) (o:=_) (by (with_reducible repeat (first|refine qN ?_ _|refine qW ?_|refine qL ?_ _));exact BK270.out) hg (Kd.R_away HO_6.out (fun _ hk=>hk.2)));have n4_:=qK (hb);have n5_:=qK (ho);clear HO_26;clear HO_34;clear BK265;clear BK270;clear HB;clear HO_6;have HO_26:=n0_;have HO_34:=n1_;have BK265:=n2_;have BK270:=n3_;have HB:=n4_;have HO274:=n5_;clear n0_ n1_ n2_ n3_ n4_ n5_;clear ho hb hg hat))
               go_roundg k2
               case measure=>have:=HK1.out;have:=HK2.out;omega
               case rel=>exact ⟨(y272),(wrap64 (x36_2 + 1)),(by first|rfl|(simp;done)|(simp [*];done)),H',⟨by have:=HK1.out;have:=HK2.out;omega⟩,⟨by (with_reducible repeat (first|apply rL|apply rN|apply rW));exact Kd.R_mono HO274.out (fun _ hk=>⟨hk.1,hk.2.1⟩)⟩,⟨by (with_reducible repeat (first|apply rL|apply rN|apply rW));exact Kd.R_mono HO_26.out (fun _ hk=>⟨hk.2,hk.1.1⟩)⟩,⟨by (with_reducible repeat (first|apply rL|apply rN|apply rW));exact HO_34.out⟩,⟨by (with_reducible repeat (first|refine qN ?_ _|refine qW ?_|refine qL ?_ _));exact BK265.out⟩,⟨by repeat (first|(with_reducible first|exact HB.out|apply qA|apply qD|apply qO|refine qS ?_ GE265.out|refine qS ?_ GE270.out)|exact HB.out)⟩⟩
              ·rw [if_neg c32] at H;exact absurd H (by simp)
            ·rw [if_neg c20] at H;exact absurd H (by simp)
           ·rw [if_neg c19] at H;exact absurd H (by simp)
          ·rw [if_neg c18] at H;exact absurd H (by simp)
         ·rw [if_neg c17] at H;have c17b0:decide (x36_2 < (t266.length:Int))=false:=decide_eq_false c17;clear c17;have H':=qK H;clear H;go_wp2
          go_roundg k2
          case measure=>have:=HK1.out;have:=HK2.out;omega
          case rel=>exact ⟨(x6_2),(wrap64 (x28_1 + 1)),(by first|rfl|(simp;done)|(simp [*];done)),H',⟨by have:=HK1.out;have:=HK2.out;omega⟩,⟨by (with_reducible repeat (first|apply rL|apply rN|apply rW));exact Kd.R_mono HO_6.out (fun _ hk=>hk.1)⟩,⟨by (with_reducible repeat (first|apply rL|apply rN|apply rW));exact Kd.R_mono HO_26.out (fun _ hk=>hk.1)⟩,⟨by repeat (first|(with_reducible first|exact HB.out|apply qA|apply qD|apply qO|refine qS ?_ GE265.out)|exact HB.out)⟩⟩
      ·rw [if_neg c11] at H;exact absurd H (by simp)
     ·rw [if_neg c10] at H;exact absurd H (by simp)
    ·rw [if_neg c9] at H;have c9b0:decide (x28_1 < (t261.length:Int))=false:=decide_eq_false c9;clear c9;have H':=qK H;clear H;obtain ⟨Ao43,co43,eo43⟩:=Kd.R_slice HO_6.out;subst eo43;go_wp2
     go_loopg [57] k1 (fun kq v57 w'=>∃ (x6_2:List (S53)) (x57_2:Int),v57=.int .i64 x57_2∧Aside0 (impl_CoverOf.l2 kq x6_2 (x6_1.length:Int) x57_2=some (r1,r2))∧Aside0 (kq≤k1)∧Aside0 (Kd.R k53 53 w' w.heap.size (fun _=>True) (.slice Ao43 x6_1.length co43) x6_2)∧Aside0 (Below w.heap.size w w'))
     case atStart=>exact ⟨(x6_1),(0),(by first|rfl|(simp;done)|(simp [*];done)),H',⟨Nat.le_refl _⟩,⟨by (with_reducible repeat (first|apply rL|apply rN|apply rW));exact Kd.R_mono HO_6.out (fun _ hk=>trivial)⟩,⟨by repeat (first|(with_reducible first|exact HB.out|apply qA|apply qD|apply qO)|exact HB.out)⟩⟩
     case round =>
      clear H';try clear c1
      try clear c2
      try clear p2
      try clear q2
      try clear hx2
      try clear c3
      try clear c4
      try clear p6
      try clear c8
      try clear c9
      try clear c9b0
      try clear c10
      try clear c10b0
      try clear c11
      try clear c11b0
      try clear c17
      try clear c17b0
      try clear c18
      try clear c18b0
      try clear c19
      try clear c19b0
      try clear c20
      try clear c20b0
      try clear c20b1
      try clear c23
      try clear c24
      try clear c25
      try clear c26
      try clear p26
      try clear q26
      try clear hx26
      try clear c28
      try clear c32
      try clear c37
      try clear hcz14_0
      try clear hcz14_1
      try clear hcz29_0
      try clear hcz29_1
      try clear hcz38_0
      try clear hcz38_1
      try clear hcz41_0
      try clear hcz41_1
      try clear hfz14_0
      try clear hfz14_1
      try clear hfz29_0
      try clear hfz29_1
      try clear hfz38_0
      try clear hfz38_1
      try clear hfz41_0
      try clear hfz41_1
      try clear hx264_0
      try clear hx264_1
      try clear hx269_0
      try clear p2
      try clear p264
      try clear p269
      try clear q2
      try clear q264
      try clear q269
      obtain ⟨x6_2,x57_2,rfl,HA,HK2,HO_6,HB⟩:=hrel;have hl6_2:=(Kd.R_reads' HO_6.out).1;rw [hl6_2] at HO_6;(try simp only [hl6_2]);cases gk with
      | zero=>exact absurd HA.out (by simp [impl_CoverOf.l2])
      | succ k2 =>
       have H:=HA.out;clear HA;simp only [impl_CoverOf.l2] at H;by_cases c44:x57_2 < (x6_1.length:Int)
       ·rw [if_pos c44] at H;have c44b0:decide (x57_2 < (x6_1.length:Int))=true:=decide_eq_true c44;clear c44;by_cases c45:0≤x57_2
        ·rw [if_pos c45] at H;have c45b0:decide (0≤x57_2)=true:=decide_eq_true c45;clear c45;by_cases c46:x57_2 < (x6_2.length:Int)
         ·rw [if_pos c46] at H;have c46b0:decide (x57_2 < (x6_2.length:Int))=true:=decide_eq_true c46;clear c46;replace H:=Option.bind_eq_some_iff.mp H;obtain ⟨t276,A470,H⟩:=H;replace H:(impl_CoverOf.l3 k2 x6_2 x57_2 (x6_1.length:Int) x57_2 t276 (t276.length:Int) 0)=some (r1,r2):=H;have A47:=qK A470;clear A470;have H':=qK H;clear H;have p275:0≤(x57_2:Int):=of_decide_eq_true (by first|(with_reducible assumption)|assumption);have q275:x57_2 < (x6_2.length:Int):=of_decide_eq_true (by first|(with_reducible assumption)|assumption);obtain ⟨ad275,e275,hx275_0,hx275_1⟩:=at_T53 (Kd.R_reads' HO_6.out).2.2 x57_2 p275 q275;cases e275
          replace p275:=eq_true p275;replace q275:=eq_true q275;go_wp2_with (first|((with_reducible refine gate_callee (f:=25) rfl ?_);refine goesL_ (some 65) rfl rfl Try.func25 (by kernel_rfl) rfl #[.int .i64 ((rd_T53 x6_2 x57_2).f0)] rfl (by (try simp only [mT,mC,mN]);first|done|rfl|(simp only [lD,lT];rfl)) ?_;(with_reducible refine (impl_set_list.calls k2 ((rd_T53 x6_2 x57_2).f0) t276 _ A47.out).mono ?_);rintro e w48 ⟨v277,rfl,ho0,hb⟩;refine ⟨_,rfl,?_⟩;have n0_:=qK (rB (by (with_reducible repeat (first|apply rL|apply rN|apply rW));exact HO_6.out) hb);have n1_:=qK (Kd.R_lower ho0 (qZ (by repeat (with_reducible first|exact HB.out|apply qA|apply qD|apply qO))));have n2_:=qK (qT (by repeat (with_reducible first|exact HB.out|apply qA|apply qD|apply qO)) hb);clear HO_6;clear HB;have HO_6:=n0_;have HO278:=n1_;have HB:=n2_;clear n0_ n1_ n2_;(try clear hb);(try clear ho0);obtain ⟨Ao49,co49,eo49⟩:=Kd.R_slice HO278.out;subst eo49))
          go_loopg [67] k2 (fun kq v67 w'=>∃ (x6_3:List (S53)) (x67_3:Int),v67=.int .i64 x67_3∧Aside0 (impl_CoverOf.l3 kq x6_3 x57_2 (x6_1.length:Int) x57_2 t276 (t276.length:Int) x67_3=some (r1,r2))∧Aside0 (kq≤k2)∧Aside0 (Kd.R k53 53 w' w.heap.size (fun _=>True) (.slice (some ad275) x6_2.length co43) x6_3)∧Aside0 (Kd.R (Kd.int .i64) 3 w' w.heap.size (fun _=>True) (.slice Ao49 t276.length co49) t276)∧Aside0 (Below w.heap.size w w'))
          case atStart=>exact ⟨(x6_2),(0),(by first|rfl|(simp;done)|(simp [*];done)),H',⟨Nat.le_refl _⟩,⟨by (try simp only [hl6_2]);(with_reducible repeat (first|apply rL|apply rN|apply rW));exact HO_6.out⟩,⟨by (try simp only [hl6_2]);(with_reducible repeat (first|apply rL|apply rN|apply rW));exact HO278.out⟩,⟨by repeat (first|(with_reducible first|exact HB.out|apply qA|apply qD|apply qO)|exact HB.out)⟩⟩
          case round =>
           clear H';try clear c1
           try clear c2
           try clear p2
           try clear q2
           try clear hx2
           try clear c3
           try clear c4
           try clear p6
           try clear c8
           try clear c9
           try clear c9b0
           try clear c10
           try clear c10b0
           try clear c11
           try clear c11b0
           try clear c17
           try clear c17b0
           try clear c18
           try clear c18b0
           try clear c19
           try clear c19b0
           try clear c20
           try clear c20b0
           try clear c20b1
           try clear c23
           try clear c24
           try clear c25
           try clear c26
           try clear p26
           try clear q26
           try clear hx26
           try clear p27
           try clear q27
           try clear hx27
           try clear c28
           try clear c32
           try clear c37
           try clear c44
           try clear c44b0
           try clear c45
           try clear c45b0
           try clear c46
           try clear c46b0
           try clear hcz14_0
           try clear hcz14_1
           try clear hcz29_0
           try clear hcz29_1
           try clear hcz38_0
           try clear hcz38_1
           try clear hcz41_0
           try clear hcz41_1
           try clear hfz14_0
           try clear hfz14_1
           try clear hfz29_0
           try clear hfz29_1
           try clear hfz38_0
           try clear hfz38_1
           try clear hfz41_0
           try clear hfz41_1
           try clear hx264_0
           try clear hx264_1
           try clear hx269_0
           try clear hx275_0
           try clear hx275_1
           try clear p2
           try clear p26
           try clear p264
           try clear p269
           try clear p275
           try clear p6
           try clear q2
           try clear q26
           try clear q264
           try clear q269
           try clear q275
           obtain ⟨x6_3,x67_3,rfl,HA,HK3,HO_6,HO_65,HB⟩:=hrel;have hl6_3:=(Kd.R_reads' HO_6.out).1;rw [hl6_3] at HO_6;(try simp only [hl6_3]);(try simp only [hl6_3] at HO_65);cases gk with
           | zero=>exact absurd HA.out (by simp [impl_CoverOf.l3])
           | succ k3 =>
            have H:=HA.out;clear HA;simp only [impl_CoverOf.l3] at H;by_cases c50:x67_3 < (t276.length:Int)
            ·rw [if_pos c50] at H;have c50b0:decide (x67_3 < (t276.length:Int))=true:=decide_eq_true c50;clear c50;by_cases c51:0≤x67_3
             ·rw [if_pos c51] at H;have c51b0:decide (0≤x67_3)=true:=decide_eq_true c51;clear c51;by_cases c52:x67_3 < (t276.length:Int)
              ·rw [if_pos c52] at H;have c52b0:decide (x67_3 < (t276.length:Int))=true:=decide_eq_true c52;clear c52;by_cases c53:0≤x57_2
               ·rw [if_pos c53] at H;have c53b0:decide (0≤x57_2)=true:=decide_eq_true c53;clear c53;by_cases c54:x57_2 < (x6_3.length:Int)
                ·rw [if_pos c54] at H;have c54b0:decide (x57_2 < (x6_3.length:Int))=true:=decide_eq_true c54;clear c54;by_cases c55:0≤(rd t276 x67_3)
                 ·rw [if_pos c55] at H;have c55b0:=eq_true c55;have c55b1:decide (0≤(rd t276 x67_3))=true:=decide_eq_true c55;clear c55;obtain ⟨ji56,hji56⟩:∃ j_:Int,(shl .i64 1 (rd t276 x67_3))=j_:=⟨_,rfl⟩;replace H:((impl_implies.f k3 x6_3 (Go.bits .andNot .i64 ((rd_T53 x6_3 x57_2).f0) (ji56)) ((rd_T53 x6_3 x57_2).f1)).bind fun t283=>(if t283=true then (impl_CoverOf.l3 k3 (x6_3.set (x57_2:Int).toNat (⟨Go.bits .andNot .i64 ((rd_T53 x6_3 x57_2).f0) (ji56),(rd_T53 x6_3 x57_2).f1⟩:S53)) x57_2 (x6_1.length:Int) x57_2 t276 (t276.length:Int) (wrap64 (x67_3 + 1))) else (impl_CoverOf.l3 k3 x6_3 x57_2 (x6_1.length:Int) x57_2 t276 (t276.length:Int) (wrap64 (x67_3 + 1)))))=some (r1,r2):=by first|(rw [hji56] at H;exact H)|(simp only [hji56] at H ⊢;exact H)
                  have hji56_:(IntKind.i64.wrap (1 * 2 ^ min (rd t276 x67_3).toNat 64))=ji56:=hji56;have hji56z:(rd t276 x67_3)≤64→(IntKind.i64.wrap (1 * 2 ^ (rd t276 x67_3).toNat))=ji56:=shl_small hji56;have hji56u:(IntKind.i64.wrap (2 ^ min (rd t276 x67_3).toNat 64))=ji56:=by have h_:=hji56_;rw [Int.one_mul] at h_;exact h_
                  have hji56v:(rd t276 x67_3)≤64→(IntKind.i64.wrap (2 ^ (rd t276 x67_3).toNat))=ji56:=fun hle_=>by have h_:=hji56z hle_;rw [Int.one_mul] at h_;exact h_
                  have hji56y:(wrap64 (1 * 2 ^ min (rd t276 x67_3).toNat 64))=ji56:=(i64_w _).symm.trans hji56_;have hji56x:(rd t276 x67_3)≤64→(wrap64 (1 * 2 ^ (rd t276 x67_3).toNat))=ji56:=fun h_=>(i64_w _).symm.trans (hji56z h_)
                  replace H:=Option.bind_eq_some_iff.mp H;obtain ⟨t283,A570,H⟩:=H;replace H:(if t283=true then (impl_CoverOf.l3 k3 (x6_3.set (x57_2:Int).toNat (⟨Go.bits .andNot .i64 ((rd_T53 x6_3 x57_2).f0) (ji56),(rd_T53 x6_3 x57_2).f1⟩:S53)) x57_2 (x6_1.length:Int) x57_2 t276 (t276.length:Int) (wrap64 (x67_3 + 1))) else (impl_CoverOf.l3 k3 x6_3 x57_2 (x6_1.length:Int) x57_2 t276 (t276.length:Int) (wrap64 (x67_3 + 1))))=some (r1,r2):=H;have A57:=qK A570;clear A570;by_cases c58:t283=true
                  ·subst c58;have H1:(impl_CoverOf.l3 k3 (x6_3.set (x57_2:Int).toNat (⟨Go.bits .andNot .i64 ((rd_T53 x6_3 x57_2).f0) (ji56),(rd_T53 x6_3 x57_2).f1⟩:S53)) x57_2 (x6_1.length:Int) x57_2 t276 (t276.length:Int) (wrap64 (x67_3 + 1)))=some (r1,r2):=by rw [if_pos rfl] at H;exact H
                   clear H;have H:=H1;clear H1;obtain ⟨y284,hy284⟩:∃ y_:List (S53),y_=(x6_3.set (x57_2:Int).toNat (⟨Go.bits .andNot .i64 ((rd_T53 x6_3 x57_2).f0) (ji56),(rd_T53 x6_3 x57_2).f1⟩:S53)):=⟨_,rfl⟩;replace H:(impl_CoverOf.l3 k3 y284 x57_2 (x6_1.length:Int) x57_2 t276 (t276.length:Int) (wrap64 (x67_3 + 1)))=some (r1,r2):=by first|(rw [hy284];with_reducible exact H)|(have H2_:=(Option.bind_some _ _).symm.trans H;rw [hy284];with_reducible exact H2_)|(have H2_:=(Option.bind_some _ _).symm.trans H;with_reducible exact H2_)|with_reducible exact H|(rw [hy284];exact H)|exact H
                   have Ny284:=qK hy284;clear hy284;have H':=qK H;clear H;have p279:0≤(x67_3:Int):=of_decide_eq_true (by first|(with_reducible assumption)|assumption);have q279:x67_3 < (t276.length:Int):=of_decide_eq_true (by first|(with_reducible assumption)|assumption);obtain ⟨ad279,e279,hx279_0⟩:=Kd.at_int (Kd.R_reads' HO_65.out).2.2 x67_3 p279 q279;cases e279
                   replace p279:=eq_true p279;replace q279:=eq_true q279;try go_wp2
                   (try (rw [drewN_self wr];generalize hq_:World.drewN wr _=wr;have n0_:Aside0 (Kd.R k53 53 wr w.heap.size (fun _=>True) (.slice (some ad275) x6_3.length co43) x6_3):=⟨by rw [← hq_];exact (by (with_reducible repeat (first|apply rL|apply rN|apply rW));exact HO_6.out)⟩;have n1_:Aside0 (Kd.R (Kd.int .i64) 3 wr w.heap.size (fun _=>True) (.slice (some ad279) t276.length co49) t276):=⟨by rw [← hq_];exact (by (with_reducible repeat (first|apply rL|apply rN|apply rW));exact HO_65.out)⟩;have n2_:Aside0 (Below w.heap.size w wr):=⟨by rw [← hq_];exact (by repeat (with_reducible first|exact HB.out|apply qA|apply qD|apply qO))⟩;clear HO_6 HO_65 HB hq_;have HO_6:=n0_;have HO_65:=n1_;have HB:=n2_;clear n0_ n1_ n2_));have n0_:=qK (rW HO_6.out);have n1_:=qK (rW HO_65.out);have n2_:=qK (qO HB.out);clear HO_6;clear HO_65;clear HB;have HO_6:=n0_;have HO_65:=n1_;have HB:=n2_;clear n0_ n1_ n2_;have p280:0≤(x57_2:Int):=of_decide_eq_true (by first|(with_reducible assumption)|assumption);have q280:x57_2 < (x6_3.length:Int):=of_decide_eq_true (by first|(with_reducible assumption)|assumption);obtain ⟨ad280,e280,hx280_0,hx280_1⟩:=at_T53 (Kd.R_reads' HO_6.out).2.2 x57_2 p280 q280;obtain rfl:ad275=ad280:=(by injection e280);replace p280:=eq_true p280;replace q280:=eq_true q280;have p281:0≤(x57_2:Int):=of_decide_eq_true (by first|(with_reducible assumption)|assumption);have q281:x57_2 < (x6_3.length:Int):=of_decide_eq_true (by first|(with_reducible assumption)|assumption);obtain ⟨ad281,e281,hx281_0,hx281_1⟩:=at_T53 (Kd.R_reads' HO_6.out).2.2 x57_2 p281 q281;obtain rfl:ad275=ad281:=(by injection e281);replace p281:=eq_true p281;replace q281:=eq_true q281;refine start_ (n:=16) (S:=fun w'=>w'.cell? (ad275.add ((x57_2).toNat * 2))=some (.int .i64 ((rd_T53 x6_3 x57_2).f0))∧w'.cell? ⟨(ad275.add ((x57_2).toNat * 2)).block,(ad275.add ((x57_2).toNat * 2)).off + 1,none⟩=some (.int .i64 ((rd_T53 x6_3 x57_2).f1))∧w'.cell? (ad275.add ((x57_2).toNat * 2))=some (.int .i64 ((rd_T53 x6_3 x57_2).f0))∧w'.cell? ⟨(ad275.add ((x57_2).toNat * 2)).block,(ad275.add ((x57_2).toNat * 2)).off + 1,none⟩=some (.int .i64 ((rd_T53 x6_3 x57_2).f1))) (ds:=[]) #[Z,Z,Z,Z,Z,Z,Z,Z,Z,Z,Z,Z,Z,Z,Z,Z] (by kernel_rfl) rfl rfl ⟨hx280_0,hx280_1,hx281_0,hx281_1⟩ (fun hHeld=>?_);refine with_tabW impl_CoverOf.tab21 impl_CoverOf.bits21 (fun HT_ HW_=>?_);generalize wr.drew=w60 at HO_6 HO_65 HB hx280_0 hx280_1 hx281_0 hx281_1 hHeld ⊢
                   refine pure_ (i:=0) (N:=some 71) (v:=?_) (a':=?_) #[Y,Z,Z,Z,Z,Z,Z,Z,Z,Z,Z,Z,Z,Z,Z,Z] rfl rfl (any_of HT_.out (by kernel_rfl)) (fun _ _ _ h=>h) (Or.inl ⟨by rfl,?_⟩) ?_ ?_;rotate_left
                   ·intro w';go_simp;with_reducible rfl
                   rotate_left
                   ·simp only [Act.put,sIb,sZ,sS,i64_w,i32_w];rfl
                   refine pure_ (i:=1) (N:=some 72) (v:=?_) (a':=?_) #[Y,Y,Z,Z,Z,Z,Z,Z,Z,Z,Z,Z,Z,Z,Z,Z] rfl rfl (any_of HT_.out (by kernel_rfl)) (fun _ _ _ h=>h) (Or.inl ⟨by rfl,?_⟩) ?_ ?_;rotate_left
                   ·intro w';go_simp;with_reducible rfl
                   rotate_left
                   ·simp only [Act.put,sIb,sZ,sS,i64_w,i32_w];rfl
                   refine pure_ (i:=2) (N:=some 73) (v:=?_) (a':=?_) #[Y,Y,Y,Z,Z,Z,Z,Z,Z,Z,Z,Z,Z,Z,Z,Z] rfl rfl (any_of HT_.out (by kernel_rfl)) (fun _ _ _ h=>h) (Or.inl ⟨by rfl,?_⟩) ?_ ?_;rotate_left
                   ·intro w';go_simp;with_reducible rfl
                   rotate_left
                   ·simp only [Act.put,sIb,sZ,sS,i64_w,i32_w];rfl
                   refine pure_ (i:=3) (N:=some 74) (v:=?_) (a':=?_) #[Y,Y,Y,Y,Z,Z,Z,Z,Z,Z,Z,Z,Z,Z,Z,Z] rfl rfl (any_of HT_.out (by kernel_rfl)) (fun _ _ _ h=>h) (Or.inl ⟨by rfl,?_⟩) ?_ ?_;rotate_left
                   ·intro w';go_simp;with_reducible rfl
                   rotate_left
                   ·simp only [Act.put,sIb,sZ,sS,i64_w,i32_w];rfl
                   refine pure_ (i:=5) (N:=some 76) (v:=?_) (a':=?_) #[Y,Y,Y,Y,Z,Y,Z,Z,Z,Z,Z,Z,Z,Z,Z,Z] rfl rfl (any_of HT_.out (by kernel_rfl)) (fun _ _ _ h=>h) (Or.inl ⟨by rfl,?_⟩) ?_ ?_;rotate_left
                   ·intro w';go_simp;with_reducible rfl
                   rotate_left
                   ·simp only [Act.put,sIb,sZ,sS,i64_w,i32_w];rfl
                   refine pure_ (i:=6) (N:=some 77) (v:=?_) (a':=?_) #[Y,Y,Y,Y,Z,Y,Y,Z,Z,Z,Z,Z,Z,Z,Z,Z] rfl rfl (any_of HT_.out (by kernel_rfl)) (fun _ _ _ h=>h) (Or.inl ⟨by rfl,?_⟩) ?_ ?_;rotate_left
                   ·intro w';go_simp;with_reducible rfl
                   rotate_left
                   ·simp only [Act.put,sIb,sZ,sS,i64_w,i32_w];rfl
                   refine pure_ (i:=8) (N:=some 79) (v:=?_) (a':=?_) #[Y,Y,Y,Y,Z,Y,Y,Z,Y,Z,Z,Z,Z,Z,Z,Z] rfl rfl (any_of HT_.out (by kernel_rfl)) (fun _ _ _ h=>h) (Or.inl ⟨by rfl,?_⟩) ?_ ?_;rotate_left
                   ·intro w';go_simp;with_reducible rfl
                   rotate_left
                   ·simp only [Act.put,sIb,sZ,sS,i64_w,i32_w];rfl
                   refine pure_ (i:=9) (N:=some 80) (v:=?_) (a':=?_) #[Y,Y,Y,Y,Z,Y,Y,Z,Y,Y,Z,Z,Z,Z,Z,Z] rfl rfl (any_of HT_.out (by kernel_rfl)) (fun _ _ _ h=>h) (Or.inl ⟨by rfl,?_⟩) ?_ ?_;rotate_left
                   ·intro w';go_simp;with_reducible rfl
                   rotate_left
                   ·simp only [Act.put,sIb,sZ,sS,i64_w,i32_w];rfl
                   refine pure_ (i:=10) (N:=some 81) (v:=?_) (a':=?_) #[Y,Y,Y,Y,Z,Y,Y,Z,Y,Y,Y,Z,Z,Z,Z,Z] rfl rfl (any_of HT_.out (by kernel_rfl)) (fun _ _ _ h=>h) (Or.inl ⟨by rfl,?_⟩) ?_ ?_;rotate_left
                   ·intro w';go_simp;with_reducible rfl
                   rotate_left
                   ·simp only [Act.put,sIb,sZ,sS,i64_w,i32_w];rfl
                   refine pure_ (i:=11) (N:=some 82) (v:=?_) (a':=?_) #[Y,Y,Y,Y,Z,Y,Y,Z,Y,Y,Y,Y,Z,Z,Z,Z] rfl rfl (any_of HT_.out (by kernel_rfl)) (fun _ _ _ h=>h) (Or.inl ⟨by rfl,?_⟩) ?_ ?_;rotate_left
                   ·intro w';go_simp;with_reducible rfl
                   rotate_left
                   ·simp only [Act.put,sIb,sZ,sS,i64_w,i32_w];rfl
                   refine take_ (i:=4) (N:=some 75) (v:=?_) (a':=?_) #[Y,Y,Y,Y,Y,Y,Y,Z,Y,Y,Y,Y,Z,Z,Z,Z] rfl rfl (take_ofW HT_.out HW_.out (by kernel_rfl)) (fun _ _ _ h=>h) (Or.inl ⟨by rfl,?_⟩) hHeld ?_ ?_;rotate_left
                   ·rintro w' ⟨s0,s1,s2,s3⟩;go_simp;with_reducible rfl
                   rotate_left
                   ·simp only [Act.put,sIb,sZ,sS,i64_w,i32_w];rfl
                   refine pure_ (i:=7) (N:=some 78) (v:=?_) (a':=?_) #[Y,Y,Y,Y,Y,Y,Y,Y,Y,Y,Y,Y,Z,Z,Z,Z] rfl rfl (any_of HT_.out (by kernel_rfl)) (fun _ _ _ h=>h) (Or.inl ⟨by rfl,?_⟩) ?_ ?_;rotate_left
                   ·intro w';go_simp;with_reducible rfl
                   rotate_left
                   ·simp only [Act.put,sIb,sZ,sS,i64_w,i32_w];rfl
                   refine take_ (i:=12) (N:=some 83) (v:=?_) (a':=?_) #[Y,Y,Y,Y,Y,Y,Y,Y,Y,Y,Y,Y,Y,Z,Z,Z] rfl rfl (take_ofW HT_.out HW_.out (by kernel_rfl)) (fun _ _ _ h=>h) (Or.inl ⟨by rfl,?_⟩) hHeld ?_ ?_;rotate_left
                   ·rintro w' ⟨s0,s1,s2,s3⟩;go_simp;with_reducible rfl
                   rotate_left
                   ·simp only [Act.put,sIb,sZ,sS,i64_w,i32_w];rfl
                   refine pure_ (i:=13) (N:=some 84) (v:=?_) (a':=?_) #[Y,Y,Y,Y,Y,Y,Y,Y,Y,Y,Y,Y,Y,Y,Z,Z] rfl rfl (any_of HT_.out (by kernel_rfl)) (fun _ _ _ h=>h) (Or.inl ⟨by rfl,?_⟩) ?_ ?_;rotate_left
                   ·intro w';go_simp;with_reducible rfl
                   rotate_left
                   ·simp only [Act.put,sIb,sZ,sS,i64_w,i32_w];rfl
                   refine one_ (i:=14) (N:=some 15) #[Y,Y,Y,Y,Y,Y,Y,Y,Y,Y,Y,Y,Y,Y,Y,Z] rfl rfl (one_of HT_.out (by kernel_rfl)) (by decide) (fun K hK=>?_);refine box_step ?hg (N:=15) ?hd (cs:=#[.int .i64 0,.int .i64 0]) (t:=53) ?hr ?_;(case hd=>rfl);(case hg=>rfl);(case hr=>(go_simp;try rfl));intro gb282 hg w61 hbox hb;have HS0_:=(hb.cell (World.block_lt_of_cell? _ _ (hHeld.1))).trans (hHeld.1);have HS1_:=(hb.cell (World.block_lt_of_cell? _ _ (hHeld.2.1))).trans (hHeld.2.1);have HS2_:=(hb.cell (World.block_lt_of_cell? _ _ (hHeld.2.2.1))).trans (hHeld.2.2.1);have HS3_:=(hb.cell (World.block_lt_of_cell? _ _ (hHeld.2.2.2))).trans (hHeld.2.2.2);have n0_:=qK (rB (Kd.R_elderB (by (with_reducible repeat (first|apply rL|apply rN|apply rW));exact HO_6.out) gb282 (Nat.le_of_eq hg.symm)) hb);have n1_:=qK (rB (by (with_reducible repeat (first|apply rL|apply rN|apply rW));exact HO_65.out) hb);have n2_:=qK (qT (by repeat (with_reducible first|exact HB.out|apply qA|apply qD|apply qO)) hb);have n3_:=qK (hbox);have n4_:=qK ((by rw [hg];exact (qZ (by repeat (with_reducible first|exact HB.out|apply qA|apply qD|apply qO))):w.heap.size≤gb282));have n5_:=qK ((by rw [hg];exact (qZ (by repeat (with_reducible first|exact HB.out|apply qA|apply qD|apply qO))):w.heap.size≤gb282));clear HO_6;clear HO_65;clear HB;have HO_6:=n0_;have HO_65:=n1_;have HB:=n2_;have BK282:=n3_;have GW282:=n4_;have GE282:=n5_;clear n0_ n1_ n2_ n3_ n4_ n5_;clear hb hbox hg;refine hK.out _ _ ⟨HS0_,HS1_,HS2_,HS3_⟩ (fun hHeld=>?_);clear hK K;refine norm_ (a':=?_) ?_ ?_;rotate_left
                   ·show Act.put _ (some 15) _=_
                    simp only [Act.put,sIb,sZ,sS,i64_w,i32_w];rfl
                   refine one_ (i:=15) (N:=none) #[Y,Y,Y,Y,Y,Y,Y,Y,Y,Y,Y,Y,Y,Y,Y,Y] rfl rfl (one_of HT_.out (by kernel_rfl)) (by decide) (fun K hK=>?_);have hs62:w61.cell? ⟨gb282,0,none⟩=some (.int .i64 0):=(qC BK282.out 0).trans rfl;have hfs62:=qF BK282.out 0;have hs63:w61.cell? ⟨gb282,1,none⟩=some (.int .i64 0):=(qC BK282.out 1).trans rfl;have hfs63:=qF BK282.out 1;refine skip_ (w1:=?_) (by rfl) rfl ?_ ?_;rotate_left
                   ·go_simp;rfl
                   refine hK.out _ _ ⟨((cell_far (p:=⟨gb282,_,none⟩) (by first|exact Kd.own_blk (Kd.R_away HO_6.out (fun _ hk=>hk.2))|(rw [add_block];exact Kd.own_blk (Kd.R_away HO_6.out (fun _ hk=>hk.2)))|(show (Addr.add _ _).block ≠ _;rw [add_block];exact Kd.own_blk (Kd.R_away HO_6.out (fun _ hk=>hk.2)))|(dsimp only;exact Kd.own_blk (Kd.R_away HO_6.out (fun _ hk=>hk.2)))) _).trans (((cell_far (p:=⟨gb282,_,none⟩) (by first|exact Kd.own_blk (Kd.R_away HO_6.out (fun _ hk=>hk.2))|(rw [add_block];exact Kd.own_blk (Kd.R_away HO_6.out (fun _ hk=>hk.2)))|(show (Addr.add _ _).block ≠ _;rw [add_block];exact Kd.own_blk (Kd.R_away HO_6.out (fun _ hk=>hk.2)))|(dsimp only;exact Kd.own_blk (Kd.R_away HO_6.out (fun _ hk=>hk.2)))) _).trans (hHeld.1)))),((cell_far (p:=⟨gb282,_,none⟩) (by first|exact Kd.own_blk (Kd.R_away HO_6.out (fun _ hk=>hk.2))|(rw [add_block];exact Kd.own_blk (Kd.R_away HO_6.out (fun _ hk=>hk.2)))|(show (Addr.add _ _).block ≠ _;rw [add_block];exact Kd.own_blk (Kd.R_away HO_6.out (fun _ hk=>hk.2)))|(dsimp only;exact Kd.own_blk (Kd.R_away HO_6.out (fun _ hk=>hk.2)))) _).trans (((cell_far (p:=⟨gb282,_,none⟩) (by first|exact Kd.own_blk (Kd.R_away HO_6.out (fun _ hk=>hk.2))|(rw [add_block];exact Kd.own_blk (Kd.R_away HO_6.out (fun _ hk=>hk.2)))|(show (Addr.add _ _).block ≠ _;rw [add_block];exact Kd.own_blk (Kd.R_away HO_6.out (fun _ hk=>hk.2)))|(dsimp only;exact Kd.own_blk (Kd.R_away HO_6.out (fun _ hk=>hk.2)))) _).trans (hHeld.2.1)))),((cell_far (p:=⟨gb282,_,none⟩) (by first|exact Kd.own_blk (Kd.R_away HO_6.out (fun _ hk=>hk.2))|(rw [add_block];exact Kd.own_blk (Kd.R_away HO_6.out (fun _ hk=>hk.2)))|(show (Addr.add _ _).block ≠ _;rw [add_block];exact Kd.own_blk (Kd.R_away HO_6.out (fun _ hk=>hk.2)))|(dsimp only;exact Kd.own_blk (Kd.R_away HO_6.out (fun _ hk=>hk.2)))) _).trans (((cell_far (p:=⟨gb282,_,none⟩) (by first|exact Kd.own_blk (Kd.R_away HO_6.out (fun _ hk=>hk.2))|(rw [add_block];exact Kd.own_blk (Kd.R_away HO_6.out (fun _ hk=>hk.2)))|(show (Addr.add _ _).block ≠ _;rw [add_block];exact Kd.own_blk (Kd.R_away HO_6.out (fun _ hk=>hk.2)))|(dsimp only;exact Kd.own_blk (Kd.R_away HO_6.out (fun _ hk=>hk.2)))) _).trans (hHeld.2.2.1)))),((cell_far (p:=⟨gb282,_,none⟩) (by first|exact Kd.own_blk (Kd.R_away HO_6.out (fun _ hk=>hk.2))|(rw [add_block];exact Kd.own_blk (Kd.R_away HO_6.out (fun _ hk=>hk.2)))|(show (Addr.add _ _).block ≠ _;rw [add_block];exact Kd.own_blk (Kd.R_away HO_6.out (fun _ hk=>hk.2)))|(dsimp only;exact Kd.own_blk (Kd.R_away HO_6.out (fun _ hk=>hk.2)))) _).trans (((cell_far (p:=⟨gb282,_,none⟩) (by first|exact Kd.own_blk (Kd.R_away HO_6.out (fun _ hk=>hk.2))|(rw [add_block];exact Kd.own_blk (Kd.R_away HO_6.out (fun _ hk=>hk.2)))|(show (Addr.add _ _).block ≠ _;rw [add_block];exact Kd.own_blk (Kd.R_away HO_6.out (fun _ hk=>hk.2)))|(dsimp only;exact Kd.own_blk (Kd.R_away HO_6.out (fun _ hk=>hk.2)))) _).trans (hHeld.2.2.2))))⟩ (fun hHeld=>?_);clear hK K;refine done_ (done_of HT_.out (by kernel_rfl)) ?_;have hcz64_0:w61.cell? ⟨gb282,0,none⟩=some (.int .i64 0):=(qC BK282.out 0).trans rfl;have hcz64_1:w61.cell? ⟨gb282,1,none⟩=some (.int .i64 0):=(qC BK282.out 1).trans rfl;have hfz64_0:=qF BK282.out 0;have hfz64_1:=qF BK282.out 1;try go_wp2_with (first|((with_reducible refine gate_callee (f:=27) rfl ?_);refine goesL_ (some 87) rfl rfl Try.func27 (by kernel_rfl) rfl #[.slice (some ad275) x6_3.length co43,.agg #[.int .i64 (Go.bits .andNot .i64 ((rd_T53 x6_3 x57_2).f0) (ji56)),.int .i64 ((rd_T53 x6_3 x57_2).f1)]] rfl (by (try simp only [mT,mC,mN]);first|done|(simp only [hji56];rfl)|rfl|(simp only [lD,lT];rfl)) ?_;(with_reducible refine (impl_implies.calls k3 _ _ x6_3 (Go.bits .andNot .i64 ((rd_T53 x6_3 x57_2).f0) (ji56)) ((rd_T53 x6_3 x57_2).f1) true _ ?side1 ?side2 A57.out).mono ?_);(case side1=>refine (Kd.R_reads' (e:=53) (base:=w.heap.size) (ok:=fun k_=>(True∧k_ ≠ gb282)) (n:=x6_3.length) (c:=co43) ?_).2.2;exact (by (with_reducible repeat (first|apply rL|apply rN|apply rW));exact (Kd.R_mono (Kd.R_far (p:=⟨gb282,1,none⟩) (Kd.R_far (p:=⟨gb282,0,none⟩) (Kd.R_mono HO_6.out (fun k_ hk=>(⟨hk,hk.2⟩:_∧k_ ≠ gb282))) (fun _ hk=>hk.2) (.int .i64 (Go.bits .andNot .i64 ((rd_T53 x6_3 x57_2).f0) (ji56)))) (fun _ hk=>hk.2) (.int .i64 ((rd_T53 x6_3 x57_2).f1))) (fun _ h_=>h_.1))));(case side2=>exact (Kd.R_reads' HO_6.out).2.1);rintro e w65 ⟨rfl,hb⟩;refine ⟨_,rfl,?_⟩;have n0_:=qK (rB (by (with_reducible repeat (first|apply rL|apply rN|apply rW));exact (Kd.R_mono (Kd.R_far (p:=⟨gb282,1,none⟩) (Kd.R_far (p:=⟨gb282,0,none⟩) (Kd.R_mono HO_6.out (fun k_ hk=>(⟨hk,hk.2⟩:_∧k_ ≠ gb282))) (fun _ hk=>hk.2) (.int .i64 (Go.bits .andNot .i64 ((rd_T53 x6_3 x57_2).f0) (ji56)))) (fun _ hk=>hk.2) (.int .i64 ((rd_T53 x6_3 x57_2).f1))) (fun _ h_=>h_.1))) hb);have n1_:=qK (rB (by (with_reducible repeat (first|apply rL|apply rN|apply rW));exact (Kd.R_mono (Kd.R_far (p:=⟨gb282,1,none⟩) (Kd.R_far (p:=⟨gb282,0,none⟩) (Kd.R_types HO_65.out BK282.out (by decide)) (fun _ hk=>hk.2) (.int .i64 (Go.bits .andNot .i64 ((rd_T53 x6_3 x57_2).f0) (ji56)))) (fun _ hk=>hk.2) (.int .i64 ((rd_T53 x6_3 x57_2).f1))) (fun _ h_=>h_.1))) hb);have n2_:=qK (qB (g:=gb282) (o:=.cells #[.int .i64 (Go.bits .andNot .i64 ((rd_T53 x6_3 x57_2).f0) (ji56)),.int .i64 ((rd_T53 x6_3 x57_2).f1)] 53 (0,0)) (by (with_reducible repeat (first|refine qN ?_ _|refine qW ?_|refine qL ?_ _));refine qP (cs:=#[.int .i64 (Go.bits .andNot .i64 ((rd_T53 x6_3 x57_2).f0) (ji56)),.int .i64 0]) ?_ 1 _ rfl;(with_reducible repeat (first|refine qN ?_ _|refine qW ?_|refine qL ?_ _));refine qP (cs:=#[.int .i64 0,.int .i64 0]) ?_ 0 _ rfl;(with_reducible repeat (first|refine qN ?_ _|refine qW ?_|refine qL ?_ _));exact BK282.out) hb);have n3_:=qK (qT (by repeat (with_reducible first|exact HB.out|apply qA|apply qD|apply qO|refine qS ?_ GE282.out)) hb);clear HO_6;clear HO_65;clear BK282;clear HB;have HO_6:=n0_;have HO_65:=n1_;have BK282:=n2_;have HB:=n3_;clear n0_ n1_ n2_ n3_;(try clear hb);have hcz66_0:w65.cell? ⟨gb282,0,none⟩=some (.int .i64 (Go.bits .andNot .i64 ((rd_T53 x6_3 x57_2).f0) (ji56))):=(qC BK282.out 0).trans rfl;have hcz66_1:w65.cell? ⟨gb282,1,none⟩=some (.int .i64 ((rd_T53 x6_3 x57_2).f1)):=(qC BK282.out 1).trans rfl;have hfz66_0:=qF BK282.out 0;have hfz66_1:=qF BK282.out 1;have p59:0≤(x57_2:Int):=of_decide_eq_true (by first|(with_reducible assumption)|assumption);have q59:(x57_2:Int) < ((x6_3.length:Int):Int):=of_decide_eq_true (by first|(with_reducible assumption)|assumption);obtain ⟨go59,co59,eo59,gb59,gl59,cl59,HG59⟩:=Kd.R_form HO_6.out (by omega);(first|cases eo59|(injection eo59 with ea_ en_ ec_;(first|subst ea_|(injection ea_ with ea_;subst ea_));subst ec_;clear en_));have GB59:=qK gb59;have GG59:=qK HG59;clear gb59 gl59 HG59;(first|simp only [add_plain] at hx275_0|skip);(first|simp only [add_plain] at hx275_1|skip);(first|simp only [add_plain] at hx280_0|skip);(first|simp only [add_plain] at hx280_1|skip);(first|simp only [add_plain] at hx281_0|skip);(first|simp only [add_plain] at hx281_1|skip);obtain ⟨ce59,hcl59,hM59,hcc59,hfr59⟩:=Kd.R_elem HO_6.out z53 (x57_2:Int) p59 q59;obtain rfl:=k53_openM hM59;have hx59_0:w65.cell? ⟨go59,(x57_2:Int).toNat * 2,none⟩=some (.int .i64 ((rd_T53 x6_3 x57_2).f0)):=hcc59 0 _ rfl;have hx59_1:w65.cell? ⟨go59,(x57_2:Int).toNat * 2 + 1,none⟩=some (.int .i64 ((rd_T53 x6_3 x57_2).f1)):=hcc59 1 _ rfl;have hf59_0:w65.frozen? ⟨go59,(x57_2:Int).toNat * 2,none⟩=false:=hfr59 0;have hf59_1:w65.frozen? ⟨go59,(x57_2:Int).toNat * 2 + 1,none⟩=false:=hfr59 1;clear hcl59 hcc59 hfr59 hM59;replace p59:=eq_true p59;replace q59:=eq_true q59;have n_:=qK (Kd.R_mono (ok':=(fun k_=>k_ ≠ gb282)) HO_6.out (fun k_ hk=>hk.2));clear HO_6;have HO_6:=n_;clear n_;have HX67:=qK (show Kd.R k53 53 w65 w.heap.size (fun k_=>k_ ≠ gb282) (.slice (some ⟨go59,0,none⟩) x6_3.length co43) x6_3 from (by (with_reducible repeat (first|apply rL|apply rN|apply rW));exact HO_6.out));obtain ⟨ce67,hcl67,hM67,hcc67,hfr67⟩:=Kd.R_elem HX67.out z53 (x57_2:Int) (of_decide_eq_true (by first|(with_reducible assumption)|assumption)) (by have h_:(x57_2:Int) < ((x6_3.length:Int):Int):=of_decide_eq_true (by first|(with_reducible assumption)|assumption);first|exact h_|(have e_:=(Kd.R_reads' HO_6.out).1;omega)|simpa using h_);obtain rfl:=k53_openM hM67;have HP67:=Kd.R_seg HX67.out (x57_2:Int) (of_decide_eq_true (by first|(with_reducible assumption)|assumption)) (by have h_:(x57_2:Int) < ((x6_3.length:Int):Int):=of_decide_eq_true (by first|(with_reducible assumption)|assumption);first|exact h_|(have e_:=(Kd.R_reads' HO_6.out).1;omega)|simpa using h_) (seg:=[.int .i64 (Go.bits .andNot .i64 ((rd_T53 x6_3 x57_2).f0) (ji56)),.int .i64 ((rd_T53 x6_3 x57_2).f1)]) (j:=0) hcl67 hcc67 (show 2≤2 from by decide) (x':=(⟨Go.bits .andNot .i64 ((rd_T53 x6_3 x57_2).f0) (ji56),(rd_T53 x6_3 x57_2).f1⟩:S53)) (k53_mkM _ _ _ (⟨Go.bits .andNot .i64 ((rd_T53 x6_3 x57_2).f0) (ji56),(rd_T53 x6_3 x57_2).f1⟩:S53) ) (fun _ hk=>hk);have hx67_0:=hcc67 0 _ rfl;(try simp only [show (k53).sz=2 from rfl,Nat.mul_one,Nat.add_zero] at hx67_0);have hf67_0:=hfr67 0;(try simp only [show (k53).sz=2 from rfl,Nat.mul_one,Nat.add_zero] at hf67_0);have hx67_1:=hcc67 1 _ rfl;(try simp only [show (k53).sz=2 from rfl,Nat.mul_one,Nat.add_zero] at hx67_1);have hf67_1:=hfr67 1;(try simp only [show (k53).sz=2 from rfl,Nat.mul_one,Nat.add_zero] at hf67_1);clear hcl67 hcc67 hfr67 hM67)|((with_reducible refine gate_store (t:=53) (p:=91) rfl ?_);refine store_event (t:=53) (p:=91) (v:=?vo_w68) (w1:=((w65.setCell ⟨go59,(x57_2:Int).toNat * 2,none⟩ (.int .i64 (Go.bits .andNot .i64 ((rd_T53 x6_3 x57_2).f0) (ji56)))).setCell ⟨go59,(x57_2:Int).toNat * 2 + 1,none⟩ (.int .i64 ((rd_T53 x6_3 x57_2).f1)))) ?hg ?ho ?hn ?hr ?_;(case ho=>rfl);(case hg=>rfl);(case hn=>rfl);(case hr=>(go_simp;try rfl));intro w68 hw;have hg:w65.grownBy w68 (some go59):=(by rw [hw];exact HP67.2);have hp_:Kd.R k53 53 w68 w.heap.size (fun k_=>k_ ≠ gb282) (.slice (some ⟨go59,0,none⟩) x6_3.length co43) y284:=(by rw [hw,Ny284.out];exact HP67.1);clear HP67;have n0_:=qK (hp_);have n1_:=qK (Kd.R_over' (v:=(.slice (some ⟨go59,0,none⟩) x6_3.length co43)) (by (with_reducible repeat (first|apply rL|apply rN|apply rW));exact HO_65.out) (Kd.R_typed HO_6.out) (by decide) hg);have n2_:=qK (blk_grown (g:=gb282) (o:=_) (by (with_reducible repeat (first|refine qN ?_ _|refine qW ?_|refine qL ?_ _));exact BK282.out) hg (Kd.R_away HO_6.out (fun _ hk=>hk)));have n3_:=qK ((by rw [hw];exact qS (qS (HB.out) GB59.out) GB59.out:Below w.heap.size w w68));clear HO_6;clear HO_65;clear BK282;clear HB;have HO_6:=n0_;have HO_65:=n1_;have BK282:=n2_;have HB:=n3_;clear n0_ n1_ n2_ n3_;clear hg hw hp_))
                   (try rw [show ({block:=go59,off:=x57_2.toNat * 2,spot:=none}:Addr)=Addr.add ⟨go59,0,none⟩ (x57_2.toNat * 2) from by simp [Addr.add]]);(try simp only [← hl6_3]);go_roundg k3
                   case measure=>have:=HK1.out;have:=HK2.out;have:=HK3.out;omega
                   case rel=>exact ⟨(y284),(wrap64 (x67_3 + 1)),(by first|rfl|(simp;done)|(simp [*];done)),H',⟨by have:=HK1.out;have:=HK2.out;have:=HK3.out;omega⟩,⟨by (try simp only [hl6_2]);(try simp only [hl6_3]);(with_reducible repeat (first|apply rL|apply rN|apply rW));exact Kd.R_mono HO_6.out (fun _ hk=>trivial)⟩,⟨by (try simp only [hl6_2]);(try simp only [hl6_3]);(with_reducible repeat (first|apply rL|apply rN|apply rW));exact HO_65.out⟩,⟨by repeat (first|(with_reducible first|exact HB.out|apply qA|apply qD|apply qO|refine qS ?_ GE282.out)|exact HB.out)⟩⟩
                  ·replace c58:=Bool.eq_false_iff.mpr c58;subst c58;have H1:(impl_CoverOf.l3 k3 x6_3 x57_2 (x6_1.length:Int) x57_2 t276 (t276.length:Int) (wrap64 (x67_3 + 1)))=some (r1,r2):=by rw [if_neg (show ¬ (false=true) by decide)] at H;exact H
                   clear H;have H:=H1;clear H1;have H':=qK H;clear H;have p279:0≤(x67_3:Int):=of_decide_eq_true (by first|(with_reducible assumption)|assumption);have q279:x67_3 < (t276.length:Int):=of_decide_eq_true (by first|(with_reducible assumption)|assumption);obtain ⟨ad279,e279,hx279_0⟩:=Kd.at_int (Kd.R_reads' HO_65.out).2.2 x67_3 p279 q279;cases e279
                   replace p279:=eq_true p279;replace q279:=eq_true q279;try go_wp2
                   (try (rw [drewN_self wr];generalize hq_:World.drewN wr _=wr;have n0_:Aside0 (Kd.R k53 53 wr w.heap.size (fun _=>True) (.slice (some ad275) x6_3.length co43) x6_3):=⟨by rw [← hq_];exact (by (with_reducible repeat (first|apply rL|apply rN|apply rW));exact HO_6.out)⟩;have n1_:Aside0 (Kd.R (Kd.int .i64) 3 wr w.heap.size (fun _=>True) (.slice (some ad279) t276.length co49) t276):=⟨by rw [← hq_];exact (by (with_reducible repeat (first|apply rL|apply rN|apply rW));exact HO_65.out)⟩;have n2_:Aside0 (Below w.heap.size w wr):=⟨by rw [← hq_];exact (by repeat (with_reducible first|exact HB.out|apply qA|apply qD|apply qO))⟩;clear HO_6 HO_65 HB hq_;have HO_6:=n0_;have HO_65:=n1_;have HB:=n2_;clear n0_ n1_ n2_));have n0_:=qK (rW HO_6.out);have n1_:=qK (rW HO_65.out);have n2_:=qK (qO HB.out);clear HO_6;clear HO_65;clear HB;have HO_6:=n0_;have HO_65:=n1_;have HB:=n2_;clear n0_ n1_ n2_;have p280:0≤(x57_2:Int):=of_decide_eq_true (by first|(with_reducible assumption)|assumption);have q280:x57_2 < (x6_3.length:Int):=of_decide_eq_true (by first|(with_reducible assumption)|assumption);obtain ⟨ad280,e280,hx280_0,hx280_1⟩:=at_T53 (Kd.R_reads' HO_6.out).2.2 x57_2 p280 q280;obtain rfl:ad275=ad280:=(by injection e280);replace p280:=eq_true p280;replace q280:=eq_true q280;have p281:0≤(x57_2:Int):=of_decide_eq_true (by first|(with_reducible assumption)|assumption);have q281:x57_2 < (x6_3.length:Int):=of_decide_eq_true (by first|(with_reducible assumption)|assumption);obtain ⟨ad281,e281,hx281_0,hx281_1⟩:=at_T53 (Kd.R_reads' HO_6.out).2.2 x57_2 p281 q281;obtain rfl:ad275=ad281:=(by injection e281);replace p281:=eq_true p281;replace q281:=eq_true q281;refine start_ (n:=16) (S:=fun w'=>w'.cell? (ad275.add ((x57_2).toNat * 2))=some (.int .i64 ((rd_T53 x6_3 x57_2).f0))∧w'.cell? ⟨(ad275.add ((x57_2).toNat * 2)).block,(ad275.add ((x57_2).toNat * 2)).off + 1,none⟩=some (.int .i64 ((rd_T53 x6_3 x57_2).f1))∧w'.cell? (ad275.add ((x57_2).toNat * 2))=some (.int .i64 ((rd_T53 x6_3 x57_2).f0))∧w'.cell? ⟨(ad275.add ((x57_2).toNat * 2)).block,(ad275.add ((x57_2).toNat * 2)).off + 1,none⟩=some (.int .i64 ((rd_T53 x6_3 x57_2).f1))) (ds:=[]) #[Z,Z,Z,Z,Z,Z,Z,Z,Z,Z,Z,Z,Z,Z,Z,Z] (by kernel_rfl) rfl rfl ⟨hx280_0,hx280_1,hx281_0,hx281_1⟩ (fun hHeld=>?_);refine with_tabW impl_CoverOf.tab21 impl_CoverOf.bits21 (fun HT_ HW_=>?_);generalize wr.drew=w69 at HO_6 HO_65 HB hx280_0 hx280_1 hx281_0 hx281_1 hHeld ⊢
                   refine pure_ (i:=0) (N:=some 71) (v:=?_) (a':=?_) #[Y,Z,Z,Z,Z,Z,Z,Z,Z,Z,Z,Z,Z,Z,Z,Z] rfl rfl (any_of HT_.out (by kernel_rfl)) (fun _ _ _ h=>h) (Or.inl ⟨by rfl,?_⟩) ?_ ?_;rotate_left
                   ·intro w';go_simp;with_reducible rfl
                   rotate_left
                   ·simp only [Act.put,sIb,sZ,sS,i64_w,i32_w];rfl
                   refine pure_ (i:=1) (N:=some 72) (v:=?_) (a':=?_) #[Y,Y,Z,Z,Z,Z,Z,Z,Z,Z,Z,Z,Z,Z,Z,Z] rfl rfl (any_of HT_.out (by kernel_rfl)) (fun _ _ _ h=>h) (Or.inl ⟨by rfl,?_⟩) ?_ ?_;rotate_left
                   ·intro w';go_simp;with_reducible rfl
                   rotate_left
                   ·simp only [Act.put,sIb,sZ,sS,i64_w,i32_w];rfl
                   refine pure_ (i:=2) (N:=some 73) (v:=?_) (a':=?_) #[Y,Y,Y,Z,Z,Z,Z,Z,Z,Z,Z,Z,Z,Z,Z,Z] rfl rfl (any_of HT_.out (by kernel_rfl)) (fun _ _ _ h=>h) (Or.inl ⟨by rfl,?_⟩) ?_ ?_;rotate_left
                   ·intro w';go_simp;with_reducible rfl
                   rotate_left
                   ·simp only [Act.put,sIb,sZ,sS,i64_w,i32_w];rfl
                   refine pure_ (i:=3) (N:=some 74) (v:=?_) (a':=?_) #[Y,Y,Y,Y,Z,Z,Z,Z,Z,Z,Z,Z,Z,Z,Z,Z] rfl rfl (any_of HT_.out (by kernel_rfl)) (fun _ _ _ h=>h) (Or.inl ⟨by rfl,?_⟩) ?_ ?_;rotate_left
                   ·intro w';go_simp;with_reducible rfl
                   rotate_left
                   ·simp only [Act.put,sIb,sZ,sS,i64_w,i32_w];rfl
                   refine pure_ (i:=5) (N:=some 76) (v:=?_) (a':=?_) #[Y,Y,Y,Y,Z,Y,Z,Z,Z,Z,Z,Z,Z,Z,Z,Z] rfl rfl (any_of HT_.out (by kernel_rfl)) (fun _ _ _ h=>h) (Or.inl ⟨by rfl,?_⟩) ?_ ?_;rotate_left
                   ·intro w';go_simp;with_reducible rfl
                   rotate_left
                   ·simp only [Act.put,sIb,sZ,sS,i64_w,i32_w];rfl
                   refine pure_ (i:=6) (N:=some 77) (v:=?_) (a':=?_) #[Y,Y,Y,Y,Z,Y,Y,Z,Z,Z,Z,Z,Z,Z,Z,Z] rfl rfl (any_of HT_.out (by kernel_rfl)) (fun _ _ _ h=>h) (Or.inl ⟨by rfl,?_⟩) ?_ ?_;rotate_left
                   ·intro w';go_simp;with_reducible rfl
                   rotate_left
                   ·simp only [Act.put,sIb,sZ,sS,i64_w,i32_w];rfl
                   refine pure_ (i:=8) (N:=some 79) (v:=?_) (a':=?_) #[Y,Y,Y,Y,Z,Y,Y,Z,Y,Z,Z,Z,Z,Z,Z,Z] rfl rfl (any_of HT_.out (by kernel_rfl)) (fun _ _ _ h=>h) (Or.inl ⟨by rfl,?_⟩) ?_ ?_;rotate_left
                   ·intro w';go_simp;with_reducible rfl
                   rotate_left
                   ·simp only [Act.put,sIb,sZ,sS,i64_w,i32_w];rfl
                   refine pure_ (i:=9) (N:=some 80) (v:=?_) (a':=?_) #[Y,Y,Y,Y,Z,Y,Y,Z,Y,Y,Z,Z,Z,Z,Z,Z] rfl rfl (any_of HT_.out (by kernel_rfl)) (fun _ _ _ h=>h) (Or.inl ⟨by rfl,?_⟩) ?_ ?_;rotate_left
                   ·intro w';go_simp;with_reducible rfl
                   rotate_left
                   ·simp only [Act.put,sIb,sZ,sS,i64_w,i32_w];rfl
                   refine pure_ (i:=10) (N:=some 81) (v:=?_) (a':=?_) #[Y,Y,Y,Y,Z,Y,Y,Z,Y,Y,Y,Z,Z,Z,Z,Z] rfl rfl (any_of HT_.out (by kernel_rfl)) (fun _ _ _ h=>h) (Or.inl ⟨by rfl,?_⟩) ?_ ?_;rotate_left
                   ·intro w';go_simp;with_reducible rfl
                   rotate_left
                   ·simp only [Act.put,sIb,sZ,sS,i64_w,i32_w];rfl
                   refine pure_ (i:=11) (N:=some 82) (v:=?_) (a':=?_) #[Y,Y,Y,Y,Z,Y,Y,Z,Y,Y,Y,Y,Z,Z,Z,Z] rfl rfl (any_of HT_.out (by kernel_rfl)) (fun _ _ _ h=>h) (Or.inl ⟨by rfl,?_⟩) ?_ ?_;rotate_left
                   ·intro w';go_simp;with_reducible rfl
                   rotate_left
                   ·simp only [Act.put,sIb,sZ,sS,i64_w,i32_w];rfl
                   refine take_ (i:=4) (N:=some 75) (v:=?_) (a':=?_) #[Y,Y,Y,Y,Y,Y,Y,Z,Y,Y,Y,Y,Z,Z,Z,Z] rfl rfl (take_ofW HT_.out HW_.out (by kernel_rfl)) (fun _ _ _ h=>h) (Or.inl ⟨by rfl,?_⟩) hHeld ?_ ?_;rotate_left
                   ·rintro w' ⟨s0,s1,s2,s3⟩;go_simp;with_reducible rfl
                   rotate_left
                   ·simp only [Act.put,sIb,sZ,sS,i64_w,i32_w];rfl
                   refine pure_ (i:=7) (N:=some 78) (v:=?_) (a':=?_) #[Y,Y,Y,Y,Y,Y,Y,Y,Y,Y,Y,Y,Z,Z,Z,Z] rfl rfl (any_of HT_.out (by kernel_rfl)) (fun _ _ _ h=>h) (Or.inl ⟨by rfl,?_⟩) ?_ ?_;rotate_left
                   ·intro w';go_simp;with_reducible rfl
                   rotate_left
                   ·simp only [Act.put,sIb,sZ,sS,i64_w,i32_w];rfl
                   refine take_ (i:=12) (N:=some 83) (v:=?_) (a':=?_) #[Y,Y,Y,Y,Y,Y,Y,Y,Y,Y,Y,Y,Y,Z,Z,Z] rfl rfl (take_ofW HT_.out HW_.out (by kernel_rfl)) (fun _ _ _ h=>h) (Or.inl ⟨by rfl,?_⟩) hHeld ?_ ?_;rotate_left
                   ·rintro w' ⟨s0,s1,s2,s3⟩;go_simp;with_reducible rfl
                   rotate_left
                   ·simp only [Act.put,sIb,sZ,sS,i64_w,i32_w];rfl
                   refine pure_ (i:=13) (N:=some 84) (v:=?_) (a':=?_) #[Y,Y,Y,Y,Y,Y,Y,Y,Y,Y,Y,Y,Y,Y,Z,Z] rfl rfl (any_of HT_.out (by kernel_rfl)) (fun _ _ _ h=>h) (Or.inl ⟨by rfl,?_⟩) ?_ ?_;rotate_left
                   ·intro w';go_simp;with_reducible rfl
                   rotate_left
                   ·simp only [Act.put,sIb,sZ,sS,i64_w,i32_w];rfl
                   refine one_ (i:=14) (N:=some 15) #[Y,Y,Y,Y,Y,Y,Y,Y,Y,Y,Y,Y,Y,Y,Y,Z] rfl rfl (one_of HT_.out (by kernel_rfl)) (by decide) (fun K hK=>?_);refine box_step ?hg (N:=15) ?hd (cs:=#[.int .i64 0,.int .i64 0]) (t:=53) ?hr ?_;(case hd=>rfl);(case hg=>rfl);(case hr=>(go_simp;try rfl));intro gb282 hg w70 hbox hb;have HS0_:=(hb.cell (World.block_lt_of_cell? _ _ (hHeld.1))).trans (hHeld.1);have HS1_:=(hb.cell (World.block_lt_of_cell? _ _ (hHeld.2.1))).trans (hHeld.2.1);have HS2_:=(hb.cell (World.block_lt_of_cell? _ _ (hHeld.2.2.1))).trans (hHeld.2.2.1);have HS3_:=(hb.cell (World.block_lt_of_cell? _ _ (hHeld.2.2.2))).trans (hHeld.2.2.2);have n0_:=qK (rB (Kd.R_elderB (by (with_reducible repeat (first|apply rL|apply rN|apply rW));exact HO_6.out) gb282 (Nat.le_of_eq hg.symm)) hb);have n1_:=qK (rB (by (with_reducible repeat (first|apply rL|apply rN|apply rW));exact HO_65.out) hb);have n2_:=qK (qT (by repeat (with_reducible first|exact HB.out|apply qA|apply qD|apply qO)) hb);have n3_:=qK (hbox);have n4_:=qK ((by rw [hg];exact (qZ (by repeat (with_reducible first|exact HB.out|apply qA|apply qD|apply qO))):w.heap.size≤gb282));have n5_:=qK ((by rw [hg];exact (qZ (by repeat (with_reducible first|exact HB.out|apply qA|apply qD|apply qO))):w.heap.size≤gb282));clear HO_6;clear HO_65;clear HB;have HO_6:=n0_;have HO_65:=n1_;have HB:=n2_;have BK282:=n3_;have GW282:=n4_;have GE282:=n5_;clear n0_ n1_ n2_ n3_ n4_ n5_;clear hb hbox hg;refine hK.out _ _ ⟨HS0_,HS1_,HS2_,HS3_⟩ (fun hHeld=>?_);clear hK K;refine norm_ (a':=?_) ?_ ?_;rotate_left
                   ·show Act.put _ (some 15) _=_
                    simp only [Act.put,sIb,sZ,sS,i64_w,i32_w];rfl
                   refine one_ (i:=15) (N:=none) #[Y,Y,Y,Y,Y,Y,Y,Y,Y,Y,Y,Y,Y,Y,Y,Y] rfl rfl (one_of HT_.out (by kernel_rfl)) (by decide) (fun K hK=>?_);have hs71:w70.cell? ⟨gb282,0,none⟩=some (.int .i64 0):=(qC BK282.out 0).trans rfl;have hfs71:=qF BK282.out 0;have hs72:w70.cell? ⟨gb282,1,none⟩=some (.int .i64 0):=(qC BK282.out 1).trans rfl;have hfs72:=qF BK282.out 1;refine skip_ (w1:=?_) (by rfl) rfl ?_ ?_;rotate_left
                   ·go_simp;rfl
                   refine hK.out _ _ ⟨((cell_far (p:=⟨gb282,_,none⟩) (by first|exact Kd.own_blk (Kd.R_away HO_6.out (fun _ hk=>hk.2))|(rw [add_block];exact Kd.own_blk (Kd.R_away HO_6.out (fun _ hk=>hk.2)))|(show (Addr.add _ _).block ≠ _;rw [add_block];exact Kd.own_blk (Kd.R_away HO_6.out (fun _ hk=>hk.2)))|(dsimp only;exact Kd.own_blk (Kd.R_away HO_6.out (fun _ hk=>hk.2)))) _).trans (((cell_far (p:=⟨gb282,_,none⟩) (by first|exact Kd.own_blk (Kd.R_away HO_6.out (fun _ hk=>hk.2))|(rw [add_block];exact Kd.own_blk (Kd.R_away HO_6.out (fun _ hk=>hk.2)))|(show (Addr.add _ _).block ≠ _;rw [add_block];exact Kd.own_blk (Kd.R_away HO_6.out (fun _ hk=>hk.2)))|(dsimp only;exact Kd.own_blk (Kd.R_away HO_6.out (fun _ hk=>hk.2)))) _).trans (hHeld.1)))),((cell_far (p:=⟨gb282,_,none⟩) (by first|exact Kd.own_blk (Kd.R_away HO_6.out (fun _ hk=>hk.2))|(rw [add_block];exact Kd.own_blk (Kd.R_away HO_6.out (fun _ hk=>hk.2)))|(show (Addr.add _ _).block ≠ _;rw [add_block];exact Kd.own_blk (Kd.R_away HO_6.out (fun _ hk=>hk.2)))|(dsimp only;exact Kd.own_blk (Kd.R_away HO_6.out (fun _ hk=>hk.2)))) _).trans (((cell_far (p:=⟨gb282,_,none⟩) (by first|exact Kd.own_blk (Kd.R_away HO_6.out (fun _ hk=>hk.2))|(rw [add_block];exact Kd.own_blk (Kd.R_away HO_6.out (fun _ hk=>hk.2)))|(show (Addr.add _ _).block ≠ _;rw [add_block];exact Kd.own_blk (Kd.R_away HO_6.out (fun _ hk=>hk.2)))|(dsimp only;exact Kd.own_blk (Kd.R_away HO_6.out (fun _ hk=>hk.2)))) _).trans (hHeld.2.1)))),((cell_far (p:=⟨gb282,_,none⟩) (by first|exact Kd.own_blk (Kd.R_away HO_6.out (fun _ hk=>hk.2))|(rw [add_block];exact Kd.own_blk (Kd.R_away HO_6.out (fun _ hk=>hk.2)))|(show (Addr.add _ _).block ≠ _;rw [add_block];exact Kd.own_blk (Kd.R_away HO_6.out (fun _ hk=>hk.2)))|(dsimp only;exact Kd.own_blk (Kd.R_away HO_6.out (fun _ hk=>hk.2)))) _).trans (((cell_far (p:=⟨gb282,_,none⟩) (by first|exact Kd.own_blk (Kd.R_away HO_6.out (fun _ hk=>hk.2))|(rw [add_block];exact Kd.own_blk (Kd.R_away HO_6.out (fun _ hk=>hk.2)))|(show (Addr.add _ _).block ≠ _;rw [add_block];exact Kd.own_blk (Kd.R_away HO_6.out (fun _ hk=>hk.2)))|(dsimp only;exact Kd.own_blk (Kd.R_away HO_6.out (fun _ hk=>hk.2)))) _).trans (hHeld.2.2.1)))),((cell_far (p:=⟨gb282,_,none⟩) (by first|exact Kd.own_blk (Kd.R_away HO_6.out (fun _ hk=>hk.2))|(rw [add_block];exact Kd.own_blk (Kd.R_away HO_6.out (fun _ hk=>hk.2)))|(show (Addr.add _ _).block ≠ _;rw [add_block];exact Kd.own_blk (Kd.R_away HO_6.out (fun _ hk=>hk.2)))|(dsimp only;exact Kd.own_blk (Kd.R_away HO_6.out (fun _ hk=>hk.2)))) _).trans (((cell_far (p:=⟨gb282,_,none⟩) (by first|exact Kd.own_blk (Kd.R_away HO_6.out (fun _ hk=>hk.2))|(rw [add_block];exact Kd.own_blk (Kd.R_away HO_6.out (fun _ hk=>hk.2)))|(show (Addr.add _ _).block ≠ _;rw [add_block];exact Kd.own_blk (Kd.R_away HO_6.out (fun _ hk=>hk.2)))|(dsimp only;exact Kd.own_blk (Kd.R_away HO_6.out (fun _ hk=>hk.2)))) _).trans (hHeld.2.2.2))))⟩ (fun hHeld=>?_);clear hK K;refine done_ (done_of HT_.out (by kernel_rfl)) ?_;have hcz73_0:w70.cell? ⟨gb282,0,none⟩=some (.int .i64 0):=(qC BK282.out 0).trans rfl;have hcz73_1:w70.cell? ⟨gb282,1,none⟩=some (.int .i64 0):=(qC BK282.out 1).trans rfl;have hfz73_0:=qF BK282.out 0;have hfz73_1:=qF BK282.out 1;try go_wp2_with (first|((with_reducible refine gate_callee (f:=27) rfl ?_);refine goesL_ (some 87) rfl rfl Try.func27 (by kernel_rfl) rfl #[.slice (some ad275) x6_3.length co43,.agg #[.int .i64 (Go.bits .andNot .i64 ((rd_T53 x6_3 x57_2).f0) (ji56)),.int .i64 ((rd_T53 x6_3 x57_2).f1)]] rfl (by (try simp only [mT,mC,mN]);first|done|(simp only [hji56];rfl)|rfl|(simp only [lD,lT];rfl)) ?_;(with_reducible refine (impl_implies.calls k3 _ _ x6_3 (Go.bits .andNot .i64 ((rd_T53 x6_3 x57_2).f0) (ji56)) ((rd_T53 x6_3 x57_2).f1) false _ ?side1 ?side2 A57.out).mono ?_);(case side1=>refine (Kd.R_reads' (e:=53) (base:=w.heap.size) (ok:=fun k_=>(True∧k_ ≠ gb282)) (n:=x6_3.length) (c:=co43) ?_).2.2;exact (by (with_reducible repeat (first|apply rL|apply rN|apply rW));exact (Kd.R_mono (Kd.R_far (p:=⟨gb282,1,none⟩) (Kd.R_far (p:=⟨gb282,0,none⟩) (Kd.R_mono HO_6.out (fun k_ hk=>(⟨hk,hk.2⟩:_∧k_ ≠ gb282))) (fun _ hk=>hk.2) (.int .i64 (Go.bits .andNot .i64 ((rd_T53 x6_3 x57_2).f0) (ji56)))) (fun _ hk=>hk.2) (.int .i64 ((rd_T53 x6_3 x57_2).f1))) (fun _ h_=>h_.1))));(case side2=>exact (Kd.R_reads' HO_6.out).2.1);rintro e w74 ⟨rfl,hb⟩;refine ⟨_,rfl,?_⟩;have n0_:=qK (rB (by (with_reducible repeat (first|apply rL|apply rN|apply rW));exact (Kd.R_mono (Kd.R_far (p:=⟨gb282,1,none⟩) (Kd.R_far (p:=⟨gb282,0,none⟩) (Kd.R_mono HO_6.out (fun k_ hk=>(⟨hk,hk.2⟩:_∧k_ ≠ gb282))) (fun _ hk=>hk.2) (.int .i64 (Go.bits .andNot .i64 ((rd_T53 x6_3 x57_2).f0) (ji56)))) (fun _ hk=>hk.2) (.int .i64 ((rd_T53 x6_3 x57_2).f1))) (fun _ h_=>h_.1))) hb);have n1_:=qK (rB (by (with_reducible repeat (first|apply rL|apply rN|apply rW));exact (Kd.R_mono (Kd.R_far (p:=⟨gb282,1,none⟩) (Kd.R_far (p:=⟨gb282,0,none⟩) (Kd.R_types HO_65.out BK282.out (by decide)) (fun _ hk=>hk.2) (.int .i64 (Go.bits .andNot .i64 ((rd_T53 x6_3 x57_2).f0) (ji56)))) (fun _ hk=>hk.2) (.int .i64 ((rd_T53 x6_3 x57_2).f1))) (fun _ h_=>h_.1))) hb);have n2_:=qK (qB (g:=gb282) (o:=.cells #[.int .i64 (Go.bits .andNot .i64 ((rd_T53 x6_3 x57_2).f0) (ji56)),.int .i64 ((rd_T53 x6_3 x57_2).f1)] 53 (0,0)) (by (with_reducible repeat (first|refine qN ?_ _|refine qW ?_|refine qL ?_ _));refine qP (cs:=#[.int .i64 (Go.bits .andNot .i64 ((rd_T53 x6_3 x57_2).f0) (ji56)),.int .i64 0]) ?_ 1 _ rfl;(with_reducible repeat (first|refine qN ?_ _|refine qW ?_|refine qL ?_ _));refine qP (cs:=#[.int .i64 0,.int .i64 0]) ?_ 0 _ rfl;(with_reducible repeat (first|refine qN ?_ _|refine qW ?_|refine qL ?_ _));exact BK282.out) hb);have n3_:=qK (qT (by repeat (with_reducible first|exact HB.out|apply qA|apply qD|apply qO|refine qS ?_ GE282.out)) hb);clear HO_6;clear HO_65;clear BK282;clear HB;have HO_6:=n0_;have HO_65:=n1_;have BK282:=n2_;have HB:=n3_;clear n0_ n1_ n2_ n3_;(try clear hb)))
                   (try simp only [← hl6_3]);go_roundg k3
                   case measure=>have:=HK1.out;have:=HK2.out;have:=HK3.out;omega
                   case rel=>exact ⟨(x6_3),(wrap64 (x67_3 + 1)),(by first|rfl|(simp;done)|(simp [*];done)),H',⟨by have:=HK1.out;have:=HK2.out;have:=HK3.out;omega⟩,⟨by (try simp only [hl6_2]);(try simp only [hl6_3]);(with_reducible repeat (first|apply rL|apply rN|apply rW));exact Kd.R_mono HO_6.out (fun _ hk=>trivial)⟩,⟨by (try simp only [hl6_2]);(try simp only [hl6_3]);(with_reducible repeat (first|apply rL|apply rN|apply rW));exact HO_65.out⟩,⟨by repeat (first|(with_reducible first|exact HB.out|apply qA|apply qD|apply qO|refine qS ?_ GE282.out)|exact HB.out)⟩⟩
                 ·rw [if_neg c55] at H;exact absurd H (by simp)
                ·rw [if_neg c54] at H;exact absurd H (by simp)
               ·rw [if_neg c53] at H;exact absurd H (by simp)
              ·rw [if_neg c52] at H;exact absurd H (by simp)
             ·rw [if_neg c51] at H;exact absurd H (by simp)
            ·rw [if_neg c50] at H;have c50b0:decide (x67_3 < (t276.length:Int))=false:=decide_eq_false c50;clear c50;have H':=qK H;clear H;go_wp2
             (try simp only [← hl6_2,← hl6_3]);go_roundg k3
             case measure=>have:=HK1.out;have:=HK2.out;have:=HK3.out;omega
             case rel=>exact ⟨(x6_3),(wrap64 (x57_2 + 1)),(by first|rfl|(simp;done)|(simp [*];done)),H',⟨by have:=HK1.out;have:=HK2.out;have:=HK3.out;omega⟩,⟨by (try simp only [hl6_2]);(try simp only [hl6_3]);(with_reducible repeat (first|apply rL|apply rN|apply rW));exact HO_6.out⟩,⟨by repeat (first|(with_reducible first|exact HB.out|apply qA|apply qD|apply qO)|exact HB.out)⟩⟩
         ·rw [if_neg c46] at H;exact absurd H (by simp)
        ·rw [if_neg c45] at H;exact absurd H (by simp)
       ·rw [if_neg c44] at H;have c44b0:decide (x57_2 < (x6_1.length:Int))=false:=decide_eq_false c44;clear c44;have c44b1:decide (x57_2 < (x6_2.length:Int))=false:=(congrArg (fun n_:Nat=>decide (x57_2 < (n_:Int))) hl6_2).symm.trans c44b0;have H':=qK H;clear H;go_wp2
        go_loopg [6,16] k2 (fun kq v6 v16 w'=>∃ (x6_3:List (S53)) (x16_3:Int),v16=.int .i64 x16_3∧Aside0 (impl_CoverOf.l4 kq x6_3 x16_3=some (r1,r2))∧Aside0 (kq≤k2)∧Aside0 (Kd.R k53 53 w' w.heap.size (fun _=>True) v6 x6_3)∧Aside0 (Below w.heap.size w w'))
        case atStart=>exact ⟨(x6_2),(0),(by first|rfl|(simp;done)|(simp [*];done)),H',⟨Nat.le_refl _⟩,⟨by (try simp only [hl6_2]);(with_reducible repeat (first|apply rL|apply rN|apply rW));exact HO_6.out⟩,⟨by repeat (first|(with_reducible first|exact HB.out|apply qA|apply qD|apply qO)|exact HB.out)⟩⟩
        case round =>
         clear H';try clear c1
         try clear c2
         try clear p2
         try clear q2
         try clear hx2
         try clear c3
         try clear c4
         try clear c5
         try clear p5
         try clear q5
         try clear hx5
         try clear hf5
         try clear c6
         try clear p6
         try clear hx6
         try clear hf6
         try clear c8
         try clear c9
         try clear c9b0
         try clear c10
         try clear c10b0
         try clear c11
         try clear c11b0
         try clear c17
         try clear c17b0
         try clear c18
         try clear c18b0
         try clear c19
         try clear c19b0
         try clear c20
         try clear c20b0
         try clear c20b1
         try clear c23
         try clear c24
         try clear c25
         try clear c26
         try clear p26
         try clear q26
         try clear hx26
         try clear c27
         try clear p27
         try clear q27
         try clear hx27
         try clear c28
         try clear p28
         try clear q28
         try clear hx28
         try clear c32
         try clear c37
         try clear c44
         try clear c44b0
         try clear c45
         try clear c45b0
         try clear c46
         try clear c46b0
         try clear c50
         try clear c50b0
         try clear c51
         try clear c51b0
         try clear c52
         try clear c52b0
         try clear c53
         try clear c53b0
         try clear c54
         try clear c54b0
         try clear c55
         try clear c55b0
         try clear c55b1
         try clear c58
         try clear c59
         try clear p59
         try clear q59
         try clear hx59
         try clear hf59
         try clear p64
         try clear c67
         try clear hx67
         try clear hf67
         try clear hcz14_0
         try clear hcz14_1
         try clear hcz29_0
         try clear hcz29_1
         try clear hcz38_0
         try clear hcz38_1
         try clear hcz41_0
         try clear hcz41_1
         try clear hcz64_0
         try clear hcz64_1
         try clear hcz66_0
         try clear hcz66_1
         try clear hcz73_0
         try clear hcz73_1
         try clear hfz14_0
         try clear hfz14_1
         try clear hfz29_0
         try clear hfz29_1
         try clear hfz38_0
         try clear hfz38_1
         try clear hfz41_0
         try clear hfz41_1
         try clear hfz64_0
         try clear hfz64_1
         try clear hfz66_0
         try clear hfz66_1
         try clear hfz73_0
         try clear hfz73_1
         try clear hx264_0
         try clear hx264_1
         try clear hx269_0
         try clear hx275_0
         try clear hx275_1
         try clear hx279_0
         try clear hx280_0
         try clear hx280_1
         try clear hx281_0
         try clear hx281_1
         try clear hx59_0
         try clear hx59_1
         try clear hx67_0
         try clear hx67_1
         try clear p2
         try clear p26
         try clear p264
         try clear p269
         try clear p27
         try clear p275
         try clear p279
         try clear p280
         try clear p281
         try clear p59
         try clear p6
         try clear q2
         try clear q26
         try clear q264
         try clear q269
         try clear q27
         try clear q275
         try clear q279
         try clear q280
         try clear q281
         try clear q59
         obtain ⟨x6_3,x16_3,rfl,HA,HK3,HO_6,HB⟩:=hrel;cases gk with
         | zero=>exact absurd HA.out (by simp [impl_CoverOf.l4])
         | succ k3 =>
          have H:=HA.out;clear HA;simp only [impl_CoverOf.l4] at H;by_cases c75:x16_3 < (x6_3.length:Int)
          ·rw [if_pos c75] at H;have c75b0:decide (x16_3 < (x6_3.length:Int))=true:=decide_eq_true c75;clear c75;replace H:=Option.bind_eq_some_iff.mp H;obtain ⟨t285,A760,H⟩:=H;replace H:((del_Rule.f t285 x16_3 (wrap64 (x16_3 + 1))).bind fun t288=>(if 0≤x16_3 then ((impl_implies.f k3 t288 ((rd_T53 x6_3 x16_3).f0) ((rd_T53 x6_3 x16_3).f1)).bind fun t292=>(if t292=true then (impl_CoverOf.l4 k3 t288 x16_3) else (impl_CoverOf.l4 k3 x6_3 (wrap64 (x16_3 + 1))))) else (none)))=some (r1,r2):=H;have A76:=qK A760;clear A760;replace H:=Option.bind_eq_some_iff.mp H;obtain ⟨t288,A770,H⟩:=H;replace H:(if 0≤x16_3 then ((impl_implies.f k3 t288 ((rd_T53 x6_3 x16_3).f0) ((rd_T53 x6_3 x16_3).f1)).bind fun t292=>(if t292=true then (impl_CoverOf.l4 k3 t288 x16_3) else (impl_CoverOf.l4 k3 x6_3 (wrap64 (x16_3 + 1))))) else (none))=some (r1,r2):=H;have A77:=qK A770;clear A770;by_cases c78:0≤x16_3
           ·rw [if_pos c78] at H;have c78b0:decide (0≤x16_3)=true:=decide_eq_true c78;clear c78;replace H:=Option.bind_eq_some_iff.mp H;obtain ⟨t292,A790,H⟩:=H;replace H:(if t292=true then (impl_CoverOf.l4 k3 t288 x16_3) else (impl_CoverOf.l4 k3 x6_3 (wrap64 (x16_3 + 1))))=some (r1,r2):=H;have A79:=qK A790;clear A790;by_cases c80:t292=true
            ·subst c80;have H1:(impl_CoverOf.l4 k3 t288 x16_3)=some (r1,r2):=by rw [if_pos rfl] at H;exact H
             clear H;have H:=H1;clear H1;have H':=qK H;clear H;obtain ⟨Ao81,co81,eo81⟩:=Kd.R_slice HO_6.out;subst eo81;go_wp2_with (first|((with_reducible refine gate_callee (f:=29) rfl ?_);refine goesL_ (some 99) rfl rfl Try.func29 (by kernel_rfl) rfl #[.slice Ao81 x6_3.length co81] rfl (by (try simp only [mT,mC,mN]);first|done|rfl|(simp only [lD,lT];rfl)) ?_;(with_reducible refine (clone_Rule.calls _ _ x6_3 t285 _ ?side1 ?side2 A76.out).mono ?_);(case side1=>repeat (first|exact (Kd.R_reads' HO_6.out).2.2|(with_reducible first|refine cL ?_ _|refine cN ?_ _|refine cW ?_)));(case side2=>exact (Kd.R_reads' HO_6.out).2.1);rintro e w82 ⟨v286,rfl,ho0,hb⟩;refine ⟨_,rfl,?_⟩;have n0_:=qK (Kd.R_elder' (by (with_reducible repeat (first|apply rL|apply rN|apply rW));exact HO_6.out) (Kd.R_base ho0) hb);have n1_:=qK (Kd.R_lower (Kd.R_new' ho0 (Kd.R_lt (by (with_reducible repeat (first|apply rL|apply rN|apply rW));exact HO_6.out))) (qZ (by repeat (with_reducible first|exact HB.out|apply qA|apply qD|apply qO))));have n2_:=qK (qT (by repeat (with_reducible first|exact HB.out|apply qA|apply qD|apply qO)) hb);clear HO_6;clear HB;have HO_6:=n0_;have HO287:=n1_;have HB:=n2_;clear n0_ n1_ n2_;(try clear hb);(try clear ho0);obtain ⟨Ao83,co83,eo83⟩:=Kd.R_slice HO287.out;subst eo83)|((with_reducible refine gate_callee (f:=28) rfl ?_);refine goesL_ (some 103) rfl rfl Try.func28 (by kernel_rfl) rfl #[.slice Ao83 t285.length co83,.int .i64 x16_3,.int .i64 (wrap64 (x16_3 + 1))] rfl (by (try simp only [mT,mC,mN]);first|done|rfl|(simp only [lD,lT];rfl)) ?_;(with_reducible refine (del_Rule.calls (fun k_=>some k_=(.slice Ao83 t285.length co83:Value).ownBlock) (.slice Ao83 t285.length co83) t285 x16_3 (wrap64 (x16_3 + 1)) t288 w _ ?side1 ?side2 A77.out).mono ?_);(case side1=>repeat (first|(with_reducible first|exact HB.out|apply qA|apply qD|apply qO)|exact HB.out));(case side2=>exact Kd.R_tight rfl HO287.out);rintro e w84 ⟨v289,rfl,ho0,hb,hkp⟩;refine ⟨_,rfl,?_⟩;have n0_:=qK (Kd.R_mono (ok':=fun k_=>some k_ ≠ (v289:Value).ownBlock) (Kd.R_keptB (HO_6.out) hkp (fun k_ hk_ hs_=>(hk_.2) hs_)) (fun k_ hk_=>fun e_=>Or.elim (ho0.1 k_ e_.symm) (fun hs_=>hk_.2.1 hs_) (fun hn_=>Nat.not_le.2 hk_.2.2 hn_)));have n1_:=qK (Kd.R_mono (ok':=fun k_=>some k_ ≠ (.slice Ao81 x6_3.length co81:Value).ownBlock) ho0 (fun k_ hk_=>Or.elim hk_ (fun hs_=>fun e_=>(((HO_6.out).1 k_ e_.symm).2) hs_) (fun hn_=>(Kd.fresh' (Kd.R_lt (by (with_reducible repeat (first|apply rL|apply rN|apply rW));exact HO_6.out)) k_ hn_))));have n2_:=qK (hb);clear HO_6;clear HB;clear HO287;have HO_6:=n0_;have HO290:=n1_;have HB:=n2_;clear n0_ n1_ n2_;(try clear hb);(try clear hkp);(try clear ho0);have p291:0≤(x16_3:Int):=of_decide_eq_true (by first|(with_reducible assumption)|assumption);have q291:x16_3 < (x6_3.length:Int):=of_decide_eq_true (by first|(with_reducible assumption)|assumption);obtain ⟨ad291,e291,hx291_0,hx291_1⟩:=at_T53 (Kd.R_reads' HO_6.out).2.2 x16_3 p291 q291;cases e291;replace p291:=eq_true p291;replace q291:=eq_true q291;obtain ⟨Ao85,co85,eo85⟩:=Kd.R_slice HO290.out;subst eo85)|((with_reducible refine gate_callee (f:=27) rfl ?_);refine goesL_ (some 109) rfl rfl Try.func27 (by kernel_rfl) rfl #[.slice Ao85 t288.length co85,.agg #[.int .i64 ((rd_T53 x6_3 x16_3).f0),.int .i64 ((rd_T53 x6_3 x16_3).f1)]] rfl (by (try simp only [mT,mC,mN]);first|done|rfl|(simp only [lD,lT];rfl)) ?_;(with_reducible refine (impl_implies.calls k3 _ _ t288 ((rd_T53 x6_3 x16_3).f0) ((rd_T53 x6_3 x16_3).f1) true _ ?side1 ?side2 A79.out).mono ?_);(case side1=>repeat (first|exact (Kd.R_reads' HO290.out).2.2|(with_reducible first|refine cL ?_ _|refine cN ?_ _|refine cW ?_)));(case side2=>exact (Kd.R_reads' HO290.out).2.1);rintro e w86 ⟨rfl,hb⟩;refine ⟨_,rfl,?_⟩;have n0_:=qK (rB (by (with_reducible repeat (first|apply rL|apply rN|apply rW));exact HO_6.out) hb);have n1_:=qK (rB (by (with_reducible repeat (first|apply rL|apply rN|apply rW));exact HO290.out) hb);have n2_:=qK (qT (by repeat (with_reducible first|exact HB.out|apply qA|apply qD|apply qO)) hb);clear HO_6;clear HO290;clear HB;have HO_6:=n0_;have HO290:=n1_;have HB:=n2_;clear n0_ n1_ n2_;(try clear hb)))
             go_roundg k3
             case measure=>have:=HK1.out;have:=HK2.out;have:=HK3.out;omega
             case rel=>exact ⟨(t288),(x16_3),(by first|rfl|(simp;done)|(simp [*];done)),H',⟨by have:=HK1.out;have:=HK2.out;have:=HK3.out;omega⟩,⟨by (try simp only [hl6_2]);(with_reducible repeat (first|apply rL|apply rN|apply rW));exact Kd.R_mono HO290.out (fun _ hk=>trivial)⟩,⟨by repeat (first|(with_reducible first|exact HB.out|apply qA|apply qD|apply qO)|exact HB.out)⟩⟩
            ·replace c80:=Bool.eq_false_iff.mpr c80;subst c80;have H1:(impl_CoverOf.l4 k3 x6_3 (wrap64 (x16_3 + 1)))=some (r1,r2):=by rw [if_neg (show ¬ (false=true) by decide)] at H;exact H
             clear H;have H:=H1;clear H1;have H':=qK H;clear H;obtain ⟨Ao87,co87,eo87⟩:=Kd.R_slice HO_6.out;subst eo87;go_wp2_with (first|((with_reducible refine gate_callee (f:=29) rfl ?_);refine goesL_ (some 99) rfl rfl Try.func29 (by kernel_rfl) rfl #[.slice Ao87 x6_3.length co87] rfl (by (try simp only [mT,mC,mN]);first|done|rfl|(simp only [lD,lT];rfl)) ?_;(with_reducible refine (clone_Rule.calls _ _ x6_3 t285 _ ?side1 ?side2 A76.out).mono ?_);(case side1=>repeat (first|exact (Kd.R_reads' HO_6.out).2.2|(with_reducible first|refine cL ?_ _|refine cN ?_ _|refine cW ?_)));(case side2=>exact (Kd.R_reads' HO_6.out).2.1);rintro e w88 ⟨v286,rfl,ho0,hb⟩;refine ⟨_,rfl,?_⟩;have n0_:=qK (Kd.R_elder' (by (with_reducible repeat (first|apply rL|apply rN|apply rW));exact HO_6.out) (Kd.R_base ho0) hb);have n1_:=qK (Kd.R_lower (Kd.R_new' ho0 (Kd.R_lt (by (with_reducible repeat (first|apply rL|apply rN|apply rW));exact HO_6.out))) (qZ (by repeat (with_reducible first|exact HB.out|apply qA|apply qD|apply qO))));have n2_:=qK (qT (by repeat (with_reducible first|exact HB.out|apply qA|apply qD|apply qO)) hb);clear HO_6;clear HB;have HO_6:=n0_;have HO287:=n1_;have HB:=n2_;clear n0_ n1_ n2_;(try clear hb);(try clear ho0);obtain ⟨Ao89,co89,eo89⟩:=Kd.R_slice HO287.out;subst eo89)|((with_reducible refine gate_callee (f:=28) rfl ?_);refine goesL_ (some 103) rfl rfl Try.func28 (by kernel_rfl) rfl #[.slice Ao89 t285.length co89,.int .i64 x16_3,.int .i64 (wrap64 (x16_3 + 1))] rfl (by (try simp only [mT,mC,mN]);first|done|rfl|(simp only [lD,lT];rfl)) ?_;(with_reducible refine (del_Rule.calls (fun k_=>some k_=(.slice Ao89 t285.length co89:Value).ownBlock) (.slice Ao89 t285.length co89) t285 x16_3 (wrap64 (x16_3 + 1)) t288 w _ ?side1 ?side2 A77.out).mono ?_);(case side1=>repeat (first|(with_reducible first|exact HB.out|apply qA|apply qD|apply qO)|exact HB.out));(case side2=>exact Kd.R_tight rfl HO287.out);rintro e w90 ⟨v289,rfl,ho0,hb,hkp⟩;refine ⟨_,rfl,?_⟩;have n0_:=qK (Kd.R_mono (ok':=fun k_=>some k_ ≠ (v289:Value).ownBlock) (Kd.R_keptB (HO_6.out) hkp (fun k_ hk_ hs_=>(hk_.2) hs_)) (fun k_ hk_=>fun e_=>Or.elim (ho0.1 k_ e_.symm) (fun hs_=>hk_.2.1 hs_) (fun hn_=>Nat.not_le.2 hk_.2.2 hn_)));have n1_:=qK (Kd.R_mono (ok':=fun k_=>some k_ ≠ (.slice Ao87 x6_3.length co87:Value).ownBlock) ho0 (fun k_ hk_=>Or.elim hk_ (fun hs_=>fun e_=>(((HO_6.out).1 k_ e_.symm).2) hs_) (fun hn_=>(Kd.fresh' (Kd.R_lt (by (with_reducible repeat (first|apply rL|apply rN|apply rW));exact HO_6.out)) k_ hn_))));have n2_:=qK (hb);clear HO_6;clear HB;clear HO287;have HO_6:=n0_;have HO290:=n1_;have HB:=n2_;clear n0_ n1_ n2_;(try clear hb);(try clear hkp);(try clear ho0);have p291:0≤(x16_3:Int):=of_decide_eq_true (by first|(with_reducible assumption)|assumption);have q291:x16_3 < (x6_3.length:Int):=of_decide_eq_true (by first|(with_reducible assumption)|assumption);obtain ⟨ad291,e291,hx291_0,hx291_1⟩:=at_T53 (Kd.R_reads' HO_6.out).2.2 x16_3 p291 q291;cases e291;replace p291:=eq_true p291;replace q291:=eq_true q291;obtain ⟨Ao91,co91,eo91⟩:=Kd.R_slice HO290.out;subst eo91)|((with_reducible refine gate_callee (f:=27) rfl ?_);refine goesL_ (some 109) rfl rfl Try.func27 (by kernel_rfl) rfl #[.slice Ao91 t288.length co91,.agg #[.int .i64 ((rd_T53 x6_3 x16_3).f0),.int .i64 ((rd_T53 x6_3 x16_3).f1)]] rfl (by (try simp only [mT,mC,mN]);first|done|rfl|(simp only [lD,lT];rfl)) ?_;(with_reducible refine (impl_implies.calls k3 _ _ t288 ((rd_T53 x6_3 x16_3).f0) ((rd_T53 x6_3 x16_3).f1) false _ ?side1 ?side2 A79.out).mono ?_);(case side1=>repeat (first|exact (Kd.R_reads' HO290.out).2.2|(with_reducible first|refine cL ?_ _|refine cN ?_ _|refine cW ?_)));(case side2=>exact (Kd.R_reads' HO290.out).2.1);rintro e w92 ⟨rfl,hb⟩;refine ⟨_,rfl,?_⟩;have n0_:=qK (rB (by (with_reducible repeat (first|apply rL|apply rN|apply rW));exact HO_6.out) hb);have n1_:=qK (rB (by (with_reducible repeat (first|apply rL|apply rN|apply rW));exact HO290.out) hb);have n2_:=qK (qT (by repeat (with_reducible first|exact HB.out|apply qA|apply qD|apply qO)) hb);clear HO_6;clear HO290;clear HB;have HO_6:=n0_;have HO290:=n1_;have HB:=n2_;clear n0_ n1_ n2_;(try clear hb)))
             go_roundg k3
             case measure=>have:=HK1.out;have:=HK2.out;have:=HK3.out;omega
             case rel=>exact ⟨(x6_3),(wrap64 (x16_3 + 1)),(by first|rfl|(simp;done)|(simp [*];done)),H',⟨by have:=HK1.out;have:=HK2.out;have:=HK3.out;omega⟩,⟨by (try simp only [hl6_2]);(with_reducible repeat (first|apply rL|apply rN|apply rW));exact Kd.R_mono HO_6.out (fun _ hk=>trivial)⟩,⟨by repeat (first|(with_reducible first|exact HB.out|apply qA|apply qD|apply qO)|exact HB.out)⟩⟩
           ·rw [if_neg c78] at H;exact absurd H (by simp)
          ·rw [if_neg c75] at H;have c75b0:decide (x16_3 < (x6_3.length:Int))=false:=decide_eq_false c75;clear c75;by_cases c93:(x6_3.length:Int) > 10
           ·rw [if_pos c93] at H;have c93b0:decide (10 < (x6_3.length:Int))=true:=decide_eq_true c93;have c93b1:decide (10 < x6_3.length)=true:=decide_eq_true (by omega);clear c93;simp only [Option.some.injEq,Prod.mk.injEq] at H;obtain ⟨rfl,rfl⟩:=H;obtain ⟨Ao94,co94,eo94⟩:=Kd.R_slice HO_6.out;subst eo94;go_wp2
            go_ret2
            exact ⟨_,by first|rfl|(simp [errW_none,errW_some] <;> rfl)|(simp [*,errW_none,errW_some] <;> rfl),by first|exact Kd.S_nil _ _ _ _ _|exact Kd.N_nil _ _ _ _ _|exact Kd.V_nil _ _ _ _ _|exact Kd.Q_nil _ _ _ _ _|exact Kd.R_nil _ _ _ _ _,by repeat (first|(with_reducible first|exact HB.out|apply qA|apply qD|apply qO)|exact HB.out)⟩
           ·rw [if_neg c93] at H;have c93b0:decide (10 < (x6_3.length:Int))=false:=decide_eq_false c93;have c93b1:decide (10 < x6_3.length)=false:=decide_eq_false (by omega);clear c93;have H':=qK H;clear H;obtain ⟨Ao95,co95,eo95⟩:=Kd.R_slice HO_6.out;subst eo95;go_wp2
            go_loopg [18,118] k3 (fun kq v18 v118 w'=>∃ (x18_4:List (S37)) (x118_4:Int),v118=.int .i64 x118_4∧Aside0 (impl_CoverOf.l5 kq x18_4 x6_3 (x6_3.length:Int) x118_4=some (r1,r2))∧Aside0 (kq≤k3)∧Aside0 (Kd.S k37 37 w' w.heap.size (fun _=>True) v18 x18_4)∧Aside0 (Kd.R k53 53 w' w.heap.size (fun _=>True) (.slice Ao95 x6_3.length co95) x6_3)∧Aside0 (Below w.heap.size w w'))
            case atStart=>exact ⟨(([]:List (S37))),(0),(by first|rfl|(simp;done)|(simp [*];done)),H',⟨Nat.le_refl _⟩,⟨by (try simp only [hl6_2]);first|exact Kd.S_nil _ _ _ _ _|exact Kd.N_nil _ _ _ _ _|exact Kd.V_nil _ _ _ _ _|exact Kd.Q_nil _ _ _ _ _|exact Kd.R_nil _ _ _ _ _⟩,⟨by (try simp only [hl6_2]);(with_reducible repeat (first|apply rL|apply rN|apply rW));exact HO_6.out⟩,⟨by repeat (first|(with_reducible first|exact HB.out|apply qA|apply qD|apply qO)|exact HB.out)⟩⟩
            case round =>
             clear H';try clear c1
             try clear c2
             try clear p2
             try clear q2
             try clear hx2
             try clear c3
             try clear c4
             try clear c5
             try clear p5
             try clear q5
             try clear hx5
             try clear hf5
             try clear c6
             try clear p6
             try clear hx6
             try clear hf6
             try clear c7
             try clear c8
             try clear c9
             try clear c9b0
             try clear c10
             try clear c10b0
             try clear c11
             try clear c11b0
             try clear c17
             try clear c17b0
             try clear c18
             try clear c18b0
             try clear c19
             try clear c19b0
             try clear c20
             try clear c20b0
             try clear c20b1
             try clear c23
             try clear c24
             try clear c25
             try clear c26
             try clear p26
             try clear q26
             try clear hx26
             try clear c27
             try clear p27
             try clear q27
             try clear hx27
             try clear c28
             try clear p28
             try clear q28
             try clear hx28
             try clear c29
             try clear p29
             try clear q29
             try clear hx29
             try clear c32
             try clear c37
             try clear c44
             try clear c44b0
             try clear c45
             try clear c45b0
             try clear c46
             try clear c46b0
             try clear c50
             try clear c50b0
             try clear c51
             try clear c51b0
             try clear c52
             try clear c52b0
             try clear c53
             try clear c53b0
             try clear c54
             try clear c54b0
             try clear c55
             try clear c55b0
             try clear c55b1
             try clear c58
             try clear c59
             try clear p59
             try clear q59
             try clear hx59
             try clear hf59
             try clear p64
             try clear c67
             try clear hx67
             try clear hf67
             try clear c75
             try clear c75b0
             try clear c78
             try clear c78b0
             try clear c80
             try clear c93
             try clear c93b0
             try clear c93b1
             try clear hcz14_0
             try clear hcz14_1
             try clear hcz29_0
             try clear hcz29_1
             try clear hcz38_0
             try clear hcz38_1
             try clear hcz41_0
             try clear hcz41_1
             try clear hcz64_0
             try clear hcz64_1
             try clear hcz66_0
             try clear hcz66_1
             try clear hcz73_0
             try clear hcz73_1
             try clear hfz14_0
             try clear hfz14_1
             try clear hfz29_0
             try clear hfz29_1
             try clear hfz38_0
             try clear hfz38_1
             try clear hfz41_0
             try clear hfz41_1
             try clear hfz64_0
             try clear hfz64_1
             try clear hfz66_0
             try clear hfz66_1
             try clear hfz73_0
             try clear hfz73_1
             try clear hx264_0
             try clear hx264_1
             try clear hx269_0
             try clear hx275_0
             try clear hx275_1
             try clear hx279_0
             try clear hx280_0
             try clear hx280_1
             try clear hx281_0
             try clear hx281_1
             try clear hx291_0
             try clear hx291_1
             try clear hx59_0
             try clear hx59_1
             try clear hx67_0
             try clear hx67_1
             try clear p2
             try clear p26
             try clear p264
             try clear p269
             try clear p27
             try clear p275
             try clear p279
             try clear p28
             try clear p280
             try clear p281
             try clear p291
             try clear p5
             try clear p59
             try clear p6
             try clear p64
             try clear q2
             try clear q26
             try clear q264
             try clear q269
             try clear q27
             try clear q275
             try clear q279
             try clear q28
             try clear q280
             try clear q281
             try clear q291
             try clear q5
             try clear q59
             obtain ⟨x18_4,x118_4,rfl,HA,HK4,HO_18,HO_116,HB⟩:=hrel;cases gk with
             | zero=>exact absurd HA.out (by simp [impl_CoverOf.l5])
             | succ k4 =>
              have H:=HA.out;clear HA;simp only [impl_CoverOf.l5] at H;by_cases c96:x118_4 < (x6_3.length:Int)
              ·rw [if_pos c96] at H;have c96b0:decide (x118_4 < (x6_3.length:Int))=true:=decide_eq_true c96;clear c96;by_cases c97:0≤x118_4
               ·rw [if_pos c97] at H;have c97b0:decide (0≤x118_4)=true:=decide_eq_true c97;clear c97;by_cases c98:x118_4 < (x6_3.length:Int)
                ·rw [if_pos c98] at H;have c98b0:decide (x118_4 < (x6_3.length:Int))=true:=decide_eq_true c98;clear c98;replace H:=Option.bind_eq_some_iff.mp H;obtain ⟨t295,A990,H⟩:=H;replace H:((impl_set_list.f k4 ((rd_T53 x6_3 x118_4).f1)).bind fun t298=>(if x18_4.length < 2932031007402 then (impl_CoverOf.l5 k4 (x18_4 ++ [(⟨t295,t298⟩:S37)]) x6_3 (x6_3.length:Int) (wrap64 (x118_4 + 1))) else (none)))=some (r1,r2):=H;have A99:=qK A990;clear A990;replace H:=Option.bind_eq_some_iff.mp H;obtain ⟨t298,A1000,H⟩:=H;replace H:(if x18_4.length < 2932031007402 then (impl_CoverOf.l5 k4 (x18_4 ++ [(⟨t295,t298⟩:S37)]) x6_3 (x6_3.length:Int) (wrap64 (x118_4 + 1))) else (none))=some (r1,r2):=H;have A100:=qK A1000;clear A1000;by_cases c101:x18_4.length < 2932031007402
                 ·rw [if_pos c101] at H;have LMc101:=qK c101;clear c101;obtain ⟨y301,hy301⟩:∃ y_:List (S37),y_=(x18_4 ++ [(⟨t295,t298⟩:S37)]):=⟨_,rfl⟩;replace H:(impl_CoverOf.l5 k4 y301 x6_3 (x6_3.length:Int) (wrap64 (x118_4 + 1)))=some (r1,r2):=by first|(rw [hy301];with_reducible exact H)|(have H2_:=(Option.bind_some _ _).symm.trans H;rw [hy301];with_reducible exact H2_)|(have H2_:=(Option.bind_some _ _).symm.trans H;with_reducible exact H2_)|with_reducible exact H|(rw [hy301];exact H)|exact H
                  have Ny301:=qK hy301;clear hy301;have H':=qK H;clear H;have p293:0≤(x118_4:Int):=of_decide_eq_true (by first|(with_reducible assumption)|assumption);have q293:x118_4 < (x6_3.length:Int):=of_decide_eq_true (by first|(with_reducible assumption)|assumption);obtain ⟨ad293,e293,hx293_0,hx293_1⟩:=at_T53 (Kd.R_reads' HO_116.out).2.2 x118_4 p293 q293;cases e293
                  replace p293:=eq_true p293;replace q293:=eq_true q293;try go_wp2_with (first|((with_reducible refine gate_dst (N:=20) rfl ?_);refine box_event ?hg (N:=20) ?hd (cs:=#[.int .i64 0,.int .i64 0]) (t:=53) ?hr ?_;(case hd=>rfl);(case hg=>rfl);(case hr=>(go_simp;try rfl));intro gb294 hg w102 hbox hb;have n0_:=qK (Kd.S_below (by (with_reducible repeat (first|apply Kd.S_alloc|apply Kd.S_drewN|apply Kd.S_drew));exact HO_18.out) hb);have n1_:=qK (rB (Kd.R_elderB (by (with_reducible repeat (first|apply rL|apply rN|apply rW));exact HO_116.out) gb294 (Nat.le_of_eq hg.symm)) hb);have n2_:=qK (qT (by repeat (with_reducible first|exact HB.out|apply qA|apply qD|apply qO)) hb);have n3_:=qK (hbox);have n4_:=qK ((by rw [hg];exact (qZ (by repeat (with_reducible first|exact HB.out|apply qA|apply qD|apply qO))):w.heap.size≤gb294));have n5_:=qK ((by rw [hg];exact (qZ (by repeat (with_reducible first|exact HB.out|apply qA|apply qD|apply qO))):w.heap.size≤gb294));clear HO_18;clear HO_116;clear HB;have HO_18:=n0_;have HO_116:=n1_;have HB:=n2_;have BK294:=n3_;have GW294:=n4_;have GE294:=n5_;clear n0_ n1_ n2_ n3_ n4_ n5_;clear hb hbox hg;have hcz103_0:w102.cell? ⟨gb294,0,none⟩=some (.int .i64 0):=(qC BK294.out 0).trans rfl;have hcz103_1:w102.cell? ⟨gb294,1,none⟩=some (.int .i64 0):=(qC BK294.out 1).trans rfl;have hfz103_0:=qF BK294.out 0;have hfz103_1:=qF BK294.out 1))
                  have n0_:Aside0 (Kd.S k37 37 ((w102.setCell ⟨gb294,0,none⟩ (.int .i64 ((rd_T53 x6_3 x118_4).f0))).setCell ⟨gb294,1,none⟩ (.int .i64 ((rd_T53 x6_3 x118_4).f1))) w.heap.size (fun _=>True) u18 x18_4):=⟨by (with_reducible repeat (first|apply Kd.S_alloc|apply Kd.S_drewN|apply Kd.S_drew));exact Kd.S_mono (Kd.S_far (p:=⟨gb294,1,none⟩) (Kd.S_far (p:=⟨gb294,0,none⟩) (Kd.S_types HO_18.out BK294.out (by decide)) (fun _ hk=>hk.2) (.int .i64 ((rd_T53 x6_3 x118_4).f0))) (fun _ hk=>hk.2) (.int .i64 ((rd_T53 x6_3 x118_4).f1))) (fun _ hk=>trivial)⟩;have n1_:Aside0 (Kd.R k53 53 ((w102.setCell ⟨gb294,0,none⟩ (.int .i64 ((rd_T53 x6_3 x118_4).f0))).setCell ⟨gb294,1,none⟩ (.int .i64 ((rd_T53 x6_3 x118_4).f1))) w.heap.size (fun k_=>k_ ≠ gb294) (.slice (some ad293) x6_3.length co95) x6_3):=⟨by (with_reducible repeat (first|apply rL|apply rN|apply rW));exact Kd.R_mono (Kd.R_far (p:=⟨gb294,1,none⟩) (Kd.R_far (p:=⟨gb294,0,none⟩) (Kd.R_mono HO_116.out (fun k_ hk=>(⟨hk,hk.2⟩:_∧k_ ≠ gb294))) (fun _ hk=>hk.2) (.int .i64 ((rd_T53 x6_3 x118_4).f0))) (fun _ hk=>hk.2) (.int .i64 ((rd_T53 x6_3 x118_4).f1))) (fun _ hk=>hk.1.2)⟩;have n2_:Aside0 (((w102.setCell ⟨gb294,0,none⟩ (.int .i64 ((rd_T53 x6_3 x118_4).f0))).setCell ⟨gb294,1,none⟩ (.int .i64 ((rd_T53 x6_3 x118_4).f1))).heap[gb294]?=some (.cells #[.int .i64 ((rd_T53 x6_3 x118_4).f0),.int .i64 ((rd_T53 x6_3 x118_4).f1)] 53 (0,0))):=⟨by (with_reducible repeat (first|refine qN ?_ _|refine qW ?_|refine qL ?_ _));refine qP (cs:=#[.int .i64 ((rd_T53 x6_3 x118_4).f0),.int .i64 0]) ?_ 1 _ rfl;(with_reducible repeat (first|refine qN ?_ _|refine qW ?_|refine qL ?_ _));refine qP (cs:=#[.int .i64 0,.int .i64 0]) ?_ 0 _ rfl;(with_reducible repeat (first|refine qN ?_ _|refine qW ?_|refine qL ?_ _));exact BK294.out⟩;have n3_:Aside0 (Below w.heap.size w ((w102.setCell ⟨gb294,0,none⟩ (.int .i64 ((rd_T53 x6_3 x118_4).f0))).setCell ⟨gb294,1,none⟩ (.int .i64 ((rd_T53 x6_3 x118_4).f1)))):=⟨by repeat (first|(with_reducible first|exact HB.out|apply qA|apply qD|apply qO|refine qS ?_ GE294.out)|exact HB.out)⟩;(try clear HO_18);(try clear HO_116);(try clear BK294);(try clear HB);generalize ((w102.setCell ⟨gb294,0,none⟩ (.int .i64 ((rd_T53 x6_3 x118_4).f0))).setCell ⟨gb294,1,none⟩ (.int .i64 ((rd_T53 x6_3 x118_4).f1)))=w104 at n0_ n1_ n2_ n3_ ⊢
                  have HO_18:=n0_;have HO_116:=n1_;have BK294:=n2_;have HB:=n3_;clear n0_ n1_ n2_ n3_;have n0_:=qK (Kd.S_drew HO_18.out);have n1_:=qK (rW HO_116.out);have n2_:=qK (qW BK294.out);have n3_:=qK (qO HB.out);clear HO_18;clear HO_116;clear BK294;clear HB;have HO_18:=n0_;have HO_116:=n1_;have BK294:=n2_;have HB:=n3_;clear n0_ n1_ n2_ n3_;refine start_ (n:=11) (S:=fun w'=>w'.cell? ⟨gb294,0,none⟩=some (.int .i64 ((rd_T53 x6_3 x118_4).f0))∧w'.cell? ⟨gb294,1,none⟩=some (.int .i64 ((rd_T53 x6_3 x118_4).f1))) (ds:=[]) #[Z,Z,Z,Z,Z,Z,Z,Z,Z,Z,Z] (by kernel_rfl) rfl rfl ⟨(qC BK294.out 0).trans rfl,(qC BK294.out 1).trans rfl⟩ (fun hHeld=>?_);refine with_tabW impl_CoverOf.tab38 impl_CoverOf.bits38 (fun HT_ HW_=>?_);generalize w104.drew=w105 at HO_18 HO_116 BK294 HB hHeld ⊢
                  refine pure_ (i:=0) (N:=some 122) (v:=?_) (a':=?_) #[Y,Z,Z,Z,Z,Z,Z,Z,Z,Z,Z] rfl rfl (any_of HT_.out (by kernel_rfl)) (fun _ _ _ h=>h) (Or.inl ⟨by rfl,?_⟩) ?_ ?_;rotate_left
                  ·intro w';go_simp;with_reducible rfl
                  rotate_left
                  ·simp only [Act.put,sIb,sZ,sS,i64_w,i32_w];rfl
                  refine pure_ (i:=1) (N:=some 123) (v:=?_) (a':=?_) #[Y,Y,Z,Z,Z,Z,Z,Z,Z,Z,Z] rfl rfl (any_of HT_.out (by kernel_rfl)) (fun _ _ _ h=>h) (Or.inl ⟨by rfl,?_⟩) ?_ ?_;rotate_left
                  ·intro w';go_simp;with_reducible rfl
                  rotate_left
                  ·simp only [Act.put,sIb,sZ,sS,i64_w,i32_w];rfl
                  refine pure_ (i:=4) (N:=some 126) (v:=?_) (a':=?_) #[Y,Y,Z,Z,Y,Z,Z,Z,Z,Z,Z] rfl rfl (any_of HT_.out (by kernel_rfl)) (fun _ _ _ h=>h) (Or.inl ⟨by rfl,?_⟩) ?_ ?_;rotate_left
                  ·intro w';go_simp;with_reducible rfl
                  rotate_left
                  ·simp only [Act.put,sIb,sZ,sS,i64_w,i32_w];rfl
                  refine take_ (i:=2) (N:=some 124) (v:=?_) (a':=?_) #[Y,Y,Y,Z,Y,Z,Z,Z,Z,Z,Z] rfl rfl (take_ofW HT_.out HW_.out (by kernel_rfl)) (fun _ _ _ h=>h) (Or.inl ⟨by rfl,?_⟩) hHeld ?_ ?_;rotate_left
                  ·rintro w' ⟨s0,s1⟩;go_simp;with_reducible rfl
                  rotate_left
                  ·simp only [Act.put,sIb,sZ,sS,i64_w,i32_w];rfl
                  refine take_ (i:=5) (N:=some 127) (v:=?_) (a':=?_) #[Y,Y,Y,Z,Y,Y,Z,Z,Z,Z,Z] rfl rfl (take_ofW HT_.out HW_.out (by kernel_rfl)) (fun _ _ _ h=>h) (Or.inl ⟨by rfl,?_⟩) hHeld ?_ ?_;rotate_left
                  ·rintro w' ⟨s0,s1⟩;go_simp;with_reducible rfl
                  rotate_left
                  ·simp only [Act.put,sIb,sZ,sS,i64_w,i32_w];rfl
                  refine one_ (i:=3) (N:=some 125) #[Y,Y,Y,Y,Y,Y,Z,Z,Z,Z,Z] rfl rfl (one_of HT_.out (by kernel_rfl)) (by decide) (fun K hK=>?_);refine goes_ Try.func25 (by kernel_rfl) rfl #[.int .i64 ((rd_T53 x6_3 x118_4).f0)] (by rfl) rfl rfl (by (try simp only [mT,mC,mN]);first|done|rfl|(simp only [lD,lT];rfl)) ?_;with_reducible refine (impl_set_list.calls k4 ((rd_T53 x6_3 x118_4).f0) t295 _ A99.out).mono ?_
                  rintro e w106 ⟨v296,rfl,ho0,hb⟩;refine ⟨_,rfl,?_⟩;have n0_:=qK (Kd.S_elder' (by (with_reducible repeat (first|apply Kd.S_alloc|apply Kd.S_drewN|apply Kd.S_drew));exact HO_18.out) (Kd.R_base ho0) hb);have n1_:=qK (rB (by (with_reducible repeat (first|apply rL|apply rN|apply rW));exact HO_116.out) hb);have n2_:=qK (Kd.R_lower ho0 (qZ (by repeat (with_reducible first|exact HB.out|apply qA|apply qD|apply qO|refine qS ?_ GE294.out))));have n3_:=qK (qB (g:=gb294) (o:=_) (by (with_reducible repeat (first|refine qN ?_ _|refine qW ?_|refine qL ?_ _));exact BK294.out) hb);have n4_:=qK (qT (by repeat (with_reducible first|exact HB.out|apply qA|apply qD|apply qO|refine qS ?_ GE294.out)) hb);clear HO_18;clear HO_116;clear BK294;clear HB;have HO_18:=n0_;have HO_116:=n1_;have HO297:=n2_;have BK294:=n3_;have HB:=n4_;clear n0_ n1_ n2_ n3_ n4_;(try clear hb);(try clear ho0);refine hK.out _ _ ⟨(qC BK294.out 0).trans rfl,(qC BK294.out 1).trans rfl⟩ (fun hHeld=>?_);clear hK K;refine norm_ (a':=?_) ?_ ?_;rotate_left
                  ·show Act.put _ (some 125) _=_
                   simp only [Act.put,sIb,sZ,sS,i64_w,i32_w];rfl
                  refine one_ (i:=6) (N:=some 128) #[Y,Y,Y,Y,Y,Y,Y,Z,Z,Z,Z] rfl rfl (one_of HT_.out (by kernel_rfl)) (by decide) (fun K hK=>?_);refine goes_ Try.func25 (by kernel_rfl) rfl #[.int .i64 ((rd_T53 x6_3 x118_4).f1)] (by rfl) rfl rfl (by (try simp only [mT,mC,mN]);first|done|rfl|(simp only [lD,lT];rfl)) ?_;with_reducible refine (impl_set_list.calls k4 ((rd_T53 x6_3 x118_4).f1) t298 _ A100.out).mono ?_
                  rintro e w107 ⟨v299,rfl,ho0,hb⟩;refine ⟨_,rfl,?_⟩;have n0_:=qK (Kd.S_elder' (by (with_reducible repeat (first|apply Kd.S_alloc|apply Kd.S_drewN|apply Kd.S_drew));exact HO_18.out) (Kd.R_base ho0) hb);have n1_:=qK (rB (by (with_reducible repeat (first|apply rL|apply rN|apply rW));exact HO_116.out) hb);have n2_:=qK (Kd.R_elder' (by (with_reducible repeat (first|apply rL|apply rN|apply rW));exact HO297.out) (Kd.R_base ho0) hb);have n3_:=qK (Kd.R_lower (Kd.R_new' ho0 (Kd.R_lt (by (with_reducible repeat (first|apply rL|apply rN|apply rW));exact HO297.out))) (qZ (by repeat (with_reducible first|exact HB.out|apply qA|apply qD|apply qO|refine qS ?_ GE294.out))));have n4_:=qK (qB (g:=gb294) (o:=_) (by (with_reducible repeat (first|refine qN ?_ _|refine qW ?_|refine qL ?_ _));exact BK294.out) hb);have n5_:=qK (qT (by repeat (with_reducible first|exact HB.out|apply qA|apply qD|apply qO|refine qS ?_ GE294.out)) hb);clear HO_18;clear HO_116;clear HO297;clear BK294;clear HB;have HO_18:=n0_;have HO_116:=n1_;have HO297:=n2_;have HO300:=n3_;have BK294:=n4_;have HB:=n5_;clear n0_ n1_ n2_ n3_ n4_ n5_;(try clear hb);(try clear ho0);obtain ⟨Ao108,co108,eo108⟩:=Kd.R_slice HO300.out;(first|subst eo108|(injection eo108 with f1_ f2_ f3_;have f4_:=f1_.symm;have f5_:=f3_.symm;clear f1_ f2_ f3_;subst f4_;subst f5_));obtain ⟨Ao109,co109,eo109⟩:=Kd.R_slice HO297.out;(first|subst eo109|(injection eo109 with f1_ f2_ f3_;have f4_:=f1_.symm;have f5_:=f3_.symm;clear f1_ f2_ f3_;subst f4_;subst f5_));refine hK.out _ _ ⟨(qC BK294.out 0).trans rfl,(qC BK294.out 1).trans rfl⟩ (fun hHeld=>?_);clear hK K;refine norm_ (a':=?_) ?_ ?_;rotate_left
                  ·show Act.put _ (some 128) _=_
                   simp only [Act.put,sIb,sZ,sS,i64_w,i32_w];rfl
                  refine pure_ (i:=7) (N:=some 129) (v:=?_) (a':=?_) #[Y,Y,Y,Y,Y,Y,Y,Y,Z,Z,Z] rfl rfl (any_of HT_.out (by kernel_rfl)) (fun _ _ _ h=>h) (Or.inl ⟨by rfl,?_⟩) ?_ ?_;rotate_left
                  ·intro w';go_simp;with_reducible rfl
                  rotate_left
                  ·simp only [Act.put,sIb,sZ,sS,i64_w,i32_w];rfl
                  refine one_ (i:=8) (N:=some 130) #[Y,Y,Y,Y,Y,Y,Y,Y,Y,Z,Z] rfl rfl (one_of HT_.out (by kernel_rfl)) (by decide) (fun K hK=>?_);refine value_ (w1:=?_) (v:=?_) (by rfl) rfl ?_ ?_;rotate_left 2
                  ·go_simp;constructor
                   ·rfl
                   ·rfl
                  refine hK.out _ _ ⟨(qC (qL BK294.out _) 0).trans rfl,(qC (qL BK294.out _) 1).trans rfl⟩ (fun hHeld=>?_);clear hK K;refine norm_ (a':=?_) ?_ ?_;rotate_left
                  ·show Act.put _ (some 130) _=_
                   simp only [Act.put,sIb,sZ,sS,i64_w,i32_w];rfl
                  refine one_ (i:=9) (N:=some 131) #[Y,Y,Y,Y,Y,Y,Y,Y,Y,Y,Z] rfl rfl (one_of HT_.out (by kernel_rfl)) (by decide) (fun K hK=>?_);refine Kd.S_append_step k37 (w0:=w) w.heap.size (by rfl) (.tmp 122) (.tmp 130) 24 37 (.agg #[(.slice none 0 0),(.slice none 0 0)]) 48 rfl Try.underlying24 info37 rfl (by decide) (by omega) u18 x18_4 (⟨t295,t298⟩:S37) [.slice Ao109 t295.length co109,.slice Ao108 t298.length co108] (fun _=>True) (fun k_=>some k_=(.slice Ao109 t295.length co109:Value).ownBlock ∨ some k_=(.slice Ao108 t298.length co108:Value).ownBlock) rfl rfl ?aP (fun k_ hk_=>hk_.elim (fun h_=>((Kd.R_mono (ok':=fun k_=>((fun _=>True)) k_∧some k_ ≠ (u18:Value).ownBlock) (Kd.R_apart' (HO297.out) (Kd.S_typed HO_18.out) (by decide)) (fun k_ hk=>⟨trivial,hk.2⟩))).1 k_ h_.symm) (fun h_=>((Kd.R_mono (ok':=fun k_=>((fun _=>True)) k_∧some k_ ≠ (u18:Value).ownBlock) (Kd.R_apart' (HO300.out) (Kd.S_typed HO_18.out) (by decide)) (fun k_ hk=>⟨trivial,hk.2⟩))).1 k_ h_.symm)) ?aF ?aO ?aB ?aS ?aL ?_;(case aP=>exact k37_mkM _ _ _ (⟨t295,t298⟩:S37) (Kd.R_mono (Kd.R_tight rfl (Kd.R_mono (ok':=fun k_=>((fun _=>True)) k_∧some k_ ≠ (u18:Value).ownBlock) (Kd.R_apart' (HO297.out) (Kd.S_typed HO_18.out) (by decide)) (fun k_ hk=>⟨trivial,hk.2⟩))) (fun _ h_=>Or.inl h_)) (Kd.R_mono (Kd.R_tight rfl (Kd.R_mono (ok':=fun k_=>((fun _=>True)) k_∧some k_ ≠ (u18:Value).ownBlock) (Kd.R_apart' (HO300.out) (Kd.S_typed HO_18.out) (by decide)) (fun k_ hk=>⟨trivial,hk.2⟩))) (fun _ h_=>Or.inr (h_))));(case aB=>exact (by repeat (with_reducible first|exact HB.out|apply qA|apply qD|apply qO|refine qS ?_ GE294.out)));(case aF=>exact (fun _ _=>trivial));(case aO=>exact (by (with_reducible repeat (first|apply Kd.S_alloc|apply Kd.S_drewN|apply Kd.S_drew));exact Kd.S_mono HO_18.out (fun k_ hk=>⟨trivial,fun e_=>e_.elim (fun h_=>hk.1.2 h_) (fun h_=>hk.2 h_)⟩)));(case aS=>exact (qZ (by repeat (with_reducible first|exact HB.out|apply qA|apply qD|apply qO|refine qS ?_ GE294.out))));(case aL=>have:=LMc101.out;omega);intro v302 w110 ho hb hg hat;rw [← Ny301.out] at ho;have n0_:=qK (Kd.R_over' (by (with_reducible repeat (first|apply rL|apply rN|apply rW));exact HO_116.out) (Kd.S_typed (by (with_reducible repeat (first|apply Kd.S_alloc|apply Kd.S_drewN|apply Kd.S_drew));exact HO_18.out)) (by decide) hg);have n1_:=qK (blk_grown (g:=gb294) (o:=_) (by (with_reducible repeat (first|refine qN ?_ _|refine qW ?_|refine qL ?_ _));exact BK294.out) hg (Kd.S_ne HO_18.out BK294.out (by decide)));have n2_:=qK (hb);have n3_:=qK (ho);clear HO_116;clear BK294;clear HB;clear HO_18;clear HO297;clear HO300;have HO_116:=n0_;have BK294:=n1_;have HB:=n2_;have HO303:=n3_;clear n0_ n1_ n2_ n3_;clear ho hb hg hat;refine hK.out _ _ ⟨(qC BK294.out 0).trans rfl,(qC BK294.out 1).trans rfl⟩ (fun hHeld=>?_);clear hK K;refine norm_ (a':=?_) ?_ ?_;rotate_left
                  ·show Act.put _ (some 131) _=_
                   simp only [Act.put,sIb,sZ,sS,i64_w,i32_w];rfl
                  refine pure_ (i:=10) (N:=some 18) (v:=?_) (a':=?_) #[Y,Y,Y,Y,Y,Y,Y,Y,Y,Y,Y] rfl rfl (any_of HT_.out (by kernel_rfl)) (fun _ _ _ h=>h) (Or.inl ⟨by rfl,?_⟩) ?_ ?_;rotate_left
                  ·intro w';go_simp;with_reducible rfl
                  rotate_left
                  ·simp only [Act.put,sIb,sZ,sS,i64_w,i32_w];rfl
                  refine done_ (done_of HT_.out (by kernel_rfl)) ?_;try go_wp2
                  go_roundg k4
                  case measure=>have:=HK1.out;have:=HK2.out;have:=HK3.out;have:=HK4.out;omega
                  case rel=>exact ⟨(y301),(wrap64 (x118_4 + 1)),(by first|rfl|(simp;done)|(simp [*];done)),H',⟨by have:=HK1.out;have:=HK2.out;have:=HK3.out;have:=HK4.out;omega⟩,⟨by (try simp only [hl6_2]);(with_reducible repeat (first|apply Kd.S_alloc|apply Kd.S_drewN|apply Kd.S_drew));exact HO303.out⟩,⟨by (try simp only [hl6_2]);(with_reducible repeat (first|apply rL|apply rN|apply rW));exact Kd.R_mono HO_116.out (fun _ hk=>trivial)⟩,⟨by repeat (first|(with_reducible first|exact HB.out|apply qA|apply qD|apply qO|refine qS ?_ GE294.out)|exact HB.out)⟩⟩
                 ·rw [if_neg c101] at H;exact absurd H (by simp)
                ·rw [if_neg c98] at H;exact absurd H (by simp)
               ·rw [if_neg c97] at H;exact absurd H (by simp)
              ·rw [if_neg c96] at H;have c96b0:decide (x118_4 < (x6_3.length:Int))=false:=decide_eq_false c96;clear c96;simp only [Option.some.injEq,Prod.mk.injEq] at H;obtain ⟨rfl,rfl⟩:=H;go_wp2
               go_ret2
               exact ⟨_,by first|rfl|(simp [errW_none,errW_some] <;> rfl)|(simp [*,errW_none,errW_some] <;> rfl),by (with_reducible repeat (first|apply Kd.S_alloc|apply Kd.S_drewN|apply Kd.S_drew));exact HO_18.out,by repeat (first|(with_reducible first|exact HB.out|apply qA|apply qD|apply qO)|exact HB.out)⟩
 ·replace c4:=Bool.eq_false_iff.mpr c4;subst c4;have H1:(some (([]:List (S37)),false))=some (r1,r2):=by rw [if_neg (show ¬ (false=true) by decide)] at H;exact H
  clear H;have H:=H1;clear H1;simp only [Option.some.injEq,Prod.mk.injEq] at H;obtain ⟨rfl,rfl⟩:=H;go_enter Try.func8,Try.ntmps8
  go_wp2_with (first|((with_reducible refine gate_callee (f:=23) rfl ?_);refine goesL_ (some 23) rfl rfl Try.func23 (by kernel_rfl) rfl #[.slice A0 l0.length c0,.int .i64 a1] rfl (by (try simp only [mT,mC,mN]);first|done|rfl|(simp only [lD,lT];rfl)) ?_;(with_reducible refine (impl_GoodDepends.calls k _ _ l0 a1 false _ ?side1 ?side2 A3.out).mono ?_);(case side1=>repeat (first|exact HR0.out|(with_reducible first|refine cL ?_ _|refine cN ?_ _|refine cW ?_)));(case side2=>exact HC0.out);rintro e w111 ⟨rfl,hb⟩;refine ⟨_,rfl,?_⟩;have n0_:=qK (qT (by repeat (with_reducible first|exact HB.out|apply qA|apply qD|apply qO)) hb);clear HB;have HB:=n0_;clear n0_;(try clear hb)))
  go_ret2
  exact ⟨_,by first|rfl|(simp [errW_none,errW_some] <;> rfl)|(simp [*,errW_none,errW_some] <;> rfl),by first|exact Kd.S_nil _ _ _ _ _|exact Kd.N_nil _ _ _ _ _|exact Kd.V_nil _ _ _ _ _|exact Kd.Q_nil _ _ _ _ _|exact Kd.R_nil _ _ _ _ _,by repeat (first|(with_reducible first|exact HB.out|apply qA|apply qD|apply qO)|exact HB.out)⟩

end Go.Proofs.Ytadfmbmnnekamaa.PFnCover
