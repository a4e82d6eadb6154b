/-
  A text of this claim's own, printed by a program of the session (wip/tools/xprint.py): functions of the program as Lean functions, each with what its call comes to.
-/
import Derived.Test.YtecebaeifmddnaaPFnExactBestOrderx0
import Derived.Test.YtecebaeifmddnaaPFnExactBestOrderx1
import Derived.Test.YtecebaeifmddnaaPFnExactBestOrderx5
import Derived.Test.YtecebaeifmddnaaPFnExactBestOrderx6
namespace Go.Proofs.Ytecebaeifmddnaa.PFnExactBestOrder
open Go.Proofs.YtecebaeifmddnaaW.PrintWords renaming pw_below_drewN → qD, blk_cell → qC, below_drew1 → qO, below_alloc → qA, blk_frozen → qF, below_set → qS, blk_drewN → qN, blk_alloc → qL, blk_drew → qW, below_size → qZ, below_step → qT, blk_below → qB, blk_far → qR, blk_put → qP
open Go.Proofs.YtecebaeifmddnaaW.PrintWords.Aside0 renaming mk → qK
open Bool renaming true → Y, false → Z
open List renaming setIfInBounds_toArray → sIb, set_cons_zero → sZ, set_cons_succ → sS, map_toArray → mT, map_cons → mC, map_nil → mN, length_drop → lD, length_take → lT
open Go.Proofs.YtecebaeifmddnaaW.PrintWords.Kd renaming C_alloc → cL, C_drewN → cN, C_drew → cW, C_below → cB, R_alloc → rL, R_drewN → rN, R_drew → rW, R_below → rB
open Go.RowKit Go.Proofs.YtecebaeifmddnaaW.PrintWords Go.Proofs.YtecebaeifmddnaaW.PrintLast Go.Proofs.YtecebaeifmddnaaW.PrintMore
attribute [local go_sem] max2_int min2_int max_two min_two max_three min_three max_four min_four   -- for this text's walks alone
set_option linter.unusedVariables false
set_option linter.unusedSimpArgs false

/-! ### impl_BestOrder: function 17 -/
def impl_BestOrder.f (k:Nat) (l0_0:List Int) (l0_1:List (List Int)):Option (List Int × Int × Bool):=(impl_GoodStats.f k l0_0 l0_1).bind fun t297=>(if t297=true then ((impl_whole.f (l0_0.length:Int)).bind fun t298=>((impl_set_list.f k t298).bind fun t299=>((impl_BestOf.f k l0_0 l0_1 t299).bind fun bt302=>(some (bt302.1,bt302.2.1,bt302.2.2))))) else (some (([]:List Int),0,false)))
theorem impl_BestOrder.mono : ∀ a0 a1 k,LeO (impl_BestOrder.f k a0 a1) (impl_BestOrder.f (k + 1) a0 a1):=by
 intro a0 a1 k;unfold impl_BestOrder.f
 repeat' first
   | (with_reducible exact impl_BestOf.mono _ _ _ _)
   | (with_reducible exact impl_GoodStats.mono _ _ _)
   | (with_reducible exact impl_set_list.mono _ _)
   | (with_reducible exact LeO.refl _)
   | (with_reducible exact LeO.none _)
   | (with_reducible refine LeO.ite ?_ ?_)
   | (with_reducible refine LeO.bind ?_ (fun _=>?_))
   | exact impl_BestOf.mono _ _ _ _
   | exact impl_GoodStats.mono _ _ _
   | exact impl_set_list.mono _ _
   | exact LeO.none _
   | refine LeO.ite ?_ ?_
   | refine LeO.bind ?_ (fun _=>?_)
def impl_BestOrder.T3 : Bool × List (List Nat × List Nat):=(true,[([],[]),([],[]),([1],[1]),([2],[2]),([3],[3]),([4,4],[4]),([0,5,5],[0,5]),([6],[6]),([6],[6]),([6],[6]),([7,6,0,1,2,3,4,5,6,7,8,9],[7]),([8,10,0,1,2,3,4,5,6,7,8,9,10],[8]),([9,11,0,1,2,3,4,5,6,7,8,9,10,11],[9])])
def impl_BestOrder.B3 : List Nat:=[0,0,2,6,14,30,63,127,127,127,1023,2047,4095]
theorem impl_BestOrder.tab3 : rtab .any (opsOf Try.f17 3)=impl_BestOrder.T3:=by kernel_rfl
theorem impl_BestOrder.bits3 : waitsOk impl_BestOrder.T3.2 impl_BestOrder.B3=true:=by kernel_rfl
set_option maxHeartbeats 8000000 in
set_option maxRecDepth 100000 in
theorem impl_BestOrder.calls (k:Nat) (A0_0:Option Addr) (c0_0:Nat) (l0_0:List Int) (A0_1:Option Addr) (c0_1:Nat) (l0_1:List (List Int)) (r1:List Int) (r2:Int) (r3:Bool) (w:World) (hr0_0:Kd.C (Kd.int .i64) w A0_0 l0_0.length l0_0) (hc0_0:l0_0.length≤c0_0) (hr0_1:Kd.C (Kd.slice 3 (Kd.int .i64)) w A0_1 l0_1.length l0_1) (hc0_1:l0_1.length≤c0_1) (h:impl_BestOrder.f k l0_0 l0_1=some (r1,r2,r3)) :
  Calls Try.prog 17 #[.agg #[.slice A0_0 l0_0.length c0_0,.slice A0_1 l0_1.length c0_1]] w fun e w'=>∃ v0_:Value,e=.returned (.tuple #[v0_,.int .i64 r2,.bool r3])∧Kd.R (Kd.int .i64) 3 w' w.heap.size (fun _=>True) v0_ r1∧Below w.heap.size w w':=by
 have hu29:=Try.underlying29;have HR0_0:=qK hr0_0;have HC0_0:=qK hc0_0;clear hr0_0 hc0_0;have HR0_1:=qK hr0_1;have HC0_1:=qK hc0_1;clear hr0_1 hc0_1;have HB:=qK (Below.refl w.heap.size w);have H:((impl_GoodStats.f k l0_0 l0_1).bind fun t297=>(if t297=true then ((impl_whole.f (l0_0.length:Int)).bind fun t298=>((impl_set_list.f k t298).bind fun t299=>((impl_BestOf.f k l0_0 l0_1 t299).bind fun bt302=>(some (bt302.1,bt302.2.1,bt302.2.2))))) else (some (([]:List Int),0,false))))=some (r1,r2,r3):=h;clear h;replace H:=Option.bind_eq_some_iff.mp H;obtain ⟨t297,A20,H⟩:=H;replace H:(if t297=true then ((impl_whole.f (l0_0.length:Int)).bind fun t298=>((impl_set_list.f k t298).bind fun t299=>((impl_BestOf.f k l0_0 l0_1 t299).bind fun bt302=>(some (bt302.1,bt302.2.1,bt302.2.2))))) else (some (([]:List Int),0,false)))=some (r1,r2,r3):=H;have A2:=qK A20;clear A20;by_cases c3:t297=true
 ·subst c3;have H1:((impl_whole.f (l0_0.length:Int)).bind fun t298=>((impl_set_list.f k t298).bind fun t299=>((impl_BestOf.f k l0_0 l0_1 t299).bind fun bt302=>(some (bt302.1,bt302.2.1,bt302.2.2)))))=some (r1,r2,r3):=by rw [if_pos rfl] at H;exact H
  clear H;have H:=H1;clear H1;replace H:=Option.bind_eq_some_iff.mp H;obtain ⟨t298,A40,H⟩:=H;replace H:((impl_set_list.f k t298).bind fun t299=>((impl_BestOf.f k l0_0 l0_1 t299).bind fun bt302=>(some (bt302.1,bt302.2.1,bt302.2.2))))=some (r1,r2,r3):=H;have A4:=qK A40;clear A40;replace H:=Option.bind_eq_some_iff.mp H;obtain ⟨t299,A50,H⟩:=H;replace H:((impl_BestOf.f k l0_0 l0_1 t299).bind fun bt302=>(some (bt302.1,bt302.2.1,bt302.2.2)))=some (r1,r2,r3):=H;have A5:=qK A50;clear A50;replace H:=Option.bind_eq_some_iff.mp H;obtain ⟨⟨t302,t305,t306⟩,A60,H⟩:=H;replace H:(some (t302,t305,t306))=some (r1,r2,r3):=H;have A6:=qK A60;clear A60;simp only [Option.some.injEq,Prod.mk.injEq] at H;obtain ⟨rfl,rfl,rfl⟩:=H;go_enter Try.func17,Try.ntmps17
  try go_wp2_with (first|((with_reducible refine gate_dst (N:=1) rfl ?_);refine box_event ?hg (N:=1) ?hd (cs:=#[.slice A0_0 l0_0.length c0_0,.slice A0_1 l0_1.length c0_1]) (t:=29) ?hr ?_;(case hd=>rfl);(case hg=>rfl);(case hr=>(go_simp;try rfl));intro gb296 hg w7 hbox hb;have n0_:=qK (qT (by repeat (with_reducible first|exact HB.out|apply qA|apply qD|apply qO)) hb);have n1_:=qK (hbox);have n2_:=qK ((by rw [hg];exact (qZ (by repeat (with_reducible first|exact HB.out|apply qA|apply qD|apply qO))):w.heap.size≤gb296));have n3_:=qK ((by rw [hg];exact (qZ (by repeat (with_reducible first|exact HB.out|apply qA|apply qD|apply qO))):w.heap.size≤gb296));clear HB;have HB:=n0_;have BK296:=n1_;have GW296:=n2_;have GE296:=n3_;clear n0_ n1_ n2_ n3_;clear hb hbox hg;have hcz8_0:w7.cell? ⟨gb296,0,none⟩=some (.slice A0_0 l0_0.length c0_0):=(qC BK296.out 0).trans rfl;have hcz8_1:w7.cell? ⟨gb296,1,none⟩=some (.slice A0_1 l0_1.length c0_1):=(qC BK296.out 1).trans rfl;have hfz8_0:=qF BK296.out 0;have hfz8_1:=qF BK296.out 1)|((with_reducible refine gate_callee (f:=22) rfl ?_);refine goesL_ (some 6) rfl rfl Try.func22 (by kernel_rfl) rfl #[.agg #[.slice A0_0 l0_0.length c0_0,.slice A0_1 l0_1.length c0_1]] rfl (by (try simp only [mT,mC,mN]);first|done|rfl|(simp only [lD,lT];rfl)) ?_;(with_reducible refine (impl_GoodStats.calls k _ _ l0_0 _ _ l0_1 true _ ?side1 ?side2 ?side3 ?side4 A2.out).mono ?_);(case side1=>repeat (first|exact (cB HR0_0.out HB.out)|(with_reducible first|refine cL ?_ _|refine cN ?_ _|refine cW ?_)));(case side2=>exact HC0_0.out);(case side3=>repeat (first|exact (cB HR0_1.out HB.out)|(with_reducible first|refine cL ?_ _|refine cN ?_ _|refine cW ?_)));(case side4=>exact HC0_1.out);rintro e w9 ⟨rfl,hb⟩;refine ⟨_,rfl,?_⟩;have n0_:=qK (qB (g:=gb296) (o:=_) (by (with_reducible repeat (first|refine qN ?_ _|refine qW ?_|refine qL ?_ _));exact BK296.out) hb);have n1_:=qK (qT (by repeat (with_reducible first|exact HB.out|apply qA|apply qD|apply qO|refine qS ?_ GE296.out)) hb);clear BK296;clear HB;have BK296:=n0_;have HB:=n1_;clear n0_ n1_;(try clear hb)))
  have n0_:=qK (qW BK296.out);have n1_:=qK (qO HB.out);clear BK296;clear HB;have BK296:=n0_;have HB:=n1_;clear n0_ n1_;refine start_ (n:=13) (S:=fun w'=>w'.cell? ⟨gb296,0,none⟩=some (.slice A0_0 l0_0.length c0_0)∧w'.cell? ⟨gb296,1,none⟩=some (.slice A0_1 l0_1.length c0_1)) (ds:=[]) #[Z,Z,Z,Z,Z,Z,Z,Z,Z,Z,Z,Z,Z] (by kernel_rfl) rfl rfl ⟨(qC BK296.out 0).trans rfl,(qC BK296.out 1).trans rfl⟩ (fun hHeld=>?_);refine with_tabW impl_BestOrder.tab3 impl_BestOrder.bits3 (fun HT_ HW_=>?_);generalize w9.drew=w10 at BK296 HB hHeld ⊢
  refine pure_ (i:=1) (N:=some 9) (v:=?_) (a':=?_) #[Z,Y,Z,Z,Z,Z,Z,Z,Z,Z,Z,Z,Z] rfl rfl (any_of HT_.out (by kernel_rfl)) (fun _ _ _ h=>h) (Or.inl ⟨by rfl,?_⟩) ?_ ?_;rotate_left
  ·intro w';go_simp;with_reducible rfl
  rotate_left
  ·simp only [Act.put,sIb,sZ,sS,i64_w,i32_w];rfl
  refine take_ (i:=0) (N:=some 8) (v:=?_) (a':=?_) #[Y,Y,Z,Z,Z,Z,Z,Z,Z,Z,Z,Z,Z] rfl rfl (take_ofW HT_.out HW_.out (by kernel_rfl)) (fun _ _ _ h=>h) (Or.inl ⟨by rfl,?_⟩) hHeld ?_ ?_;rotate_left
  ·rintro w' ⟨s0,s1⟩;go_simp;with_reducible rfl
  rotate_left
  ·simp only [Act.put,sIb,sZ,sS,i64_w,i32_w];rfl
  refine take_ (i:=2) (N:=some 10) (v:=?_) (a':=?_) #[Y,Y,Y,Z,Z,Z,Z,Z,Z,Z,Z,Z,Z] rfl rfl (take_ofW HT_.out HW_.out (by kernel_rfl)) (fun _ _ _ h=>h) (Or.inl ⟨by rfl,?_⟩) hHeld ?_ ?_;rotate_left
  ·rintro w' ⟨s0,s1⟩;go_simp;with_reducible rfl
  rotate_left
  ·simp only [Act.put,sIb,sZ,sS,i64_w,i32_w];rfl
  refine pure_ (i:=3) (N:=some 11) (v:=?_) (a':=?_) #[Y,Y,Y,Y,Z,Z,Z,Z,Z,Z,Z,Z,Z] rfl rfl (any_of HT_.out (by kernel_rfl)) (fun _ _ _ h=>h) (Or.inl ⟨by rfl,?_⟩) ?_ ?_;rotate_left
  ·intro w';go_simp;with_reducible rfl
  rotate_left
  ·simp only [Act.put,sIb,sZ,sS,i64_w,i32_w];rfl
  refine one_ (i:=4) (N:=some 12) #[Y,Y,Y,Y,Y,Z,Z,Z,Z,Z,Z,Z,Z] rfl rfl (one_of HT_.out (by kernel_rfl)) (by decide) (fun K hK=>?_);refine goes_ Try.func39 (by kernel_rfl) rfl #[.int .i64 (l0_0.length:Int)] (by rfl) rfl rfl (by (try simp only [mT,mC,mN]);first|done|rfl|(simp only [lD,lT];rfl)) ?_;with_reducible refine (impl_whole.calls (l0_0.length:Int) t298 _ A4.out).mono ?_
  rintro e w' ⟨rfl,⟨nd,rfl⟩⟩;refine ⟨_,rfl,?_⟩;refine hK.out _ _ ⟨(qC BK296.out 0).trans rfl,(qC BK296.out 1).trans rfl⟩ (fun hHeld=>?_);clear hK K;refine norm_ (a':=?_) ?_ ?_;rotate_left
  ·show Act.put _ (some 12) _=_
   simp only [Act.put,sIb,sZ,sS,i64_w,i32_w];rfl
  refine one_ (i:=5) (N:=some 13) #[Y,Y,Y,Y,Y,Y,Z,Z,Z,Z,Z,Z,Z] rfl rfl (one_of HT_.out (by kernel_rfl)) (by decide) (fun K hK=>?_);refine goes_ Try.func40 (by kernel_rfl) rfl #[.int .i64 t298] (by rfl) rfl rfl (by (try simp only [mT,mC,mN]);first|done|rfl|(simp only [lD,lT];rfl)) ?_;with_reducible refine (impl_set_list.calls k t298 t299 _ A5.out).mono ?_
  rintro e w11 ⟨v300,rfl,ho0,hb⟩;refine ⟨_,rfl,?_⟩;have n0_:=qK (Kd.R_lower ho0 (qZ (by repeat (with_reducible first|exact HB.out|apply qA|apply qD|apply qO|refine qS ?_ GE296.out))));have n1_:=qK (qB (g:=gb296) (o:=_) (by (with_reducible repeat (first|refine qN ?_ _|refine qW ?_|refine qL ?_ _));exact BK296.out) hb);have n2_:=qK (qT (by repeat (with_reducible first|exact HB.out|apply qA|apply qD|apply qO|refine qS ?_ GE296.out)) hb);clear BK296;clear HB;have HO301:=n0_;have BK296:=n1_;have HB:=n2_;clear n0_ n1_ n2_;(try clear hb);(try clear ho0);obtain ⟨Ao12,co12,eo12⟩:=Kd.R_slice HO301.out;(first|subst eo12|(injection eo12 with f1_ f2_ f3_;have f4_:=f1_.symm;have f5_:=f3_.symm;clear f1_ f2_ f3_;subst f4_;subst f5_));refine hK.out _ _ ⟨(qC BK296.out 0).trans rfl,(qC BK296.out 1).trans rfl⟩ (fun hHeld=>?_);clear hK K;refine norm_ (a':=?_) ?_ ?_;rotate_left
  ·show Act.put _ (some 13) _=_
   simp only [Act.put,sIb,sZ,sS,i64_w,i32_w];rfl
  refine one_ (i:=6) (N:=some 14) #[Y,Y,Y,Y,Y,Y,Y,Z,Z,Z,Z,Z,Z] rfl rfl (one_of HT_.out (by kernel_rfl)) (by decide) (fun K hK=>?_);refine goes_ Try.func10 (by kernel_rfl) rfl #[.agg #[.slice A0_0 l0_0.length c0_0,.slice A0_1 l0_1.length c0_1],.slice Ao12 t299.length co12] (by rfl) rfl rfl (by (try simp only [mT,mC,mN]);first|done|rfl|(simp only [lD,lT];rfl)) ?_;with_reducible refine (impl_BestOf.calls k _ _ l0_0 _ _ l0_1 _ _ t299 t302 t305 t306 _ ?side1 ?side2 ?side3 ?side4 ?side5 ?side6 A6.out).mono ?_
  (case side1=>repeat (first|exact (cB HR0_0.out HB.out)|(with_reducible first|refine cL ?_ _|refine cN ?_ _|refine cW ?_)));(case side2=>exact HC0_0.out);(case side3=>repeat (first|exact (cB HR0_1.out HB.out)|(with_reducible first|refine cL ?_ _|refine cN ?_ _|refine cW ?_)));(case side4=>exact HC0_1.out);(case side5=>repeat (first|exact (Kd.R_reads' HO301.out).2.2|(with_reducible first|refine cL ?_ _|refine cN ?_ _|refine cW ?_)));(case side6=>exact (Kd.R_reads' HO301.out).2.1);rintro e w13 ⟨v303,rfl,ho0,hb⟩;refine ⟨_,rfl,?_⟩;have n0_:=qK (Kd.R_elder' (by (with_reducible repeat (first|apply rL|apply rN|apply rW));exact HO301.out) (Kd.R_base ho0) hb);have n1_:=qK (Kd.R_lower (Kd.R_new' ho0 (Kd.R_lt (by (with_reducible repeat (first|apply rL|apply rN|apply rW));exact HO301.out))) (qZ (by repeat (with_reducible first|exact HB.out|apply qA|apply qD|apply qO|refine qS ?_ GE296.out))));have n2_:=qK (qB (g:=gb296) (o:=_) (by (with_reducible repeat (first|refine qN ?_ _|refine qW ?_|refine qL ?_ _));exact BK296.out) hb);have n3_:=qK (qT (by repeat (with_reducible first|exact HB.out|apply qA|apply qD|apply qO|refine qS ?_ GE296.out)) hb);clear HO301;clear BK296;clear HB;have HO301:=n0_;have HO304:=n1_;have BK296:=n2_;have HB:=n3_;clear n0_ n1_ n2_ n3_;(try clear hb);(try clear ho0);refine hK.out _ _ ⟨(qC BK296.out 0).trans rfl,(qC BK296.out 1).trans rfl⟩ (fun hHeld=>?_);clear hK K;refine norm_ (a':=?_) ?_ ?_;rotate_left
  ·show Act.put _ (some 14) _=_
   simp only [Act.put,sIb,sZ,sS,i64_w,i32_w];rfl
  refine pure_ (i:=7) (N:=some 15) (v:=?_) (a':=?_) #[Y,Y,Y,Y,Y,Y,Y,Y,Z,Z,Z,Z,Z] rfl rfl (any_of HT_.out (by kernel_rfl)) (fun _ _ _ h=>h) (Or.inl ⟨by rfl,?_⟩) ?_ ?_;rotate_left
  ·intro w';go_simp;with_reducible rfl
  rotate_left
  ·simp only [Act.put,sIb,sZ,sS,i64_w,i32_w];rfl
  refine pure_ (i:=8) (N:=some 16) (v:=?_) (a':=?_) #[Y,Y,Y,Y,Y,Y,Y,Y,Y,Z,Z,Z,Z] rfl rfl (any_of HT_.out (by kernel_rfl)) (fun _ _ _ h=>h) (Or.inl ⟨by rfl,?_⟩) ?_ ?_;rotate_left
  ·intro w';go_simp;with_reducible rfl
  rotate_left
  ·simp only [Act.put,sIb,sZ,sS,i64_w,i32_w];rfl
  refine pure_ (i:=9) (N:=some 17) (v:=?_) (a':=?_) #[Y,Y,Y,Y,Y,Y,Y,Y,Y,Y,Z,Z,Z] rfl rfl (any_of HT_.out (by kernel_rfl)) (fun _ _ _ h=>h) (Or.inl ⟨by rfl,?_⟩) ?_ ?_;rotate_left
  ·intro w';go_simp;with_reducible rfl
  rotate_left
  ·simp only [Act.put,sIb,sZ,sS,i64_w,i32_w];rfl
  refine pure_ (i:=10) (N:=some 2) (v:=?_) (a':=?_) #[Y,Y,Y,Y,Y,Y,Y,Y,Y,Y,Y,Z,Z] rfl rfl (any_of HT_.out (by kernel_rfl)) (fun _ _ _ h=>h) (Or.inl ⟨by rfl,?_⟩) ?_ ?_;rotate_left
  ·intro w';go_simp;with_reducible rfl
  rotate_left
  ·simp only [Act.put,sIb,sZ,sS,i64_w,i32_w];rfl
  refine pure_ (i:=11) (N:=some 3) (v:=?_) (a':=?_) #[Y,Y,Y,Y,Y,Y,Y,Y,Y,Y,Y,Y,Z] rfl rfl (any_of HT_.out (by kernel_rfl)) (fun _ _ _ h=>h) (Or.inl ⟨by rfl,?_⟩) ?_ ?_;rotate_left
  ·intro w';go_simp;with_reducible rfl
  rotate_left
  ·simp only [Act.put,sIb,sZ,sS,i64_w,i32_w];rfl
  refine pure_ (i:=12) (N:=some 4) (v:=?_) (a':=?_) #[Y,Y,Y,Y,Y,Y,Y,Y,Y,Y,Y,Y,Y] rfl rfl (any_of HT_.out (by kernel_rfl)) (fun _ _ _ h=>h) (Or.inl ⟨by rfl,?_⟩) ?_ ?_;rotate_left
  ·intro w';go_simp;with_reducible rfl
  rotate_left
  ·simp only [Act.put,sIb,sZ,sS,i64_w,i32_w];rfl
  refine done_ (done_of HT_.out (by kernel_rfl)) ?_;try go_wp2
  go_ret3
  exact ⟨_,by first|rfl|(simp [errW_none,errW_some] <;> rfl)|(simp [*,errW_none,errW_some] <;> rfl),by (with_reducible repeat (first|apply rL|apply rN|apply rW));exact Kd.R_mono HO304.out (fun _ hk=>trivial),by repeat (first|(with_reducible first|exact HB.out|apply qA|apply qD|apply qO|refine qS ?_ GE296.out)|exact HB.out)⟩
 ·replace c3:=Bool.eq_false_iff.mpr c3;subst c3;have H1:(some (([]:List Int),0,false))=some (r1,r2,r3):=by rw [if_neg (show ¬ (false=true) by decide)] at H;exact H
  clear H;have H:=H1;clear H1;simp only [Option.some.injEq,Prod.mk.injEq] at H;obtain ⟨rfl,rfl,rfl⟩:=H;go_enter Try.func17,Try.ntmps17
  go_wp2_with (first|((with_reducible refine gate_dst (N:=1) rfl ?_);refine box_event ?hg (N:=1) ?hd (cs:=#[.slice A0_0 l0_0.length c0_0,.slice A0_1 l0_1.length c0_1]) (t:=29) ?hr ?_;(case hd=>rfl);(case hg=>rfl);(case hr=>(go_simp;try rfl));intro gb296 hg w14 hbox hb;have n0_:=qK (qT (by repeat (with_reducible first|exact HB.out|apply qA|apply qD|apply qO)) hb);have n1_:=qK (hbox);have n2_:=qK ((by rw [hg];exact (qZ (by repeat (with_reducible first|exact HB.out|apply qA|apply qD|apply qO))):w.heap.size≤gb296));have n3_:=qK ((by rw [hg];exact (qZ (by repeat (with_reducible first|exact HB.out|apply qA|apply qD|apply qO))):w.heap.size≤gb296));clear HB;have HB:=n0_;have BK296:=n1_;have GW296:=n2_;have GE296:=n3_;clear n0_ n1_ n2_ n3_;clear hb hbox hg;have hcz15_0:w14.cell? ⟨gb296,0,none⟩=some (.slice A0_0 l0_0.length c0_0):=(qC BK296.out 0).trans rfl;have hcz15_1:w14.cell? ⟨gb296,1,none⟩=some (.slice A0_1 l0_1.length c0_1):=(qC BK296.out 1).trans rfl;have hfz15_0:=qF BK296.out 0;have hfz15_1:=qF BK296.out 1)|((with_reducible refine gate_callee (f:=22) rfl ?_);refine goesL_ (some 6) rfl rfl Try.func22 (by kernel_rfl) rfl #[.agg #[.slice A0_0 l0_0.length c0_0,.slice A0_1 l0_1.length c0_1]] rfl (by (try simp only [mT,mC,mN]);first|done|rfl|(simp only [lD,lT];rfl)) ?_;(with_reducible refine (impl_GoodStats.calls k _ _ l0_0 _ _ l0_1 false _ ?side1 ?side2 ?side3 ?side4 A2.out).mono ?_);(case side1=>repeat (first|exact (cB HR0_0.out HB.out)|(with_reducible first|refine cL ?_ _|refine cN ?_ _|refine cW ?_)));(case side2=>exact HC0_0.out);(case side3=>repeat (first|exact (cB HR0_1.out HB.out)|(with_reducible first|refine cL ?_ _|refine cN ?_ _|refine cW ?_)));(case side4=>exact HC0_1.out);rintro e w16 ⟨rfl,hb⟩;refine ⟨_,rfl,?_⟩;have n0_:=qK (qB (g:=gb296) (o:=_) (by (with_reducible repeat (first|refine qN ?_ _|refine qW ?_|refine qL ?_ _));exact BK296.out) hb);have n1_:=qK (qT (by repeat (with_reducible first|exact HB.out|apply qA|apply qD|apply qO|refine qS ?_ GE296.out)) hb);clear BK296;clear HB;have BK296:=n0_;have HB:=n1_;clear n0_ n1_;(try clear hb)))
  go_ret3
  exact ⟨_,by first|rfl|(simp [errW_none,errW_some] <;> rfl)|(simp [*,errW_none,errW_some] <;> rfl),by first|exact Kd.R_nil _ _ _ _ _|exact Kd.N_nil _ _ _ _ _|exact Kd.V_nil _ _ _ _ _|exact Kd.Q_nil _ _ _ _ _|exact Kd.S_nil _ _ _ _ _,by repeat (first|(with_reducible first|exact HB.out|apply qA|apply qD|apply qO|refine qS ?_ GE296.out)|exact HB.out)⟩

/-! ### laws_FnExactBestOrder: function 4 -/
theorem laws_szIntS_some (l : List Int) (a : Int) (h0 : 0 ≤ a) (h1 : a ≤ 1048576) (hl : l.length ≤ maxLen) : laws_szIntS.f l a = some (if a < (l.length : Int) then -1 else a - (l.length : Int)) := by
  unfold maxLen at hl
  unfold laws_szIntS.f
  rw [wrap_id (by omega) (by omega)]
  by_cases h : a < (l.length : Int)
  · rw [if_pos (by omega), if_pos h]
  · rw [if_neg (by omega), if_neg h]
theorem toIntS_ev (l : List Int) (hl : l.length ≤ 1048576) : Ev (fun k => laws_toIntS.f k l) l := by
  have loop := loop_up (n := l.length) (P := fun i => ∀ x : List Int, x.length = l.length → x.take i = l.take i → Ev (fun k => laws_toIntS.l0 k l x (i : Int)) l) ?_ ?_
  · unfold laws_toIntS.f
    refine Ev.pos (by omega) (Ev.pos (by omega) ?_)
    exact loop 0 (Nat.zero_le _) (List.replicate _ 0) (by simp) (by simp)
  · intro x hx ht
    refine Ev.succ ?_
    simp only [laws_toIntS.l0]
    refine Ev.neg (by omega) (Ev.const ?_)
    rw [List.take_of_length_le (by omega), List.take_of_length_le (by omega)] at ht
    rw [ht]
  · intro i hi ih x hx ht
    refine Ev.succ ?_
    simp only [laws_toIntS.l0]
    refine Ev.pos (by omega) (Ev.pos (by omega) (Ev.pos (by omega) ?_))
    rw [wrap_add (by omega) (by omega), rd_nat hi]
    refine ih _ (by simp [hx]) ?_
    rw [List.take_succ_eq_append_getElem (by simp [hx]; omega), List.take_succ_eq_append_getElem hi]
    simp only [Int.toNat_natCast, List.getElem_set_self]
    rw [List.take_set_of_le (by omega), ht]
theorem laws_toIntS_x (l : List Int) (hl : l.length ≤ 1048576) : ∃ k, laws_toIntS.f k l = some l := (toIntS_ev l hl).rounds
theorem eqIntS_ev (l : List Int) (hl : l.length ≤ 1048576) : Ev (fun k => laws_eqIntS.f k l l) true := by
  have loop := loop_up (n := l.length) (P := fun i => Ev (fun k => laws_eqIntS.l0 k l l (i : Int)) true) ?_ ?_
  · unfold laws_eqIntS.f
    exact Ev.pos rfl (loop 0 (Nat.zero_le _))
  · refine Ev.succ ?_
    simp only [laws_eqIntS.l0]
    exact Ev.neg (by omega) (Ev.const rfl)
  · intro i hi ih
    refine Ev.succ ?_
    simp only [laws_eqIntS.l0]
    refine Ev.pos (by omega) (Ev.pos (by omega) (Ev.pos (by omega) (Ev.pos trivial ?_)))
    rw [wrap_add (by omega) (by omega)]
    exact ih
theorem laws_eqIntS_x (l : List Int) (hl : l.length ≤ 1048576) : ∃ k, laws_eqIntS.f k l l = some true := (eqIntS_ev l hl).rounds
def markedIntS (n : Nat) (a : Int) : List Int := (List.range n).map (fun (j : Nat) => a + (j : Int))
def cntIntS (l : List Int) : Int := (l.length : Int)
theorem markIntS_ev (l : List Int) (a : Int) (hl : l.length ≤ 1048576) (h0 : 0 ≤ a) (h1 : a ≤ 1099511627776) : Ev (fun k => laws_markIntS.f k l a) (a + (l.length : Int), markedIntS l.length a) := by
  unfold markedIntS
  have loop := loop_up (n := l.length) (P := fun i => ∀ x : List Int, x.length = l.length → x.take i = (List.range i).map (fun (j : Nat) => a + (j : Int)) → Ev (fun k => laws_markIntS.l0 k x (a + (i : Int)) (i : Int)) (a + (l.length : Int), (List.range l.length).map (fun (j : Nat) => a + (j : Int)))) ?_ ?_
  · unfold laws_markIntS.f
    have := loop 0 (Nat.zero_le _) l rfl (by simp)
    rwa [show a + ((0 : Nat) : Int) = a by omega] at this
  · intro x hx ht
    refine Ev.succ ?_
    simp only [laws_markIntS.l0]
    refine Ev.neg (by omega) (Ev.const ?_)
    rw [List.take_of_length_le (by omega)] at ht
    rw [ht]
  · intro i hi ih x hx ht
    have h2 : wrap64 ((i : Int) + 1) = ((i + 1 : Nat) : Int) := by unfold wrap64; omega
    have h3 : wrap64 (a + (i : Int) + 1) = a + ((i + 1 : Nat) : Int) := by unfold wrap64; omega
    refine Ev.succ ?_
    simp only [laws_markIntS.l0]
    refine Ev.pos (by omega) (Ev.pos (by omega) ?_)
    rw [h3, h2]
    refine ih _ (by simp [hx]) ?_
    rw [List.take_succ_eq_append_getElem (by simp [hx]; omega), List.range_succ, List.map_append]
    simp only [Int.toNat_natCast, List.getElem_set_self]
    rw [List.take_set_of_le (by omega), ht]
    rfl
theorem laws_markIntS_x (l : List Int) (a : Int) (hl : l.length ≤ 1048576) (h0 : 0 ≤ a) (h1 : a ≤ 1099511627776) : ∃ k, laws_markIntS.f k l a = some (a + cntIntS l, markedIntS l.length a) := (markIntS_ev l a hl h0 h1).rounds
theorem cntIntS_ok (l : List Int) (hl : l.length ≤ 1048576) : 0 ≤ cntIntS l ∧ cntIntS l ≤ 16777216 := by unfold cntIntS; omega
theorem cntIntS_le (l : List Int) (hl : l.length ≤ 1048576) : 0 ≤ cntIntS l ∧ cntIntS l ≤ 16777216 := by unfold cntIntS; omega
theorem heldIntS_ev (n : Nat) (a : Int) (hn : n ≤ 1048576) (h0 : 0 ≤ a) (h1 : a ≤ 1099511627776) : Ev (fun k => laws_heldIntS.f k (markedIntS n a) a) (a + (n : Int)) := by
  unfold markedIntS
  have loop := loop_up (n := n) (P := fun i => Ev (fun k => laws_heldIntS.l0 k ((List.range n).map (fun (j : Nat) => a + (j : Int))) (a + (i : Int)) (i : Int)) (a + (n : Int))) ?_ ?_
  · unfold laws_heldIntS.f
    have := loop 0 (Nat.zero_le _)
    rwa [show a + ((0 : Nat) : Int) = a by omega] at this
  · refine Ev.succ ?_
    simp only [laws_heldIntS.l0]
    exact Ev.neg (by simp) (Ev.const rfl)
  · intro i hi ih
    have h2 : wrap64 ((i : Int) + 1) = ((i + 1 : Nat) : Int) := by unfold wrap64; omega
    have h3 : wrap64 (a + (i : Int) + 1) = a + ((i + 1 : Nat) : Int) := by unfold wrap64; omega
    refine Ev.succ ?_
    simp only [laws_heldIntS.l0]
    refine Ev.pos (by simp; omega) (Ev.pos (by omega) (Ev.pos (by rw [rd_nat (by simpa using hi)]; simp) ?_))
    rw [h3, h2]
    exact ih
theorem laws_heldIntS_x (l : List Int) (a : Int) (hl : l.length ≤ 1048576) (h0 : 0 ≤ a) (h1 : a ≤ 1099511627776) : ∃ k, laws_heldIntS.f k (markedIntS l.length a) a = some (a + cntIntS l) := (heldIntS_ev l.length a hl h0 h1).rounds
def okIntSS (l : List (List Int)) : Prop := l.length ≤ 1048576 ∧ (∀ x ∈ l, x.length ≤ 1048576) ∧ (l.map List.length).sum ≤ 1048576
theorem laws_eqIntSS_x (l : List (List Int)) (h : okIntSS l) : ∃ k, laws_eqIntSS.f k l l = some true := by
  obtain ⟨hl, hx, _⟩ := h
  have loop := loop_up (n := l.length) (P := fun i => Ev (fun k => laws_eqIntSS.l0 k l l (i : Int)) true) ?_ ?_
  · refine Ev.rounds ?_
    unfold laws_eqIntSS.f
    exact Ev.pos rfl (loop 0 (Nat.zero_le _))
  · refine Ev.succ ?_
    simp only [laws_eqIntSS.l0]
    exact Ev.neg (by omega) (Ev.const rfl)
  · intro i hi ih
    refine Ev.succ ?_
    simp only [laws_eqIntSS.l0]
    have hr : rd_L1 l (i : Int) = l[i] := by simp [rd_L1, hi]
    rw [hr, wrap_add (by omega) (by omega)]
    exact Ev.pos (by omega) (Ev.pos (by omega) (Ev.pos (by omega) (Ev.bind (eqIntS_ev _ (hx _ (List.getElem_mem hi))) (Ev.pos rfl ih))))
def cntIntSS (l : List (List Int)) : Int := (((l.map List.length).sum : Nat) : Int)
def markedIntSS : List (List Int) → Int → List (List Int)
  | [], _ => []
  | x :: l, a => markedIntS x.length a :: markedIntSS l (a + (x.length : Int))
theorem cntIntSS_ok (l : List (List Int)) (h : okIntSS l) : 0 ≤ cntIntSS l ∧ cntIntSS l ≤ 16777216 := by have := h.2.2; unfold cntIntSS; omega
theorem markIntSS_ev (l : List (List Int)) (a : Int) (hl : l.length ≤ 1048576) (hx : ∀ x ∈ l, x.length ≤ 1048576) (h0 : 0 ≤ a) (h1 : a + cntIntSS l ≤ 1099511627776) :
    Ev (fun k => laws_markIntSS.f k l a) (a + cntIntSS l, markedIntSS l a) := by
  have key : ∀ (d : Nat) (x : List (List Int)) (i : Nat) (p q : List (List Int)) (b : Int), x = p ++ q → p.length = i → q.length = d → x.length ≤ 1048576 → (∀ z ∈ q, z.length ≤ 1048576) → 0 ≤ b → b + cntIntSS q ≤ 1099511627776 →
      Ev (fun k => laws_markIntSS.l0 k x b (i : Int)) (b + cntIntSS q, p ++ markedIntSS q b) := by
    intro d
    induction d with
    | zero =>
      intro x i p q b hxe hp hq hxl _ _ _
      obtain rfl := List.length_eq_zero_iff.1 hq
      refine Ev.succ ?_
      simp only [laws_markIntSS.l0]
      refine Ev.neg (by rw [hxe]; simp [hp]) (Ev.const ?_)
      simp [cntIntSS, markedIntSS, hxe]
    | succ d ih =>
      intro x i p q b hxe hp hq hxl hb b0 b1
      obtain ⟨z, q, rfl⟩ : ∃ z t, q = z :: t := by cases q with
        | nil => simp at hq
        | cons z t => exact ⟨z, t, rfl⟩
      have hlen : x.length = i + (d + 1) := by rw [hxe, List.length_append, hp, hq]
      have hr : rdLL x (i : Int) = z := by rw [hxe]; simp [rdLL, ← hp]
      have c0 := hb z List.mem_cons_self
      have hc : cntIntSS (z :: q) = (z.length : Int) + cntIntSS q := by unfold cntIntSS; rw [List.map_cons, List.sum_cons]; omega
      have hn : 0 ≤ cntIntSS q := by unfold cntIntSS; omega
      rw [hc] at b1
      refine Ev.succ ?_
      simp only [laws_markIntSS.l0]
      rw [hr, wrap_add (by omega) (by omega)]
      refine Ev.pos (by omega) (Ev.pos (by omega) (Ev.bind (markIntS_ev _ b c0 b0 (by omega)) ?_))
      have hset : x.set (i : Int).toNat (markedIntS z.length b) = (p ++ [markedIntS z.length b]) ++ q := by rw [hxe, Int.toNat_natCast, ← hp]; simp
      rw [hset]
      have := ih _ (i + 1) (p ++ [markedIntS z.length b]) q (b + (z.length : Int)) rfl (by simp [hp]) (by simpa using hq) (by simp at hlen hq ⊢; omega) (fun y hy => hb y (List.mem_cons_of_mem _ hy)) (by omega) (by omega)
      have e1 : b + (z.length : Int) + cntIntSS q = b + cntIntSS (z :: q) := by rw [hc]; omega
      rw [e1] at this
      simpa [markedIntSS, List.append_assoc] using this
  exact key l.length l 0 [] l a rfl rfl rfl hl hx h0 h1
theorem laws_markIntSS_x (l : List (List Int)) (a : Int) (h : okIntSS l) (h0 : 0 ≤ a) (h1 : a + cntIntSS l ≤ 1099511627776) : ∃ k, laws_markIntSS.f k l a = some (a + cntIntSS l, markedIntSS l a) := (markIntSS_ev l a h.1 h.2.1 h0 h1).rounds
theorem sum_geL : ∀ {l : List (List Int)} {x : List Int}, x ∈ l → x.length ≤ (l.map List.length).sum
  | a :: l, x, h => by
    rw [List.map_cons, List.sum_cons]
    rcases List.mem_cons.1 h with rfl | h
    · omega
    · have := sum_geL h; omega
theorem szIntSS_ev (l : List (List Int)) (a : Int) (h0 : 0 ≤ a) (h1 : a ≤ 1048576) (hl : l.length ≤ maxLen) (hx : ∀ x ∈ l, x.length ≤ maxLen) :
    ∃ s, Ev (fun k => laws_szIntSS.f k l a) s ∧ (s < 0 ∨ (((l.length + (l.map List.length).sum : Nat) : Int) + s = a ∧ 0 ≤ s)) := by
  have hm : l.length ≤ 9223372036854775807 := by unfold maxLen at hl; omega
  have loop := loop_up (n := l.length) (P := fun i => ∀ b : Int, 0 ≤ b → b ≤ 1048576 → ∃ s, Ev (fun k => laws_szIntSS.l0 k l b (i : Int)) s ∧ (s < 0 ∨ (((((l.drop i).map List.length).sum : Nat) : Int) + s = b ∧ 0 ≤ s))) ?_ ?_
  · unfold laws_szIntSS.f
    rw [wrap_id (by omega) (by omega)]
    by_cases h : a - (l.length : Int) < 0
    · exact ⟨-1, Ev.pos h (Ev.const rfl), .inl (by omega)⟩
    · obtain ⟨s, hs, hq⟩ := loop 0 (Nat.zero_le _) (a - (l.length : Int)) (by omega) (by omega)
      refine ⟨s, Ev.neg h hs, ?_⟩
      rcases hq with hq | ⟨q1, q2⟩
      · exact .inl hq
      · rw [List.drop_zero] at q1
        exact .inr ⟨by omega, q2⟩
  · intro b b0 b1
    refine ⟨b, Ev.succ ?_, .inr ⟨by simp, b0⟩⟩
    simp only [laws_szIntSS.l0]
    exact Ev.neg (by omega) (Ev.const rfl)
  · intro i hi ih b b0 b1
    have hr : rd_L1 l (i : Int) = l[i] := by simp [rd_L1, hi]
    have hd : ((l.drop i).map List.length).sum = l[i].length + ((l.drop (i + 1)).map List.length).sum := by rw [List.drop_eq_getElem_cons hi, List.map_cons, List.sum_cons]
    have e1 := laws_szIntS_some l[i] b b0 b1 (hx _ (List.getElem_mem hi))
    by_cases c1 : b < (l[i].length : Int)
    · rw [if_pos c1] at e1
      refine ⟨-1, Ev.succ ?_, .inl (by omega)⟩
      simp only [laws_szIntSS.l0]
      rw [hr, e1]
      exact Ev.pos (by omega) (Ev.pos (by omega) (Ev.bind (Ev.const rfl) (Ev.pos (by omega) (Ev.const rfl))))
    rw [if_neg c1] at e1
    obtain ⟨s, hs, hq⟩ := ih (b - (l[i].length : Int)) (by omega) (by omega)
    refine ⟨s, Ev.succ ?_, ?_⟩
    · simp only [laws_szIntSS.l0]
      rw [hr, e1, wrap_add (by omega) (by omega)]
      exact Ev.pos (by omega) (Ev.pos (by omega) (Ev.bind (Ev.const rfl) (Ev.neg (by omega) hs)))
    · rcases hq with hq | ⟨q1, q2⟩
      · exact .inl hq
      · rw [hd]; exact .inr ⟨by omega, q2⟩
def szOk_laws_szStats (l0 : List Int) (l1 : List (List Int)) : Prop := l0.length + l1.length + (l1.map List.length).sum ≤ 1048576
theorem laws_szStats_x (l0 : List Int) (l1 : List (List Int)) (a : Int) (h0 : 0 ≤ a) (h1 : a ≤ 1048576) {p0 p1 : Int → Prop} (hl0 : l0.length ≤ maxLen ∧ ∀ x, x ∈ l0 → p0 x) (hl1 : l1.length ≤ maxLen ∧ ∀ x, x ∈ l1 → x.length ≤ maxLen ∧ ∀ y, y ∈ x → p1 y) :
    ∃ s, (∃ k, laws_szStats.f k l0 l1 a = some s) ∧ (s < 0 ∨ szOk_laws_szStats l0 l1 ∧ 0 ≤ s ∧ s ≤ 1048576) := by
  have e1 := laws_szIntS_some l0 a h0 h1 hl0.1
  unfold laws_szStats.f szOk_laws_szStats
  by_cases c1 : a < (l0.length : Int)
  · rw [if_pos c1] at e1
    refine ⟨-1, ⟨0, ?_⟩, .inl (by omega)⟩
    rw [e1]; rfl
  rw [if_neg c1] at e1
  obtain ⟨s, hs, hq⟩ := szIntSS_ev l1 (a - (l0.length : Int)) (by omega) (by omega) hl1.1 (fun x hx => (hl1.2 x hx).1)
  rcases hq with hq | ⟨q1, q2⟩
  · refine ⟨-1, Ev.rounds (Ev.bind (Ev.const e1) (Ev.neg (by omega) (Ev.bind hs (Ev.pos hq (Ev.const rfl))))), .inl (by omega)⟩
  · exact ⟨s, Ev.rounds (Ev.bind (Ev.const e1) (Ev.neg (by omega) (Ev.bind hs (Ev.neg (by omega) (Ev.const rfl))))), .inr ⟨by omega, q2, by omega⟩⟩
theorem toIntSS_ev (l : List (List Int)) (hl : l.length ≤ 1048576) (hx : ∀ x ∈ l, x.length ≤ 1048576) : Ev (fun k => laws_toIntSS.f k l) l := by
  have loop := loop_up (n := l.length) (P := fun i => ∀ x : List (List Int), x.length = l.length → x.take i = l.take i → Ev (fun k => laws_toIntSS.l0 k l x (i : Int)) l) ?_ ?_
  · unfold laws_toIntSS.f
    refine Ev.pos (by omega) (Ev.pos (by omega) ?_)
    exact loop 0 (Nat.zero_le _) (List.replicate _ []) (by simp) (by simp)
  · intro x hx2 ht
    refine Ev.succ ?_
    simp only [laws_toIntSS.l0]
    refine Ev.neg (by omega) (Ev.const ?_)
    rw [List.take_of_length_le (by omega), List.take_of_length_le (Nat.le_refl _)] at ht
    rw [ht]
  · intro i hi ih x hx2 ht
    have hr : rd_L1 l (i : Int) = l[i] := by simp [rd_L1, hi]
    refine Ev.succ ?_
    simp only [laws_toIntSS.l0]
    rw [hr, wrap_add (by omega) (by omega)]
    refine Ev.pos (by omega) (Ev.pos (by omega) (Ev.bind (toIntS_ev l[i] (hx _ (List.getElem_mem hi))) (Ev.pos (by omega) ?_)))
    refine ih _ (by simp [hx2]) ?_
    rw [List.take_succ_eq_append_getElem (by simp [hx2]; omega), List.take_succ_eq_append_getElem hi]
    simp only [Int.toNat_natCast, List.getElem_set_self]
    rw [List.take_set_of_le (by omega), ht]
def cvStats (l0 : List Int) (l1 : List (List Int)) : List Int × List (List Int) := (l0, l1)
theorem szS_le {l0 : List Int} {l1 : List (List Int)} (h : szOk_laws_szStats l0 l1) : l0.length ≤ 1048576 ∧ l1.length ≤ 1048576 ∧ (∀ x ∈ l1, x.length ≤ 1048576) := by
  unfold szOk_laws_szStats at h
  exact ⟨by omega, by omega, fun x hx => by have := sum_geL hx; omega⟩
theorem laws_toStats_x (l0 : List Int) (l1 : List (List Int)) (h : szOk_laws_szStats l0 l1) : ∃ k, laws_toStats.f k l0 l1 = some ((cvStats l0 l1).1, (cvStats l0 l1).2) := by
  obtain ⟨h0, h1, h2⟩ := szS_le h
  refine Ev.rounds ?_
  unfold laws_toStats.f
  exact Ev.bind (toIntS_ev l0 h0) (Ev.bind (toIntSS_ev l1 h1 h2) (Ev.const rfl))
def okStats (l0 : List Int) (l1 : List (List Int)) : Prop := l0.length ≤ 1048576 ∧ l1.length ≤ 1048576 ∧ (∀ x ∈ l1, x.length ≤ 1048576) ∧ (l1.map List.length).sum ≤ 1048576
theorem okStats_cv {l0 : List Int} {l1 : List (List Int)} (h : szOk_laws_szStats l0 l1) : okStats (cvStats l0 l1).1 (cvStats l0 l1).2 := by
  obtain ⟨h0, h1, h2⟩ := szS_le h
  unfold szOk_laws_szStats at h
  exact ⟨h0, h1, h2, by show (l1.map List.length).sum ≤ 1048576; omega⟩
theorem laws_eqStats_x (l0 : List Int) (l1 : List (List Int)) (h : okStats l0 l1) : ∃ k, laws_eqStats.f k l0 l1 l0 l1 = some true := by
  obtain ⟨h0, h1, h2, h3⟩ := h
  obtain ⟨k1, e1⟩ := laws_eqIntSS_x l1 ⟨h1, h2, h3⟩
  refine Ev.rounds ?_
  unfold laws_eqStats.f
  exact Ev.bind (eqIntS_ev _ h0) (Ev.pos rfl (Ev.bind (Ev.of (fun k => laws_eqIntSS.mono l1 l1 k) e1) (Ev.pos rfl (Ev.const rfl))))
def cntStats (l0 : List Int) (l1 : List (List Int)) : Int := (l0.length : Int) + cntIntSS l1
def markedStats (l0 : List Int) (l1 : List (List Int)) (a : Int) : List Int × List (List Int) := (markedIntS l0.length a, markedIntSS l1 (a + (l0.length : Int)))
theorem cntStats_ok (l0 : List Int) (l1 : List (List Int)) (h : okStats l0 l1) : 0 ≤ cntStats l0 l1 ∧ cntStats l0 l1 ≤ 16777216 := by
  obtain ⟨h0, _, _, h3⟩ := h
  unfold cntStats cntIntSS; omega
theorem cntStats_sz {l0 : List Int} {l1 : List (List Int)} (h : szOk_laws_szStats l0 l1) : 0 ≤ cntStats (cvStats l0 l1).1 (cvStats l0 l1).2 ∧ cntStats (cvStats l0 l1).1 (cvStats l0 l1).2 ≤ 16777216 := cntStats_ok _ _ (okStats_cv h)
theorem laws_markStats_x (l0 : List Int) (l1 : List (List Int)) (a : Int) (h : okStats l0 l1) (h0 : 0 ≤ a) (h1 : a + cntStats l0 l1 ≤ 1099511627776) : ∃ k, laws_markStats.f k l0 l1 a = some (a + cntStats l0 l1, (markedStats l0 l1 a).1, (markedStats l0 l1 a).2) := by
  obtain ⟨g0, g1, g2, g3⟩ := h
  have hn : 0 ≤ cntIntSS l1 := by unfold cntIntSS; omega
  unfold cntStats at *
  refine Ev.rounds ?_
  unfold laws_markStats.f
  refine Ev.bind (markIntS_ev l0 a g0 h0 (by omega)) (Ev.bind (markIntSS_ev l1 (a + (l0.length : Int)) g1 g2 (by omega) (by omega)) (Ev.const ?_))
  rw [show a + (l0.length : Int) + cntIntSS l1 = a + ((l0.length : Int) + cntIntSS l1) by omega]
  rfl
/-- THE ONE PURE STATEMENT of laws_FnExactBestOrder: what the reference tells, the program tells. -/
def laws_FnExactBestOrder.Pure : Prop := ∀ (l0_0 : List Int) (l0_1 : List (List Int)), (l0_0.length ≤ maxLen ∧ ∀ x_, x_ ∈ l0_0 → (Lit.int .i64 x_).wf = true) → (l0_1.length ≤ maxLen ∧ ∀ x_, x_ ∈ l0_1 → x_.length ≤ maxLen ∧ ∀ x__, x__ ∈ x_ → (Lit.int .i64 x__).wf = true) → szOk_laws_szStats l0_0 l0_1 → ∃ (k : Nat) (r : (List Int) × Int × Bool), spec_BestOrder.f k ((cvStats l0_0 l0_1).1) ((cvStats l0_0 l0_1).2) = some r ∧ impl_BestOrder.f k ((cvStats l0_0 l0_1).1) ((cvStats l0_0 l0_1).2) = some r ∧ r.1.length ≤ 1048576
set_option maxHeartbeats 16000000 in
set_option maxRecDepth 100000 in
theorem laws_FnExactBestOrder.walk (P:laws_FnExactBestOrder.Pure) (A0_0:Option Addr) (c0_0:Nat) (l0_0:List Int) (A0_1:Option Addr) (c0_1:Nat) (l0_1:List (List Int)) (w:World) (hr0_0:Kd.C (Kd.int .i64) w A0_0 l0_0.length l0_0) (hc0_0:l0_0.length≤c0_0) (hr0_1:Kd.C (Kd.slice 3 (Kd.int .i64)) w A0_1 l0_1.length l0_1) (hc0_1:l0_1.length≤c0_1) (wq0_0:l0_0.length≤maxLen∧∀ x_,x_ ∈ l0_0→(Lit.int .i64 x_).wf=true) (wq0_1:l0_1.length≤maxLen∧∀ x_,x_ ∈ l0_1→x_.length≤maxLen∧∀ x__,x__ ∈ x_→(Lit.int .i64 x__).wf=true) :
  Calls Try.prog 4 #[.agg #[.slice A0_0 l0_0.length c0_0,.slice A0_1 l0_1.length c0_1]] w fun e w'=>e=.returned (.bool true)∧Below w.heap.size w w':=by
 have HR0_0:=qK hr0_0;have HC0_0:=qK hc0_0;clear hr0_0 hc0_0;have HR0_1:=qK hr0_1;have HC0_1:=qK hc0_1;clear hr0_1 hc0_1;have HB:=qK (Below.refl w.heap.size w);obtain ⟨s2_,Nr2_,q2_⟩:=laws_szStats_x l0_0 l0_1 1048576 (by omega) (by omega) wq0_0 wq0_1;obtain ⟨kz2_,Nr2_⟩:=Nr2_;have N2:=qK Nr2_;clear Nr2_;by_cases g0_:s2_ < 0
 ·have g0_b:decide (s2_ < 0)=true:=decide_eq_true g0_;clear g0_ q2_;go_enter Try.func4,Try.ntmps4
  go_wp2_with (first|((with_reducible refine gate_dst (N:=1) rfl ?_);refine box_event ?hg (N:=1) ?hd (cs:=#[.slice A0_0 l0_0.length c0_0,.slice A0_1 l0_1.length c0_1]) (t:=25) ?hr ?_;(case hd=>rfl);(case hg=>rfl);(case hr=>(go_simp;try rfl));intro gb1 hg w1 hbox hb;have HG1:=qK hg;have HST:=qK hb;have HB1:=qK (qT HB.out HST.out);have HS1:=qK (show w.heap.size≤w1.heap.size from HST.out.size);have HS1b:=qK (show gb1 < w1.heap.size from blk_lt hbox);have BK1:=qK hbox;have hc1_0_1:w1.cell? ⟨gb1,0,none⟩=some (.slice A0_0 l0_0.length c0_0):=(qC BK1.out 0).trans rfl;have hc1_1_1:w1.cell? ⟨gb1,1,none⟩=some (.slice A0_1 l0_1.length c0_1):=(qC BK1.out 1).trans rfl;clear hg hbox hb HST)|((with_reducible refine gate_callee (f:=6) rfl ?_);refine goesL_ (some 19) rfl rfl Try.func6 (by kernel_rfl) rfl #[.agg #[.slice A0_0 l0_0.length c0_0,.slice A0_1 l0_1.length c0_1],.int .i64 1048576] rfl (by (try simp only [mT,mC,mN]);first|done|rfl|(simp only [lD,lT];rfl)) ?_;(with_reducible refine (laws_szStats.calls (hr0_0:=cB HR0_0.out HB1.out) (hc0_0:=HC0_0.out) (hr0_1:=cB HR0_1.out HB1.out) (hc0_1:=HC0_1.out) (h:=N2.out)).mono ?_);rintro e w2 ⟨rfl,hb⟩;have HST:=qK (hb);have HB2:=qK (qT HB1.out HST.out);have HS2:=qK (show w1.heap.size≤w2.heap.size from HST.out.size);have BK1_:=qK (qB BK1.out HST.out);clear BK1;have BK1:=BK1_;clear BK1_;have hc1_0_2:w2.cell? ⟨gb1,0,none⟩=some (.slice A0_0 l0_0.length c0_0):=(qC BK1.out 0).trans rfl;have hc1_1_2:w2.cell? ⟨gb1,1,none⟩=some (.slice A0_1 l0_1.length c0_1):=(qC BK1.out 1).trans rfl;clear hb HST;clear HB1;refine ⟨_,rfl,?_⟩))
  go_ret
  exact ⟨rfl,HB2.out⟩
 have g0_b:decide (s2_ < 0)=false:=decide_eq_false g0_;have hz2_:szOk_laws_szStats l0_0 l0_1:=by rcases q2_ with h_|h_;exact absurd h_ g0_;exact h_.1
 have hs2_:0≤s2_∧s2_≤1048576:=by rcases q2_ with h_|h_;exact absurd h_ g0_;exact h_.2
 clear q2_;obtain ⟨k_,⟨o0_,o1_,o2_⟩,P1,P2,P3⟩:=P l0_0 l0_1 wq0_0 wq0_1 hz2_;replace P3:o0_.length≤1048576:=P3;obtain ⟨k3_,Nr3_⟩:=laws_toStats_x l0_0 l0_1 hz2_;have Nr4_:=P1;obtain ⟨k5_,Nr5_⟩:=laws_toStats_x l0_0 l0_1 hz2_;have Nr8_:=P2;obtain ⟨k9_,Nr9_⟩:=laws_eqIntS_x o0_ P3;obtain ⟨k10_,Nr10_⟩:=laws_toStats_x l0_0 l0_1 hz2_;obtain ⟨k11_,Nr11_⟩:=laws_eqStats_x ((cvStats l0_0 l0_1).1) ((cvStats l0_0 l0_1).2) (okStats_cv hz2_);have hb12_:=cntStats_sz hz2_;obtain ⟨k12_,Nr12_⟩:=laws_markStats_x ((cvStats l0_0 l0_1).1) ((cvStats l0_0 l0_1).2) 1 (okStats_cv hz2_) (by omega) (by omega);obtain ⟨m12_,hm12_⟩:∃ z_,z_=1 + cntStats ((cvStats l0_0 l0_1).1) ((cvStats l0_0 l0_1).2):=⟨_,rfl⟩;rw [← hm12_] at Nr12_;obtain ⟨y12_0,hy12_0⟩:∃ z_,z_=(markedStats ((cvStats l0_0 l0_1).1) ((cvStats l0_0 l0_1).2) 1).1:=⟨_,rfl⟩;rw [← hy12_0] at Nr12_;clear hy12_0;obtain ⟨y12_1,hy12_1⟩:∃ z_,z_=(markedStats ((cvStats l0_0 l0_1).1) ((cvStats l0_0 l0_1).2) 1).2:=⟨_,rfl⟩;rw [← hy12_1] at Nr12_;clear hy12_1;obtain ⟨k13_,Nr13_⟩:=laws_eqIntS_x o0_ P3;have hb14_:=cntIntS_ok _ P3;obtain ⟨k14_,Nr14_⟩:=laws_markIntS_x o0_ 1 P3 (by omega) (by omega);obtain ⟨k15_,Nr15_⟩:=laws_heldIntS_x o0_ 1 P3 (by omega) (by omega);obtain ⟨m14_,hm14_⟩:∃ z_,z_=1 + cntIntS o0_:=⟨_,rfl⟩;rw [← hm14_] at Nr14_ Nr15_;obtain ⟨y14_0,hy14_0⟩:∃ z_,z_=markedIntS o0_.length 1:=⟨_,rfl⟩;rw [← hy14_0] at Nr14_ Nr15_;clear hy14_0;have Nr19_:=Nr15_;obtain ⟨k16_,Nr16_⟩:=laws_toStats_x l0_0 l0_1 hz2_;have Nr17_:=P2;obtain ⟨k18_,Nr18_⟩:=laws_eqIntS_x o0_ P3;have N3:=qK Nr3_;have N4:=qK Nr4_;have N5:=qK Nr5_;have N8:=qK Nr8_;have N9:=qK Nr9_;have N10:=qK Nr10_;have N11:=qK Nr11_;have N12:=qK Nr12_;have N13:=qK Nr13_;have N14:=qK Nr14_;have N15:=qK Nr15_;have N16:=qK Nr16_;have N17:=qK Nr17_;have N18:=qK Nr18_;have N19:=qK Nr19_;have cdm12_:decide (m12_ < 0)=false:=decide_eq_false (by omega);have cdm14_:decide (m14_ < 0)=false:=decide_eq_false (by omega);have cnm14_:(m14_ != m14_)=false:=bne_self_eq_false _;have cno1_:(o1_ != o1_)=false:=bne_self_eq_false _;have cno2_:(o2_ != o2_)=false:=bne_self_eq_false _;clear P1 P2 P3 Nr3_ Nr4_ Nr5_ Nr8_ Nr9_ Nr10_ Nr11_ Nr12_ Nr13_ Nr14_ Nr15_ Nr16_ Nr17_ Nr18_ Nr19_ hm12_ hb12_ hm14_ hb14_;clear P g0_ hz2_ hs2_ wq0_0 wq0_1;go_enter Try.func4,Try.ntmps4
 go_upto_region 1 with (first|((with_reducible refine gate_dst (N:=1) rfl ?_);refine box_event ?hg (N:=1) ?hd (cs:=#[.slice A0_0 l0_0.length c0_0,.slice A0_1 l0_1.length c0_1]) (t:=25) ?hr ?_;(case hd=>rfl);(case hg=>rfl);(case hr=>(go_simp;try rfl));intro gb1 hg w1 hbox hb;have HG1:=qK hg;have HST:=qK hb;have HB1:=qK (qT HB.out HST.out);have HS1:=qK (show w.heap.size≤w1.heap.size from HST.out.size);have HS1b:=qK (show gb1 < w1.heap.size from blk_lt hbox);have BK1:=qK hbox;have hc1_0_1:w1.cell? ⟨gb1,0,none⟩=some (.slice A0_0 l0_0.length c0_0):=(qC BK1.out 0).trans rfl;have hc1_1_1:w1.cell? ⟨gb1,1,none⟩=some (.slice A0_1 l0_1.length c0_1):=(qC BK1.out 1).trans rfl;clear hg hbox hb HST))
 go_upto_region 3 with (first|((with_reducible refine gate_callee (f:=6) rfl ?_);refine goesL_ (some 19) rfl rfl Try.func6 (by kernel_rfl) rfl #[.agg #[.slice A0_0 l0_0.length c0_0,.slice A0_1 l0_1.length c0_1],.int .i64 1048576] rfl (by (try simp only [mT,mC,mN]);first|done|rfl|(simp only [lD,lT];rfl)) ?_;(with_reducible refine (laws_szStats.calls (hr0_0:=cB HR0_0.out HB1.out) (hc0_0:=HC0_0.out) (hr0_1:=cB HR0_1.out HB1.out) (hc0_1:=HC0_1.out) (h:=N2.out)).mono ?_);rintro e w2 ⟨rfl,hb⟩;have HST:=qK (hb);have HB2:=qK (qT HB1.out HST.out);have HS2:=qK (show w1.heap.size≤w2.heap.size from HST.out.size);have BK1_:=qK (qB BK1.out HST.out);clear BK1;have BK1:=BK1_;clear BK1_;have hc1_0_2:w2.cell? ⟨gb1,0,none⟩=some (.slice A0_0 l0_0.length c0_0):=(qC BK1.out 0).trans rfl;have hc1_1_2:w2.cell? ⟨gb1,1,none⟩=some (.slice A0_1 l0_1.length c0_1):=(qC BK1.out 1).trans rfl;clear hb HST;clear HB1;refine ⟨_,rfl,?_⟩))
 go_upto_region 6 with (first|((with_reducible refine gate_callee (f:=8) rfl ?_);refine goesL_ (some 24) rfl rfl Try.func8 (by kernel_rfl) rfl #[.agg #[.slice A0_0 l0_0.length c0_0,.slice A0_1 l0_1.length c0_1]] rfl (by (try simp only [mT,mC,mN]);first|done|rfl|(simp only [lD,lT];rfl)) ?_;(with_reducible refine (laws_toStats.calls (hr0_0:=cB HR0_0.out HB2.out) (hc0_0:=HC0_0.out) (hr0_1:=cB HR0_1.out HB2.out) (hc0_1:=HC0_1.out) (h:=N3.out)).mono ?_);rintro e w3 ⟨v0_,v1_,rfl,ho0,ho1,hb⟩;have HST:=qK (hb);have HB3:=qK (qT HB2.out HST.out);have HS3:=qK (show w2.heap.size≤w3.heap.size from HST.out.size);obtain ⟨Af2,cf2,ef2⟩:=Kd.R_slice ho0;subst ef2;obtain ⟨Af3,cf3,ef3⟩:=Kd.S_slice ho1;subst ef3;have F2:=qK (show Kd.R (Kd.int .i64) 3 w3 w.heap.size (fun k_=>w2.heap.size≤k_∧k_ < w3.heap.size∧some k_=(.slice Af2 (cvStats l0_0 l0_1).1.length cf2:Value).ownBlock) (.slice Af2 (cvStats l0_0 l0_1).1.length cf2) (cvStats l0_0 l0_1).1 from Kd.R_lower (Kd.R_mono (Kd.R_bound (Kd.R_tight rfl ho0)) (fun k_ hk_=>⟨hk_.2.1,hk_.2.2.1,hk_.1⟩)) (qZ HB2.out));have F3:=qK (show Kd.S (Kd.slice 3 (Kd.int .i64)) 22 w3 w.heap.size (fun k_=>w2.heap.size≤k_∧k_ < w3.heap.size∧some k_ ≠ (.slice Af2 (cvStats l0_0 l0_1).1.length cf2:Value).ownBlock) (.slice Af3 (cvStats l0_0 l0_1).2.length cf3) (cvStats l0_0 l0_1).2 from Kd.S_lower (Kd.S_mono (Kd.S_bound ho1) (fun k_ hk_=>⟨hk_.2.1,hk_.2.2.1,(by have h_:=hk_.1;first|exact h_|exact h_.1|exact h_.2|exact h_.2.1|exact h_.2.2|simp_all)⟩)) (qZ HB2.out));have BK1_:=qK (qB BK1.out HST.out);clear BK1;have BK1:=BK1_;clear BK1_;have hc1_0_3:w3.cell? ⟨gb1,0,none⟩=some (.slice A0_0 l0_0.length c0_0):=(qC BK1.out 0).trans rfl;have hc1_1_3:w3.cell? ⟨gb1,1,none⟩=some (.slice A0_1 l0_1.length c0_1):=(qC BK1.out 1).trans rfl;clear hb HST ho0 ho1;clear HB2;refine ⟨_,rfl,?_⟩)|((with_reducible refine gate_callee (f:=16) rfl ?_);refine goesL_ (some 25) rfl rfl Try.func16 (by kernel_rfl) rfl #[.agg #[.slice Af2 (cvStats l0_0 l0_1).1.length cf2,.slice Af3 (cvStats l0_0 l0_1).2.length cf3]] rfl (by (try simp only [mT,mC,mN]);first|done|rfl|(simp only [lD,lT];rfl)) ?_;(with_reducible refine (spec_BestOrder.calls (hr0_0:=(Kd.R_reads' F2.out).2.2) (hc0_0:=(Kd.R_reads' F2.out).2.1) (hr0_1:=(Kd.S_reads' F3.out).2.2) (hc0_1:=(Kd.S_reads' F3.out).2.1) (h:=N4.out)).mono ?_);rintro e w4 ⟨v0_,rfl,ho0,hb⟩;have HST:=qK (hb);have HB4:=qK (qT HB3.out HST.out);have HS4:=qK (show w3.heap.size≤w4.heap.size from HST.out.size);obtain ⟨Af4,cf4,ef4⟩:=Kd.R_slice ho0;subst ef4;have F4:=qK (show Kd.R (Kd.int .i64) 3 w4 w.heap.size (fun k_=>w3.heap.size≤k_∧k_ < w4.heap.size) (.slice Af4 o0_.length cf4) o0_ from Kd.R_lower (Kd.R_mono (Kd.R_bound ho0) (fun k_ hk_=>⟨hk_.2.1,hk_.2.2.1⟩)) (qZ HB3.out));clear F2;clear F3;have BK1_:=qK (qB BK1.out HST.out);clear BK1;have BK1:=BK1_;clear BK1_;have hc1_0_4:w4.cell? ⟨gb1,0,none⟩=some (.slice A0_0 l0_0.length c0_0):=(qC BK1.out 0).trans rfl;have hc1_1_4:w4.cell? ⟨gb1,1,none⟩=some (.slice A0_1 l0_1.length c0_1):=(qC BK1.out 1).trans rfl;clear hb HST ho0;clear HB3;refine ⟨_,rfl,?_⟩))
 go_upto_region 7 with (first|((with_reducible refine gate_callee (f:=8) rfl ?_);refine goesL_ (some 30) rfl rfl Try.func8 (by kernel_rfl) rfl #[.agg #[.slice A0_0 l0_0.length c0_0,.slice A0_1 l0_1.length c0_1]] rfl (by (try simp only [mT,mC,mN]);first|done|rfl|(simp only [lD,lT];rfl)) ?_;(with_reducible refine (laws_toStats.calls (hr0_0:=cB HR0_0.out HB4.out) (hc0_0:=HC0_0.out) (hr0_1:=cB HR0_1.out HB4.out) (hc0_1:=HC0_1.out) (h:=N5.out)).mono ?_);rintro e w5 ⟨v0_,v1_,rfl,ho0,ho1,hb⟩;have HST:=qK (hb);have HB5:=qK (qT HB4.out HST.out);have HS5:=qK (show w4.heap.size≤w5.heap.size from HST.out.size);obtain ⟨Af5,cf5,ef5⟩:=Kd.R_slice ho0;subst ef5;obtain ⟨Af6,cf6,ef6⟩:=Kd.S_slice ho1;subst ef6;have F5:=qK (show Kd.R (Kd.int .i64) 3 w5 w.heap.size (fun k_=>w4.heap.size≤k_∧k_ < w5.heap.size∧some k_=(.slice Af5 (cvStats l0_0 l0_1).1.length cf5:Value).ownBlock) (.slice Af5 (cvStats l0_0 l0_1).1.length cf5) (cvStats l0_0 l0_1).1 from Kd.R_lower (Kd.R_mono (Kd.R_bound (Kd.R_tight rfl ho0)) (fun k_ hk_=>⟨hk_.2.1,hk_.2.2.1,hk_.1⟩)) (qZ HB4.out));have F6:=qK (show Kd.S (Kd.slice 3 (Kd.int .i64)) 22 w5 w.heap.size (fun k_=>w4.heap.size≤k_∧k_ < w5.heap.size∧some k_ ≠ (.slice Af5 (cvStats l0_0 l0_1).1.length cf5:Value).ownBlock) (.slice Af6 (cvStats l0_0 l0_1).2.length cf6) (cvStats l0_0 l0_1).2 from Kd.S_lower (Kd.S_mono (Kd.S_bound ho1) (fun k_ hk_=>⟨hk_.2.1,hk_.2.2.1,(by have h_:=hk_.1;first|exact h_|exact h_.1|exact h_.2|exact h_.2.1|exact h_.2.2|simp_all)⟩)) (qZ HB4.out));have F4_:=qK (rB F4.out HST.out);clear F4;have F4:=F4_;clear F4_;have BK1_:=qK (qB BK1.out HST.out);clear BK1;have BK1:=BK1_;clear BK1_;have hc1_0_5:w5.cell? ⟨gb1,0,none⟩=some (.slice A0_0 l0_0.length c0_0):=(qC BK1.out 0).trans rfl;have hc1_1_5:w5.cell? ⟨gb1,1,none⟩=some (.slice A0_1 l0_1.length c0_1):=(qC BK1.out 1).trans rfl;clear hb HST ho0 ho1;clear HB4;refine ⟨_,rfl,?_⟩)|((with_reducible refine gate_dst (N:=7) rfl ?_);refine box_event ?hg (N:=7) ?hd (cs:=#[.slice none 0 0,.slice none 0 0]) (t:=29) ?hr ?_;(case hd=>rfl);(case hg=>rfl);(case hr=>(go_simp;try rfl));intro gb7 hg w6 hbox hb;have HG7:=qK hg;have HST:=qK hb;have HB6:=qK (qT HB5.out HST.out);have HS6:=qK (show w5.heap.size≤w6.heap.size from HST.out.size);have HS6b:=qK (show gb7 < w6.heap.size from blk_lt hbox);have F4_:=qK (rB F4.out HST.out);clear F4;have F4:=F4_;clear F4_;have F5_:=qK (rB F5.out HST.out);clear F5;have F5:=F5_;clear F5_;have F6_:=qK (Kd.S_below F6.out HST.out);clear F6;have F6:=F6_;clear F6_;have BK1_:=qK (qB BK1.out HST.out);clear BK1;have BK1:=BK1_;clear BK1_;have hc1_0_6:w6.cell? ⟨gb1,0,none⟩=some (.slice A0_0 l0_0.length c0_0):=(qC BK1.out 0).trans rfl;have hc1_1_6:w6.cell? ⟨gb1,1,none⟩=some (.slice A0_1 l0_1.length c0_1):=(qC BK1.out 1).trans rfl;have BK7:=qK hbox;have hc7_0_6:w6.cell? ⟨gb7,0,none⟩=some (.slice none 0 0):=(qC BK7.out 0).trans rfl;have hc7_1_6:w6.cell? ⟨gb7,1,none⟩=some (.slice none 0 0):=(qC BK7.out 1).trans rfl;have hf7_0_6:=qF BK7.out 0;have hf7_1_6:=qF BK7.out 1;clear hg hbox hb HST HB5))
 obtain ⟨w7,hwS⟩:∃ z_,z_=((w6.setCell ⟨gb7,0,none⟩ (.slice Af5 (cvStats l0_0 l0_1).1.length cf5)).setCell ⟨gb7,1,none⟩ (.slice Af6 (cvStats l0_0 l0_1).2.length cf6)):=⟨_,rfl⟩;rw [← hwS];have HGE7:=qK (show w.heap.size≤gb7 from by rw [HG7.out];have z1_:=HS1.out;have z2_:=HS2.out;have z3_:=HS3.out;have z4_:=HS4.out;have z5_:=HS5.out;omega);have HKK:=qK (show Kept w6 w7 (fun k_=>k_=gb7) from by rw [hwS];exact ((((Kept.refl w6 (fun k_=>k_=gb7)).setCell (p:=⟨gb7,0,none⟩) (.inl rfl) _)).setCell (p:=⟨gb7,1,none⟩) (.inl rfl) _));have HB7:=qK (show Below w.heap.size w w7 from by rw [hwS];exact (qS (qS HB6.out HGE7.out) HGE7.out));have HS7:=qK (show w6.heap.size≤w7.heap.size from HKK.out.1);have BK7_:=qK (show w7.heap[gb7]?=some (.cells #[.slice Af5 (cvStats l0_0 l0_1).1.length cf5,.slice Af6 (cvStats l0_0 l0_1).2.length cf6] 29 (0,0)) from by rw [hwS];exact (qP (cs:=#[.slice Af5 (cvStats l0_0 l0_1).1.length cf5,.slice none 0 0]) (qP (cs:=#[.slice none 0 0,.slice none 0 0]) BK7.out 0 _ rfl) 1 _ rfl));clear BK7;have BK7:=BK7_;clear BK7_;have F4_:=qK (Kd.R_kept F4.out HKK.out (fun k_ h1_ h2_=>by have h5_:=h1_.1;have h6_:=h1_.2;have z0_:=HG7.out;have zb_:=HS6b.out;subst h2_;have z1_:=HS1.out;have z2_:=HS2.out;have z3_:=HS3.out;have z4_:=HS4.out;have z5_:=HS5.out;have z6_:=HS6.out;omega));clear F4;have F4:=F4_;clear F4_;have F5_:=qK (Kd.R_kept F5.out HKK.out (fun k_ h1_ h2_=>by have h5_:=h1_.1;have h6_:=h1_.2.1;have z0_:=HG7.out;have zb_:=HS6b.out;subst h2_;have z1_:=HS1.out;have z2_:=HS2.out;have z3_:=HS3.out;have z4_:=HS4.out;have z5_:=HS5.out;have z6_:=HS6.out;omega));clear F5;have F5:=F5_;clear F5_;have F6_:=qK (Kd.S_kept F6.out HKK.out (fun k_ h1_ h2_=>by have h5_:=h1_.1;have h6_:=h1_.2.1;have z0_:=HG7.out;have zb_:=HS6b.out;subst h2_;have z1_:=HS1.out;have z2_:=HS2.out;have z3_:=HS3.out;have z4_:=HS4.out;have z5_:=HS5.out;have z6_:=HS6.out;omega));clear F6;have F6:=F6_;clear F6_;have BK1_:=qK (blk_kept BK1.out HKK.out (fun e_=>by have z0_:=HG7.out;have z1_:=HG1.out;have y1_:=HS1.out;have y2_:=HS2.out;have y3_:=HS3.out;have y4_:=HS4.out;have y5_:=HS5.out;have y6_:=HS6.out;have x1_:=HS1b.out;have x6_:=HS6b.out;omega));clear BK1;have BK1:=BK1_;clear BK1_;have hc1_0_7:w7.cell? ⟨gb1,0,none⟩=some (.slice A0_0 l0_0.length c0_0):=(qC BK1.out 0).trans rfl;have hc1_1_7:w7.cell? ⟨gb1,1,none⟩=some (.slice A0_1 l0_1.length c0_1):=(qC BK1.out 1).trans rfl;have hc7_0_7:w7.cell? ⟨gb7,0,none⟩=some (.slice Af5 (cvStats l0_0 l0_1).1.length cf5):=(qC BK7.out 0).trans rfl;have hc7_1_7:w7.cell? ⟨gb7,1,none⟩=some (.slice Af6 (cvStats l0_0 l0_1).2.length cf6):=(qC BK7.out 1).trans rfl;clear hwS HKK HB6;go_upto_region 8 with (first|((with_reducible refine gate_callee (f:=17) rfl ?_);refine goesL_ (some 33) rfl rfl Try.func17 (by kernel_rfl) rfl #[.agg #[.slice Af5 (cvStats l0_0 l0_1).1.length cf5,.slice Af6 (cvStats l0_0 l0_1).2.length cf6]] rfl (by (try simp only [mT,mC,mN]);first|done|rfl|(simp only [lD,lT];rfl)) ?_;(with_reducible refine (impl_BestOrder.calls (hr0_0:=(Kd.R_reads' F5.out).2.2) (hc0_0:=(Kd.R_reads' F5.out).2.1) (hr0_1:=(Kd.S_reads' F6.out).2.2) (hc0_1:=(Kd.S_reads' F6.out).2.1) (h:=N8.out)).mono ?_);rintro e w8 ⟨v0_,rfl,ho0,hb⟩;have HST:=qK (hb);have HB8:=qK (qT HB7.out HST.out);have HS8:=qK (show w7.heap.size≤w8.heap.size from HST.out.size);obtain ⟨Af8,cf8,ef8⟩:=Kd.R_slice ho0;subst ef8;have F8:=qK (show Kd.R (Kd.int .i64) 3 w8 w.heap.size (fun k_=>w7.heap.size≤k_∧k_ < w8.heap.size) (.slice Af8 o0_.length cf8) o0_ from Kd.R_lower (Kd.R_mono (Kd.R_bound ho0) (fun k_ hk_=>⟨hk_.2.1,hk_.2.2.1⟩)) (qZ HB7.out));have F4_:=qK (rB F4.out HST.out);clear F4;have F4:=F4_;clear F4_;have F5_:=qK (rB F5.out HST.out);clear F5;have F5:=F5_;clear F5_;have F6_:=qK (Kd.S_below F6.out HST.out);clear F6;have F6:=F6_;clear F6_;have BK1_:=qK (qB BK1.out HST.out);clear BK1;have BK1:=BK1_;clear BK1_;have hc1_0_8:w8.cell? ⟨gb1,0,none⟩=some (.slice A0_0 l0_0.length c0_0):=(qC BK1.out 0).trans rfl;have hc1_1_8:w8.cell? ⟨gb1,1,none⟩=some (.slice A0_1 l0_1.length c0_1):=(qC BK1.out 1).trans rfl;have BK7_:=qK (qB BK7.out HST.out);clear BK7;have BK7:=BK7_;clear BK7_;have hc7_0_8:w8.cell? ⟨gb7,0,none⟩=some (.slice Af5 (cvStats l0_0 l0_1).1.length cf5):=(qC BK7.out 0).trans rfl;have hc7_1_8:w8.cell? ⟨gb7,1,none⟩=some (.slice Af6 (cvStats l0_0 l0_1).2.length cf6):=(qC BK7.out 1).trans rfl;clear hb HST ho0;clear HB7;refine ⟨_,rfl,?_⟩))
 go_upto_region 10 with (first|((with_reducible refine gate_callee (f:=11) rfl ?_);refine goesL_ (some 39) rfl rfl Try.func11 (by kernel_rfl) rfl #[.slice Af8 o0_.length cf8,.slice Af4 o0_.length cf4] rfl (by (try simp only [mT,mC,mN]);first|done|rfl|(simp only [lD,lT];rfl)) ?_;(with_reducible refine (laws_eqIntS.calls (hr0:=(Kd.R_reads' F8.out).2.2) (hc0:=(Kd.R_reads' F8.out).2.1) (hr1:=(Kd.R_reads' F4.out).2.2) (hc1:=(Kd.R_reads' F4.out).2.1) (h:=N9.out)).mono ?_);rintro e w9 ⟨rfl,hdr⟩;have HST:=qK (hdr.below);have HB9:=qK (qT HB8.out HST.out);have HS9:=qK (show w8.heap.size≤w9.heap.size from HST.out.size);have F4_:=qK (rB F4.out HST.out);clear F4;have F4:=F4_;clear F4_;have F5_:=qK (rB F5.out HST.out);clear F5;have F5:=F5_;clear F5_;have F6_:=qK (Kd.S_below F6.out HST.out);clear F6;have F6:=F6_;clear F6_;have F8_:=qK (rB F8.out HST.out);clear F8;have F8:=F8_;clear F8_;have BK1_:=qK (qB BK1.out HST.out);clear BK1;have BK1:=BK1_;clear BK1_;have hc1_0_9:w9.cell? ⟨gb1,0,none⟩=some (.slice A0_0 l0_0.length c0_0):=(qC BK1.out 0).trans rfl;have hc1_1_9:w9.cell? ⟨gb1,1,none⟩=some (.slice A0_1 l0_1.length c0_1):=(qC BK1.out 1).trans rfl;have BK7_:=qK (qB BK7.out HST.out);clear BK7;have BK7:=BK7_;clear BK7_;have hc7_0_9:w9.cell? ⟨gb7,0,none⟩=some (.slice Af5 (cvStats l0_0 l0_1).1.length cf5):=(qC BK7.out 0).trans rfl;have hc7_1_9:w9.cell? ⟨gb7,1,none⟩=some (.slice Af6 (cvStats l0_0 l0_1).2.length cf6):=(qC BK7.out 1).trans rfl;clear hdr HST;clear HB8;refine ⟨_,rfl,?_⟩))
 go_upto_region 10 with (fail)
 go_wp2_with (fail)
 have F4_:=qK (rW F4.out);clear F4;have F4:=F4_;clear F4_;have F5_:=qK (rW F5.out);clear F5;have F5:=F5_;clear F5_;have F6_:=qK (Kd.S_drew F6.out);clear F6;have F6:=F6_;clear F6_;have F8_:=qK (rW F8.out);clear F8;have F8:=F8_;clear F8_;have BK1_:=qK (qW BK1.out);clear BK1;have BK1:=BK1_;clear BK1_;have BK7_:=qK (qW BK7.out);clear BK7;have BK7:=BK7_;clear BK7_;have HB9_:=qK (qO HB9.out);clear HB9;have HB9:=HB9_;clear HB9_;have HSD10:=qK (show w9.heap.size=w9.drew.heap.size from rfl);refine start_ (n:=5) (S:=fun w'=>w'.cell? ⟨gb7,0,none⟩=some (.slice Af5 (cvStats l0_0 l0_1).1.length cf5)∧w'.cell? ⟨gb7,1,none⟩=some (.slice Af6 (cvStats l0_0 l0_1).2.length cf6)∧w'.cell? ⟨gb1,0,none⟩=some (.slice A0_0 l0_0.length c0_0)∧w'.cell? ⟨gb1,1,none⟩=some (.slice A0_1 l0_1.length c0_1)) (ds:=[]) #[Z,Z,Z,Z,Z] (by kernel_rfl) rfl rfl ⟨(qC BK7.out 0).trans rfl,(qC BK7.out 1).trans rfl,(qC BK1.out 0).trans rfl,(qC BK1.out 1).trans rfl⟩ (fun hHeld=>?_);generalize w9.drew=wd10 at F4 F5 F6 F8 BK1 BK7  HB9 HSD10 hHeld ⊢
 have HSE10:=qK (show w9.heap.size≤wd10.heap.size from Nat.le_of_eq HSD10.out);refine take_ (i:=0) (N:=some 51) (v:=?_) (a':=?_) #[Y,Z,Z,Z,Z] rfl rfl (by kernel_rfl) (fun _ _ _ h=>h) (Or.inl ⟨by rfl,?_⟩) hHeld ?_ ?_;rotate_left
 ·rintro w' ⟨s0,s1,s2,s3⟩;go_simp;with_reducible rfl
 rotate_left
 ·simp only [Act.put,sIb,sZ,sS,i64_w,i32_w];rfl
 refine take_ (i:=1) (N:=some 52) (v:=?_) (a':=?_) #[Y,Y,Z,Z,Z] rfl rfl (by kernel_rfl) (fun _ _ _ h=>h) (Or.inl ⟨by rfl,?_⟩) hHeld ?_ ?_;rotate_left
 ·rintro w' ⟨s0,s1,s2,s3⟩;go_simp;with_reducible rfl
 rotate_left
 ·simp only [Act.put,sIb,sZ,sS,i64_w,i32_w];rfl
 refine one_ (i:=2) (N:=some 53) #[Y,Y,Y,Z,Z] rfl rfl (by kernel_rfl) (by decide) (fun K hK=>?_);refine goes_ Try.func8 (by kernel_rfl) rfl #[.agg #[.slice A0_0 l0_0.length c0_0,.slice A0_1 l0_1.length c0_1]] (by rfl) rfl rfl (by (try simp only [mT,mC,mN]);first|done|rfl|(simp only [lD,lT];rfl)) ?_;(with_reducible refine (laws_toStats.calls (hr0_0:=cB HR0_0.out HB9.out) (hc0_0:=HC0_0.out) (hr0_1:=cB HR0_1.out HB9.out) (hc0_1:=HC0_1.out) (h:=N10.out)).mono ?_);rintro e w10 ⟨v0_,v1_,rfl,ho0,ho1,hb⟩;refine ⟨_,rfl,?_⟩;have HST:=qK (hb);have HB10:=qK (qT HB9.out HST.out);have HS10:=qK (show wd10.heap.size≤w10.heap.size from HST.out.size);obtain ⟨Af9,cf9,ef9⟩:=Kd.R_slice ho0;subst ef9;obtain ⟨Af10,cf10,ef10⟩:=Kd.S_slice ho1;subst ef10;have F9:=qK (show Kd.R (Kd.int .i64) 3 w10 w.heap.size (fun k_=>wd10.heap.size≤k_∧k_ < w10.heap.size∧some k_=(.slice Af9 (cvStats l0_0 l0_1).1.length cf9:Value).ownBlock) (.slice Af9 (cvStats l0_0 l0_1).1.length cf9) (cvStats l0_0 l0_1).1 from Kd.R_lower (Kd.R_mono (Kd.R_bound (Kd.R_tight rfl ho0)) (fun k_ hk_=>⟨hk_.2.1,hk_.2.2.1,hk_.1⟩)) (qZ HB9.out));have F10:=qK (show Kd.S (Kd.slice 3 (Kd.int .i64)) 22 w10 w.heap.size (fun k_=>wd10.heap.size≤k_∧k_ < w10.heap.size∧some k_ ≠ (.slice Af9 (cvStats l0_0 l0_1).1.length cf9:Value).ownBlock) (.slice Af10 (cvStats l0_0 l0_1).2.length cf10) (cvStats l0_0 l0_1).2 from Kd.S_lower (Kd.S_mono (Kd.S_bound ho1) (fun k_ hk_=>⟨hk_.2.1,hk_.2.2.1,(by have h_:=hk_.1;first|exact h_|exact h_.1|exact h_.2|exact h_.2.1|exact h_.2.2|simp_all)⟩)) (qZ HB9.out));have F4_:=qK (rB F4.out HST.out);clear F4;have F4:=F4_;clear F4_;have F5_:=qK (rB F5.out HST.out);clear F5;have F5:=F5_;clear F5_;have F6_:=qK (Kd.S_below F6.out HST.out);clear F6;have F6:=F6_;clear F6_;have F8_:=qK (rB F8.out HST.out);clear F8;have F8:=F8_;clear F8_;have BK1_:=qK (qB BK1.out HST.out);clear BK1;have BK1:=BK1_;clear BK1_;have hc1_0_10:w10.cell? ⟨gb1,0,none⟩=some (.slice A0_0 l0_0.length c0_0):=(qC BK1.out 0).trans rfl;have hc1_1_10:w10.cell? ⟨gb1,1,none⟩=some (.slice A0_1 l0_1.length c0_1):=(qC BK1.out 1).trans rfl;have BK7_:=qK (qB BK7.out HST.out);clear BK7;have BK7:=BK7_;clear BK7_;have hc7_0_10:w10.cell? ⟨gb7,0,none⟩=some (.slice Af5 (cvStats l0_0 l0_1).1.length cf5):=(qC BK7.out 0).trans rfl;have hc7_1_10:w10.cell? ⟨gb7,1,none⟩=some (.slice Af6 (cvStats l0_0 l0_1).2.length cf6):=(qC BK7.out 1).trans rfl;clear hb HST ho0 ho1;clear HB9;refine hK.out _ _ ⟨(qC BK7.out 0).trans rfl,(qC BK7.out 1).trans rfl,(qC BK1.out 0).trans rfl,(qC BK1.out 1).trans rfl⟩ (fun hHeld=>?_);clear hK K;refine norm_ (a':=?_) ?_ ?_;rotate_left
 ·show Act.put _ (some 53) _=_
  simp only [Act.put,sIb,sZ,sS,i64_w,i32_w];rfl
 refine one_ (i:=3) (N:=some 54) #[Y,Y,Y,Y,Z] rfl rfl (by kernel_rfl) (by decide) (fun K hK=>?_);refine goes_ Try.func12 (by kernel_rfl) rfl #[.agg #[.slice Af5 (cvStats l0_0 l0_1).1.length cf5,.slice Af6 (cvStats l0_0 l0_1).2.length cf6],.agg #[.slice Af9 (cvStats l0_0 l0_1).1.length cf9,.slice Af10 (cvStats l0_0 l0_1).2.length cf10]] (by rfl) rfl rfl (by (try simp only [mT,mC,mN]);first|done|rfl|(simp only [lD,lT];rfl)) ?_;(with_reducible refine (laws_eqStats.calls (hr0_0:=(Kd.R_reads' F5.out).2.2) (hc0_0:=(Kd.R_reads' F5.out).2.1) (hr0_1:=(Kd.S_reads' F6.out).2.2) (hc0_1:=(Kd.S_reads' F6.out).2.1) (hr1_0:=(Kd.R_reads' F9.out).2.2) (hc1_0:=(Kd.R_reads' F9.out).2.1) (hr1_1:=(Kd.S_reads' F10.out).2.2) (hc1_1:=(Kd.S_reads' F10.out).2.1) (h:=N11.out)).mono ?_);rintro e w11 ⟨rfl,hb⟩;refine ⟨_,rfl,?_⟩;have HST:=qK (hb);have HB11:=qK (qT HB10.out HST.out);have HS11:=qK (show w10.heap.size≤w11.heap.size from HST.out.size);have F4_:=qK (rB F4.out HST.out);clear F4;have F4:=F4_;clear F4_;have F5_:=qK (rB F5.out HST.out);clear F5;have F5:=F5_;clear F5_;have F6_:=qK (Kd.S_below F6.out HST.out);clear F6;have F6:=F6_;clear F6_;have F8_:=qK (rB F8.out HST.out);clear F8;have F8:=F8_;clear F8_;clear F9;clear F10;have BK1_:=qK (qB BK1.out HST.out);clear BK1;have BK1:=BK1_;clear BK1_;have hc1_0_11:w11.cell? ⟨gb1,0,none⟩=some (.slice A0_0 l0_0.length c0_0):=(qC BK1.out 0).trans rfl;have hc1_1_11:w11.cell? ⟨gb1,1,none⟩=some (.slice A0_1 l0_1.length c0_1):=(qC BK1.out 1).trans rfl;have BK7_:=qK (qB BK7.out HST.out);clear BK7;have BK7:=BK7_;clear BK7_;have hc7_0_11:w11.cell? ⟨gb7,0,none⟩=some (.slice Af5 (cvStats l0_0 l0_1).1.length cf5):=(qC BK7.out 0).trans rfl;have hc7_1_11:w11.cell? ⟨gb7,1,none⟩=some (.slice Af6 (cvStats l0_0 l0_1).2.length cf6):=(qC BK7.out 1).trans rfl;clear hb HST;clear HB10;refine hK.out _ _ ⟨(qC BK7.out 0).trans rfl,(qC BK7.out 1).trans rfl,(qC BK1.out 0).trans rfl,(qC BK1.out 1).trans rfl⟩ (fun hHeld=>?_);clear hK K;refine norm_ (a':=?_) ?_ ?_;rotate_left
 ·show Act.put _ (some 54) _=_
  simp only [Act.put,sIb,sZ,sS,i64_w,i32_w];rfl
 refine pure_ (i:=4) (N:=some 55) (v:=?_) (a':=?_) #[Y,Y,Y,Y,Y] rfl rfl (by kernel_rfl) (fun _ _ _ h=>h) (Or.inl ⟨by rfl,?_⟩) ?_ ?_;rotate_left
 ·intro w';go_simp;with_reducible rfl
 rotate_left
 ·simp only [Act.put,sIb,sZ,sS,i64_w,i32_w];rfl
 refine done_ (by kernel_rfl) ?_;go_upto_region 14 with (first|((with_reducible refine gate_callee (f:=13) rfl ?_);refine goesL_ (some 58) rfl rfl Try.func13 (by kernel_rfl) rfl #[.agg #[.slice Af5 (cvStats l0_0 l0_1).1.length cf5,.slice Af6 (cvStats l0_0 l0_1).2.length cf6],.int .i64 1] rfl (by (try simp only [mT,mC,mN]);first|done|rfl|(simp only [lD,lT];rfl)) ?_;have C_:=(laws_markStats.calls (w0:=w) (hB:=HB11.out) (ho0_0:=F5.out) (ho0_1:=F6.out) (hd:=(fun k_ h1_ h2_=>(h2_.2.2) h1_.2.2)) (h:=N12.out));refine C_.mono ?_;clear C_;rintro e w12 ⟨rfl,hy0,hy1,hb,hk⟩;have HB12:=qK hb;have HKK:=qK hk;have HS12:=qK (show w11.heap.size≤w12.heap.size from hk.1);have HEy12_0:=qK (show (cvStats l0_0 l0_1).1.length=y12_0.length from (Kd.R_reads' hy0).1);have F5_:=qK (show Kd.R (Kd.int .i64) 3 w12 w.heap.size (fun k_=>w4.heap.size≤k_∧k_ < w5.heap.size∧some k_=(.slice Af5 (cvStats l0_0 l0_1).1.length cf5:Value).ownBlock) (.slice Af5 y12_0.length cf5) y12_0 from by have hz_:=R_again rfl F5.out hy0;have he_:(cvStats l0_0 l0_1).1.length=y12_0.length:=(by have:=(Kd.R_reads' hz_).1;omega);rw [← he_];exact hz_);have HEy12_1:=qK (show (cvStats l0_0 l0_1).2.length=y12_1.length from (Kd.S_reads' hy1).1);have F6_:=qK (show Kd.S (Kd.slice 3 (Kd.int .i64)) 22 w12 w.heap.size (fun k_=>w4.heap.size≤k_∧k_ < w5.heap.size∧some k_ ≠ (.slice Af5 (cvStats l0_0 l0_1).1.length cf5:Value).ownBlock) (.slice Af6 y12_1.length cf6) y12_1 from by have hz_:=hy1;have he_:(cvStats l0_0 l0_1).2.length=y12_1.length:=(by have:=(Kd.S_reads' hz_).1;omega);rw [← he_];exact hz_);have F4_:=qK (Kd.R_kept F4.out HKK.out (fun k_ h1_=>by intro h2_;exact (Or.elim h2_ (fun e_=>(fun k_ h1_ h2_=>by have h3_:=h1_.1;have h4_:=h1_.2;have h5_:=h2_.1;have h6_:=h2_.2.1;have zd10_:=HSE10.out;omega) k_ h1_ e_) (fun r_=>(fun k_ h1_ h2_=>by have h3_:=h1_.1;have h4_:=h1_.2;have h5_:=h2_.1;have h6_:=h2_.2.1;have zd10_:=HSE10.out;omega) k_ h1_ r_))));clear F4;have F4:=F4_;clear F4_;clear F5 F5_;clear F6 F6_;have F8_:=qK (Kd.R_kept F8.out HKK.out (fun k_ h1_=>by intro h2_;exact (Or.elim h2_ (fun e_=>(fun k_ h1_ h2_=>by have h3_:=h1_.1;have h4_:=h1_.2;have h5_:=h2_.1;have h6_:=h2_.2.1;have z6_:=HS6.out;have z7_:=HS7.out;have zd10_:=HSE10.out;omega) k_ h1_ e_) (fun r_=>(fun k_ h1_ h2_=>by have h3_:=h1_.1;have h4_:=h1_.2;have h5_:=h2_.1;have h6_:=h2_.2.1;have z6_:=HS6.out;have z7_:=HS7.out;have zd10_:=HSE10.out;omega) k_ h1_ r_))));clear F8;have F8:=F8_;clear F8_;have BK1_:=qK (blk_kept BK1.out HKK.out (fun hs_=>(Or.elim hs_ (fun e_=>(fun h2_=>by have h5_:=h2_.1;have h6_:=h2_.2.1;have z0_:=HG1.out;have zb_:=HS1b.out;have z1_:=HS1.out;have z2_:=HS2.out;have z3_:=HS3.out;have z4_:=HS4.out;have z5_:=HS5.out;have z6_:=HS6.out;have z7_:=HS7.out;have z8_:=HS8.out;have z9_:=HS9.out;have z10_:=HS10.out;have z11_:=HS11.out;have zd10_:=HSE10.out;omega) e_) (fun r_=>(fun h2_=>by have h5_:=h2_.1;have h6_:=h2_.2.1;have z0_:=HG1.out;have zb_:=HS1b.out;have z1_:=HS1.out;have z2_:=HS2.out;have z3_:=HS3.out;have z4_:=HS4.out;have z5_:=HS5.out;have z6_:=HS6.out;have z7_:=HS7.out;have z8_:=HS8.out;have z9_:=HS9.out;have z10_:=HS10.out;have z11_:=HS11.out;have zd10_:=HSE10.out;omega) r_))));clear BK1;have BK1:=BK1_;clear BK1_;have hc1_0_12:w12.cell? ⟨gb1,0,none⟩=some (.slice A0_0 l0_0.length c0_0):=(qC BK1.out 0).trans rfl;have hc1_1_12:w12.cell? ⟨gb1,1,none⟩=some (.slice A0_1 l0_1.length c0_1):=(qC BK1.out 1).trans rfl;clear BK7;clear hb hk HKK hy0 hy1;clear HB11;refine ⟨_,rfl,?_⟩))
 go_upto_region 16 with (first|(go_at_call 11;(with_reducible refine (laws_eqIntS.calls (hr0:=(Kd.R_reads' F8.out).2.2) (hc0:=(Kd.R_reads' F8.out).2.1) (hr1:=(Kd.R_reads' F4.out).2.2) (hc1:=(Kd.R_reads' F4.out).2.1) (h:=N13.out)).mono ?_);rintro e w13 ⟨rfl,hdr⟩;have HST:=qK (hdr.below);have HB13:=qK (qT HB12.out HST.out);have HS13:=qK (show w12.heap.size≤w13.heap.size from HST.out.size);have F4_:=qK (rB F4.out HST.out);clear F4;have F4:=F4_;clear F4_;have F8_:=qK (rB F8.out HST.out);clear F8;have F8:=F8_;clear F8_;have BK1_:=qK (qB BK1.out HST.out);clear BK1;have BK1:=BK1_;clear BK1_;have hc1_0_13:w13.cell? ⟨gb1,0,none⟩=some (.slice A0_0 l0_0.length c0_0):=(qC BK1.out 0).trans rfl;have hc1_1_13:w13.cell? ⟨gb1,1,none⟩=some (.slice A0_1 l0_1.length c0_1):=(qC BK1.out 1).trans rfl;clear hdr HST;clear HB12))
 go_upto_region 18 with (first|((with_reducible refine gate_callee (f:=14) rfl ?_);refine goesL_ (some 79) rfl rfl Try.func14 (by kernel_rfl) rfl #[.slice Af8 o0_.length cf8,.int .i64 1] rfl (by (try simp only [mT,mC,mN]);first|done|rfl|(simp only [lD,lT];rfl)) ?_;have C_:=(laws_markIntS.calls (w0:=w) (hB:=HB13.out) (ho0:=F8.out) (h:=N14.out));refine C_.mono ?_;clear C_;rintro e w14 ⟨rfl,hy0,hb,hk⟩;have HB14:=qK hb;have HKK:=qK hk;have HS14:=qK (show w13.heap.size≤w14.heap.size from hk.1);have HEy14_0:=qK (show o0_.length=y14_0.length from (Kd.R_reads' hy0).1);have F8_:=qK (show Kd.R (Kd.int .i64) 3 w14 w.heap.size (fun k_=>w7.heap.size≤k_∧k_ < w8.heap.size) (.slice Af8 y14_0.length cf8) y14_0 from by have hz_:=R_again rfl F8.out hy0;have he_:o0_.length=y14_0.length:=(by have:=(Kd.R_reads' hz_).1;omega);rw [← he_];exact hz_);have F4_:=qK (Kd.R_kept F4.out HKK.out (fun k_ h1_=>by intro h2_;exact (fun k_ h1_ h2_=>by have h3_:=h1_.1;have h4_:=h1_.2;have h5_:=h2_.1;have h6_:=h2_.2;have z5_:=HS5.out;have z6_:=HS6.out;have z7_:=HS7.out;have zd10_:=HSE10.out;omega) k_ h1_ h2_));clear F4;have F4:=F4_;clear F4_;clear F8;have F8:=F8_;clear F8_;have BK1_:=qK (blk_kept BK1.out HKK.out (fun hs_=>(fun h2_=>by have h5_:=h2_.1;have h6_:=h2_.2;have z0_:=HG1.out;have zb_:=HS1b.out;have z1_:=HS1.out;have z2_:=HS2.out;have z3_:=HS3.out;have z4_:=HS4.out;have z5_:=HS5.out;have z6_:=HS6.out;have z7_:=HS7.out;have z8_:=HS8.out;have z9_:=HS9.out;have z10_:=HS10.out;have z11_:=HS11.out;have z12_:=HS12.out;have z13_:=HS13.out;have zd10_:=HSE10.out;omega) hs_));clear BK1;have BK1:=BK1_;clear BK1_;have hc1_0_14:w14.cell? ⟨gb1,0,none⟩=some (.slice A0_0 l0_0.length c0_0):=(qC BK1.out 0).trans rfl;have hc1_1_14:w14.cell? ⟨gb1,1,none⟩=some (.slice A0_1 l0_1.length c0_1):=(qC BK1.out 1).trans rfl;clear hb hk HKK hy0;clear HB13;refine ⟨_,rfl,?_⟩))
 go_upto_region 20 with (first|((with_reducible refine gate_callee (f:=15) rfl ?_);refine goesL_ (some 82) rfl rfl Try.func15 (by kernel_rfl) rfl #[.slice Af8 o0_.length cf8,.int .i64 1] rfl (by (try simp only [mT,mC,mN]);first|done|rfl|(simp only [lD,lT];rfl)) ?_;refine calls_of_args (args':=#[.slice Af8 y14_0.length cf8,.int .i64 1]) (by rw [HEy14_0.out]) ?_;(with_reducible refine (laws_heldIntS.calls (hr0:=(Kd.R_reads' F8.out).2.2) (hc0:=(Kd.R_reads' F8.out).2.1) (h:=N15.out)).mono ?_);rintro e w15 ⟨rfl,hdr⟩;have HST:=qK (hdr.below);have HB15:=qK (qT HB14.out HST.out);have HS15:=qK (show w14.heap.size≤w15.heap.size from HST.out.size);have F4_:=qK (rB F4.out HST.out);clear F4;have F4:=F4_;clear F4_;have F8_:=qK (rB F8.out HST.out);clear F8;have F8:=F8_;clear F8_;have BK1_:=qK (qB BK1.out HST.out);clear BK1;have BK1:=BK1_;clear BK1_;have hc1_0_15:w15.cell? ⟨gb1,0,none⟩=some (.slice A0_0 l0_0.length c0_0):=(qC BK1.out 0).trans rfl;have hc1_1_15:w15.cell? ⟨gb1,1,none⟩=some (.slice A0_1 l0_1.length c0_1):=(qC BK1.out 1).trans rfl;clear hdr HST;clear HB14;refine ⟨_,rfl,?_⟩))
 go_upto_region 25 with (first|((with_reducible refine gate_callee (f:=8) rfl ?_);refine goesL_ (some 90) rfl rfl Try.func8 (by kernel_rfl) rfl #[.agg #[.slice A0_0 l0_0.length c0_0,.slice A0_1 l0_1.length c0_1]] rfl (by (try simp only [mT,mC,mN]);first|done|rfl|(simp only [lD,lT];rfl)) ?_;(with_reducible refine (laws_toStats.calls (hr0_0:=cB HR0_0.out HB15.out) (hc0_0:=HC0_0.out) (hr0_1:=cB HR0_1.out HB15.out) (hc0_1:=HC0_1.out) (h:=N16.out)).mono ?_);rintro e w16 ⟨v0_,v1_,rfl,ho0,ho1,hb⟩;have HST:=qK (hb);have HB16:=qK (qT HB15.out HST.out);have HS16:=qK (show w15.heap.size≤w16.heap.size from HST.out.size);obtain ⟨Af11,cf11,ef11⟩:=Kd.R_slice ho0;subst ef11;obtain ⟨Af12,cf12,ef12⟩:=Kd.S_slice ho1;subst ef12;have F11:=qK (show Kd.R (Kd.int .i64) 3 w16 w.heap.size (fun k_=>w15.heap.size≤k_∧k_ < w16.heap.size∧some k_=(.slice Af11 (cvStats l0_0 l0_1).1.length cf11:Value).ownBlock) (.slice Af11 (cvStats l0_0 l0_1).1.length cf11) (cvStats l0_0 l0_1).1 from Kd.R_lower (Kd.R_mono (Kd.R_bound (Kd.R_tight rfl ho0)) (fun k_ hk_=>⟨hk_.2.1,hk_.2.2.1,hk_.1⟩)) (qZ HB15.out));have F12:=qK (show Kd.S (Kd.slice 3 (Kd.int .i64)) 22 w16 w.heap.size (fun k_=>w15.heap.size≤k_∧k_ < w16.heap.size∧some k_ ≠ (.slice Af11 (cvStats l0_0 l0_1).1.length cf11:Value).ownBlock) (.slice Af12 (cvStats l0_0 l0_1).2.length cf12) (cvStats l0_0 l0_1).2 from Kd.S_lower (Kd.S_mono (Kd.S_bound ho1) (fun k_ hk_=>⟨hk_.2.1,hk_.2.2.1,(by have h_:=hk_.1;first|exact h_|exact h_.1|exact h_.2|exact h_.2.1|exact h_.2.2|simp_all)⟩)) (qZ HB15.out));have F4_:=qK (rB F4.out HST.out);clear F4;have F4:=F4_;clear F4_;have F8_:=qK (rB F8.out HST.out);clear F8;have F8:=F8_;clear F8_;clear BK1;clear hb HST ho0 ho1;clear HB15;refine ⟨_,rfl,?_⟩)|((with_reducible refine gate_callee (f:=17) rfl ?_);refine goesL_ (some 91) rfl rfl Try.func17 (by kernel_rfl) rfl #[.agg #[.slice Af11 (cvStats l0_0 l0_1).1.length cf11,.slice Af12 (cvStats l0_0 l0_1).2.length cf12]] rfl (by (try simp only [mT,mC,mN]);first|done|rfl|(simp only [lD,lT];rfl)) ?_;(with_reducible refine (impl_BestOrder.calls (hr0_0:=(Kd.R_reads' F11.out).2.2) (hc0_0:=(Kd.R_reads' F11.out).2.1) (hr0_1:=(Kd.S_reads' F12.out).2.2) (hc0_1:=(Kd.S_reads' F12.out).2.1) (h:=N17.out)).mono ?_);rintro e w17 ⟨v0_,rfl,ho0,hb⟩;have HST:=qK (hb);have HB17:=qK (qT HB16.out HST.out);have HS17:=qK (show w16.heap.size≤w17.heap.size from HST.out.size);obtain ⟨Af13,cf13,ef13⟩:=Kd.R_slice ho0;subst ef13;have F13:=qK (show Kd.R (Kd.int .i64) 3 w17 w.heap.size (fun k_=>w16.heap.size≤k_∧k_ < w17.heap.size) (.slice Af13 o0_.length cf13) o0_ from Kd.R_lower (Kd.R_mono (Kd.R_bound ho0) (fun k_ hk_=>⟨hk_.2.1,hk_.2.2.1⟩)) (qZ HB16.out));have F4_:=qK (rB F4.out HST.out);clear F4;have F4:=F4_;clear F4_;have F8_:=qK (rB F8.out HST.out);clear F8;have F8:=F8_;clear F8_;clear F11;clear F12;clear hb HST ho0;clear HB16;refine ⟨_,rfl,?_⟩))
 go_upto_region 27 with (first|((with_reducible refine gate_callee (f:=11) rfl ?_);refine goesL_ (some 97) rfl rfl Try.func11 (by kernel_rfl) rfl #[.slice Af13 o0_.length cf13,.slice Af4 o0_.length cf4] rfl (by (try simp only [mT,mC,mN]);first|done|rfl|(simp only [lD,lT];rfl)) ?_;(with_reducible refine (laws_eqIntS.calls (hr0:=(Kd.R_reads' F13.out).2.2) (hc0:=(Kd.R_reads' F13.out).2.1) (hr1:=(Kd.R_reads' F4.out).2.2) (hc1:=(Kd.R_reads' F4.out).2.1) (h:=N18.out)).mono ?_);rintro e w18 ⟨rfl,hdr⟩;have HST:=qK (hdr.below);have HB18:=qK (qT HB17.out HST.out);have HS18:=qK (show w17.heap.size≤w18.heap.size from HST.out.size);clear F4;have F8_:=qK (rB F8.out HST.out);clear F8;have F8:=F8_;clear F8_;clear F13;clear hdr HST;clear HB17;refine ⟨_,rfl,?_⟩))
 go_upto_region 29 with (first|((with_reducible refine gate_callee (f:=15) rfl ?_);refine goesL_ (some 111) rfl rfl Try.func15 (by kernel_rfl) rfl #[.slice Af8 o0_.length cf8,.int .i64 1] rfl (by (try simp only [mT,mC,mN]);first|done|rfl|(simp only [lD,lT];rfl)) ?_;refine calls_of_args (args':=#[.slice Af8 y14_0.length cf8,.int .i64 1]) (by rw [HEy14_0.out]) ?_;(with_reducible refine (laws_heldIntS.calls (hr0:=(Kd.R_reads' F8.out).2.2) (hc0:=(Kd.R_reads' F8.out).2.1) (h:=N19.out)).mono ?_);rintro e w19 ⟨rfl,hdr⟩;have HST:=qK (hdr.below);have HB19:=qK (qT HB18.out HST.out);have HS19:=qK (show w18.heap.size≤w19.heap.size from HST.out.size);clear F8;clear hdr HST;clear HB18;refine ⟨_,rfl,?_⟩))
 go_wp2
 go_ret
 exact ⟨rfl,HB19.out⟩

end Go.Proofs.Ytecebaeifmddnaa.PFnExactBestOrder
