/-
  A text of this claim's own, printed by a program of the session (wip/tools/xprint.py): functions of the program as Lean functions, each with what its call comes to.
-/
import Derived.Test.YtboligpcbndkjaaPFnExactIsContainedx0
import Derived.Test.YtboligpcbndkjaaPFnExactIsContainedx5
namespace Go.Proofs.Ytboligpcbndkjaa.PFnExactIsContained
open Go.Proofs.YtboligpcbndkjaaW.PrintWords renaming pw_below_drewN → qD, blk_cell → qC, below_drew1 → qO, below_alloc → qA, blk_frozen → qF, below_set → qS, blk_drewN → qN, blk_alloc → qL, blk_drew → qW, below_size → qZ, below_step → qT, blk_below → qB, blk_far → qR, blk_put → qP
open Go.Proofs.YtboligpcbndkjaaW.PrintWords.Aside0 renaming mk → qK
open Bool renaming true → Y, false → Z
open List renaming setIfInBounds_toArray → sIb, set_cons_zero → sZ, set_cons_succ → sS, map_toArray → mT, map_cons → mC, map_nil → mN, length_drop → lD, length_take → lT
open Go.Proofs.YtboligpcbndkjaaW.PrintWords.Kd renaming C_alloc → cL, C_drewN → cN, C_drew → cW, C_below → cB, R_alloc → rL, R_drewN → rN, R_drew → rW, R_below → rB
open Go.RowKit Go.Proofs.YtboligpcbndkjaaW.PrintWords Go.Proofs.YtboligpcbndkjaaW.PrintLast Go.Proofs.YtboligpcbndkjaaW.PrintMore
attribute [local go_sem] max2_int min2_int max_two min_two max_three min_three max_four min_four   -- for this text's walks alone
set_option linter.unusedVariables false
set_option linter.unusedSimpArgs false

/-! ### slices_Contains_int_int: function 192 -/
def slices_Contains_int_int.f (k:Nat) (l0:List Int) (a1:Int):Option (Bool):=(slices_Index_int_int.f k l0 a1).bind fun t317=>(some (decide (t317 ≥ 0)))
theorem slices_Contains_int_int.mono : ∀ a0 a1 k,LeO (slices_Contains_int_int.f k a0 a1) (slices_Contains_int_int.f (k + 1) a0 a1):=by
 intro a0 a1 k;unfold slices_Contains_int_int.f
 repeat' first
   | (with_reducible exact slices_Index_int_int.mono _ _ _)
   | (with_reducible exact LeO.refl _)
   | (with_reducible exact LeO.none _)
   | (with_reducible refine LeO.ite ?_ ?_)
   | (with_reducible refine LeO.bind ?_ (fun _=>?_))
   | exact slices_Index_int_int.mono _ _ _
   | exact LeO.none _
   | refine LeO.ite ?_ ?_
   | refine LeO.bind ?_ (fun _=>?_)
set_option maxHeartbeats 8000000 in
set_option maxRecDepth 100000 in
theorem slices_Contains_int_int.calls (k:Nat) (A0:Option Addr) (c0:Nat) (l0:List Int) (a1:Int) (r:Bool) (w:World) (hr0:Kd.C (Kd.int .i64) w A0 l0.length l0) (hc0:l0.length≤c0) (h:slices_Contains_int_int.f k l0 a1=some r) :
  Calls Try.prog 192 #[.slice A0 l0.length c0,.int .i64 a1] w fun e w'=>e=.returned (.bool r)∧Drawn0 w w':=by
 have HR0:=qK hr0;have HC0:=qK hc0;clear hr0 hc0;have H:((slices_Index_int_int.f k l0 a1).bind fun t317=>(some (decide (t317 ≥ 0))))=some r:=h;clear h;replace H:=Option.bind_eq_some_iff.mp H;obtain ⟨t317,A30,H⟩:=H;replace H:(some (decide (t317 ≥ 0)))=some r:=H;have A3:=qK A30;clear A30;obtain rfl:=Option.some.inj H;go_enter Try.func192,Try.ntmps192
 go_wp2_with (first|((with_reducible refine gate_callee (f:=202) rfl ?_);refine goesL_ (some 7) rfl rfl Try.func202 (by kernel_rfl) rfl #[.slice A0 l0.length c0,.int .i64 a1] rfl (by (try simp only [mT,mC,mN]);first|done|rfl|(simp only [lD,lT];rfl)) ?_;(with_reducible refine (slices_Index_int_int.calls k _ _ l0 a1 t317 _ ?side1 ?side2 A3.out).mono ?_);(case side1=>repeat (first|exact HR0.out|(with_reducible first|refine cL ?_ _|refine cN ?_ _|refine cW ?_)));(case side2=>exact HC0.out);rintro e w' ⟨rfl,⟨nd,rfl⟩⟩;refine ⟨_,rfl,?_⟩))
 go_ret
 exact ⟨by first|rfl|(simp;done)|(simp [*];done),by repeat (first|exact Drawn0.refl _|apply Drawn0.step)⟩

/-! ### impl_isHead_1: function 191 -/
def impl_isHead_1.f (k:Nat) (a0:Int) (l90:List Int):Option (Bool):=(slices_Contains_int_int.f k l90 a0).bind fun t319=>(some t319)
theorem impl_isHead_1.mono : ∀ a0 a1 k,LeO (impl_isHead_1.f k a0 a1) (impl_isHead_1.f (k + 1) a0 a1):=by
 intro a0 a1 k;unfold impl_isHead_1.f
 repeat' first
   | (with_reducible exact slices_Contains_int_int.mono _ _ _)
   | (with_reducible exact LeO.refl _)
   | (with_reducible exact LeO.none _)
   | (with_reducible refine LeO.ite ?_ ?_)
   | (with_reducible refine LeO.bind ?_ (fun _=>?_))
   | exact slices_Contains_int_int.mono _ _ _
   | exact LeO.none _
   | refine LeO.ite ?_ ?_
   | refine LeO.bind ?_ (fun _=>?_)
set_option maxHeartbeats 8000000 in
set_option maxRecDepth 100000 in
theorem impl_isHead_1.calls (k:Nat) (a0:Int) (B0:Nat) (A90:Option Addr) (c90:Nat) (l90:List Int) (r:Bool) (w:World) (hr90:Kd.C (Kd.int .i64) w A90 l90.length l90) (hc90:l90.length≤c90) (hq0:w.heap[B0]?=some (.cells #[.slice A90 l90.length c90] 22 (0,0))) (h:impl_isHead_1.f k a0 l90=some r) :
  Calls Try.prog 191 #[.int .i64 a0,.pointer (some ⟨B0,0,none⟩)] w fun e w'=>e=.returned (.bool r)∧Drawn0 w w':=by
 have HR90:=qK hr90;have HC90:=qK hc90;clear hr90 hc90;have BK318:=qK hq0;clear hq0;have H:((slices_Contains_int_int.f k l90 a0).bind fun t319=>(some t319))=some r:=h;clear h;replace H:=Option.bind_eq_some_iff.mp H;obtain ⟨t319,A20,H⟩:=H;replace H:(some t319)=some r:=H;have A2:=qK A20;clear A20;obtain rfl:=Option.some.inj H;have hcz3_0:w.cell? ⟨B0,0,none⟩=some (.slice A90 l90.length c90):=(qC BK318.out 0).trans rfl;have hfz3_0:=qF BK318.out 0;go_enter Try.func191,Try.ntmps191
 go_wp2_with (first|((with_reducible refine gate_callee (f:=192) rfl ?_);refine goesL_ (some 6) rfl rfl Try.func192 (by kernel_rfl) rfl #[.slice A90 l90.length c90,.int .i64 a0] rfl (by (try simp only [mT,mC,mN]);first|done|rfl|(simp only [lD,lT];rfl)) ?_;(with_reducible refine (slices_Contains_int_int.calls k _ _ l90 a0 t319 _ ?side1 ?side2 A2.out).mono ?_);(case side1=>repeat (first|exact HR90.out|(with_reducible first|refine cL ?_ _|refine cN ?_ _|refine cW ?_)));(case side2=>exact HC90.out);rintro e w' ⟨rfl,⟨nd,rfl⟩⟩;refine ⟨_,rfl,?_⟩))
 go_ret
 exact ⟨by first|rfl|(simp;done)|(simp [*];done),by repeat (first|exact Drawn0.refl _|apply Drawn0.step)⟩

/-! ### areAll_impl_isHead_1: function 106, handed function 191 -/
def areAll_impl_isHead_1.f (k : Nat) (l : List Int) (l90 : List Int) : Option Bool := if l.all (fun d => (impl_isHead_1.f k d l90).isSome) = true then some (l.all (fun d => (impl_isHead_1.f k d l90).getD false)) else none
theorem areAll_impl_isHead_1.mono : ∀ a0_ a1_ k, LeO (areAll_impl_isHead_1.f k a0_ a1_) (areAll_impl_isHead_1.f (k + 1) a0_ a1_) := by
  intro l l90 k r h
  unfold areAll_impl_isHead_1.f at h ⊢
  by_cases hs : l.all (fun d => (impl_isHead_1.f k d l90).isSome) = true
  case neg => rw [if_neg hs] at h; cases h
  rw [if_pos hs] at h
  have hx : ∀ d ∈ l, impl_isHead_1.f (k + 1) d l90 = impl_isHead_1.f k d l90 := by
    intro d hd
    obtain ⟨r, hr⟩ := Option.isSome_iff_exists.1 (List.all_eq_true.1 hs d hd)
    rw [hr]; exact impl_isHead_1.mono _ _ k r hr
  rw [if_pos (List.all_eq_true.2 fun d hd => by rw [hx d hd]; exact List.all_eq_true.1 hs d hd), ← h]
  congr 1
  exact all_same fun d hd => by rw [hx d hd]
theorem areAll_impl_isHead_1.calls (k : Nat) (A : Option Addr) (c : Nat) (l : List Int) (B0 : Nat) (A90 : Option Addr) (c90 : Nat) (l90 : List Int) (r : Bool) (w : World) (hr : Kd.C (Kd.int .i64) w A l.length l) (hc : l.length ≤ c) (hr90 : Kd.C (Kd.int .i64) w A90 l90.length l90) (hc90 : l90.length ≤ c90) (hq0 : w.heap[B0]? = some (.cells #[.slice A90 l90.length c90] 22 (0, 0))) (h : areAll_impl_isHead_1.f k l l90 = some r) :
    Calls Try.prog 106 #[.slice A l.length c, .func (.func 191) #[] #[.pointer (some ⟨B0, 0, none⟩)]] w fun e w' => e = .returned (.bool r) ∧ Below w.heap.size w w' := by
  unfold areAll_impl_isHead_1.f at h
  by_cases hs : l.all (fun d => (impl_isHead_1.f k d l90).isSome) = true
  case neg => rw [if_neg hs] at h; cases h
  rw [if_pos hs] at h
  obtain rfl : l.all (fun d => (impl_isHead_1.f k d l90).getD false) = r := Option.some.inj h
  refine areAll_Int.calls A c l 191 _ _ w (enters_of Try.func191 (by kernel_rfl) rfl) hr ?_
  intro W d v hd hW hv
  obtain ⟨r_, hr_⟩ := Option.isSome_iff_exists.1 (List.all_eq_true.1 hs d hd)
  obtain rfl : v = .int .i64 d := by simpa using (List.cons.inj hv).1
  refine (impl_isHead_1.calls (w := W) (hr90 := Kd.C_below hr90 hW) (hc90 := hc90) (hq0 := blk_below hq0 hW) (h := hr_)).mono ?_
  rintro e w' ⟨rfl, hb⟩
  exact ⟨by show _ = Ending.returned (Value.bool ((impl_isHead_1.f k d l90).getD false)); rw [hr_]; rfl, hb.below⟩

/-! ### impl_isHead: function 161 -/
def impl_isHead.f (k:Nat) (l0:List Int) (l1:List (S97)):Option (Bool):=(impl_vars.f k l1).bind fun t320=>(if (l0.length:Int)≤6 then ((areAll_impl_isHead_1.f k l0 t320).bind fun t324=>(some t324)) else (some false))
theorem impl_isHead.mono : ∀ a0 a1 k,LeO (impl_isHead.f k a0 a1) (impl_isHead.f (k + 1) a0 a1):=by
 intro a0 a1 k;unfold impl_isHead.f
 repeat' first
   | (with_reducible exact areAll_impl_isHead_1.mono _ _ _)
   | (with_reducible exact impl_vars.mono _ _)
   | (with_reducible exact LeO.refl _)
   | (with_reducible exact LeO.none _)
   | (with_reducible refine LeO.ite ?_ ?_)
   | (with_reducible refine LeO.bind ?_ (fun _=>?_))
   | exact areAll_impl_isHead_1.mono _ _ _
   | exact impl_vars.mono _ _
   | exact LeO.none _
   | refine LeO.ite ?_ ?_
   | refine LeO.bind ?_ (fun _=>?_)
set_option maxHeartbeats 8000000 in
set_option maxRecDepth 100000 in
theorem impl_isHead.calls (k:Nat) (A0:Option Addr) (c0:Nat) (l0:List Int) (A1:Option Addr) (c1:Nat) (l1:List (S97)) (r:Bool) (w:World) (hr0:Kd.C (Kd.int .i64) w A0 l0.length l0) (hc0:l0.length≤c0) (hr1:Kd.C k97 w A1 l1.length l1) (hc1:l1.length≤c1) (h:impl_isHead.f k l0 l1=some r) :
  Calls Try.prog 161 #[.slice A0 l0.length c0,.slice A1 l1.length c1] w fun e w'=>e=.returned (.bool r)∧Below w.heap.size w w':=by
 have HR0:=qK hr0;have HC0:=qK hc0;clear hr0 hc0;have HR1:=qK hr1;have HC1:=qK hc1;clear hr1 hc1;have HB:=qK (Below.refl w.heap.size w);have H:((impl_vars.f k l1).bind fun t320=>(if (l0.length:Int)≤6 then ((areAll_impl_isHead_1.f k l0 t320).bind fun t324=>(some t324)) else (some false)))=some r:=h;clear h;replace H:=Option.bind_eq_some_iff.mp H;obtain ⟨t320,A30,H⟩:=H;replace H:(if (l0.length:Int)≤6 then ((areAll_impl_isHead_1.f k l0 t320).bind fun t324=>(some t324)) else (some false))=some r:=H;have A3:=qK A30;clear A30;by_cases c4:(l0.length:Int)≤6
 ·rw [if_pos c4] at H;have c4b0:decide ((l0.length:Int)≤6)=true:=decide_eq_true c4;have c4b1:decide (l0.length≤6)=true:=decide_eq_true (by omega);clear c4;replace H:=Option.bind_eq_some_iff.mp H;obtain ⟨t324,A50,H⟩:=H;replace H:(some t324)=some r:=H;have A5:=qK A50;clear A50;obtain rfl:=Option.some.inj H;go_enter Try.func161,Try.ntmps161
  go_wp2_with (first|((with_reducible refine gate_callee (f:=123) rfl ?_);refine goesL_ (some 7) rfl rfl Try.func123 (by kernel_rfl) rfl #[.slice A1 l1.length c1] rfl (by (try simp only [mT,mC,mN]);first|done|rfl|(simp only [lD,lT];rfl)) ?_;(with_reducible refine (impl_vars.calls k _ _ l1 t320 _ ?side1 ?side2 A3.out).mono ?_);(case side1=>repeat (first|exact HR1.out|(with_reducible first|refine cL ?_ _|refine cN ?_ _|refine cW ?_)));(case side2=>exact HC1.out);rintro e w6 ⟨v321,rfl,ho0,hb⟩;refine ⟨_,rfl,?_⟩;have n0_:=qK (Kd.R_lower ho0 (qZ (by repeat (with_reducible first|exact HB.out|apply qA|apply qD|apply qO))));have n1_:=qK (qT (by repeat (with_reducible first|exact HB.out|apply qA|apply qD|apply qO)) hb);clear HB;have HO322:=n0_;have HB:=n1_;clear n0_ n1_;(try clear hb);(try clear ho0))|((with_reducible refine gate_dst (N:=5) rfl ?_);refine box_event ?hg (N:=5) ?hd (cs:=#[.slice none 0 0]) (t:=22) ?hr ?_;(case hd=>rfl);(case hg=>rfl);(case hr=>(go_simp;try rfl));intro gb323 hg w7 hbox hb;have n0_:=qK (rB (by (with_reducible repeat (first|apply rL|apply rN|apply rW));exact HO322.out) hb);have n1_:=qK (qT (by repeat (with_reducible first|exact HB.out|apply qA|apply qD|apply qO)) hb);have n2_:=qK (hbox);have n3_:=qK ((by rw [hg];exact (qZ (by repeat (with_reducible first|exact HB.out|apply qA|apply qD|apply qO))):w.heap.size≤gb323));have n4_:=qK ((by rw [hg];exact (qZ (by repeat (with_reducible first|exact HB.out|apply qA|apply qD|apply qO))):w.heap.size≤gb323));clear HO322;clear HB;have HO322:=n0_;have HB:=n1_;have BK323:=n2_;have GW323:=n3_;have GE323:=n4_;clear n0_ n1_ n2_ n3_ n4_;clear hb hbox hg;obtain ⟨Ao8,co8,eo8⟩:=Kd.R_slice HO322.out;subst eo8;have hcz9_0:w7.cell? ⟨gb323,0,none⟩=some (.slice none 0 0):=(qC BK323.out 0).trans rfl;have hfz9_0:=qF BK323.out 0)|(go_at_call 106;(with_reducible refine (areAll_impl_isHead_1.calls k _ _ l0 gb323 Ao8 co8 t320 t324 _ ?side1 ?side2 ?side3 ?side4 ?side5 A5.out).mono ?_);(case side1=>exact cB HR0.out (by repeat (with_reducible first|exact HB.out|apply qA|apply qD|apply qO|refine qS ?_ GE323.out)));(case side2=>exact HC0.out);(case side3=>refine (Kd.R_reads' (e:=3) (base:=w.heap.size) (ok:=fun k_=>True) (n:=t320.length) (c:=co8) ?_).2.2;exact (by (with_reducible repeat (first|apply rL|apply rN|apply rW));exact (Kd.R_mono (Kd.R_far (p:=⟨gb323,0,none⟩) (Kd.R_types HO322.out BK323.out (by decide)) (fun _ hk=>hk.2) (.slice Ao8 t320.length co8)) (fun _ h_=>h_.1))));(case side4=>exact (Kd.R_reads' HO322.out).2.1);(case side5=>exact (by (with_reducible repeat (first|refine qN ?_ _|refine qW ?_|refine qL ?_ _));refine qP (cs:=#[.slice none 0 0]) ?_ 0 _ rfl;(with_reducible repeat (first|refine qN ?_ _|refine qW ?_|refine qL ?_ _));exact BK323.out));rintro e w10 ⟨rfl,hb⟩;have n0_:=qK (rB (by (with_reducible repeat (first|apply rL|apply rN|apply rW));exact (Kd.R_mono (Kd.R_far (p:=⟨gb323,0,none⟩) (Kd.R_types HO322.out BK323.out (by decide)) (fun _ hk=>hk.2) (.slice Ao8 t320.length co8)) (fun _ h_=>h_.1))) hb);have n1_:=qK (qB (g:=gb323) (o:=.cells #[.slice Ao8 t320.length co8] 22 (0,0)) (by (with_reducible repeat (first|refine qN ?_ _|refine qW ?_|refine qL ?_ _));refine qP (cs:=#[.slice none 0 0]) ?_ 0 _ rfl;(with_reducible repeat (first|refine qN ?_ _|refine qW ?_|refine qL ?_ _));exact BK323.out) hb);have n2_:=qK (qT (by repeat (with_reducible first|exact HB.out|apply qA|apply qD|apply qO|refine qS ?_ GE323.out)) hb);clear HO322;clear BK323;clear HB;have HO322:=n0_;have BK323:=n1_;have HB:=n2_;clear n0_ n1_ n2_;(try clear hb)))
  go_ret
  exact ⟨by first|rfl|(simp [errW_none,errW_some] <;> rfl)|(simp [*,errW_none,errW_some] <;> rfl),by repeat (first|(with_reducible first|exact HB.out|apply qA|apply qD|apply qO|refine qS ?_ GE323.out)|exact HB.out)⟩
 ·rw [if_neg c4] at H;have c4b0:decide ((l0.length:Int)≤6)=false:=decide_eq_false c4;have c4b1:decide (l0.length≤6)=false:=decide_eq_false (by omega);clear c4;obtain rfl:=Option.some.inj H;go_enter Try.func161,Try.ntmps161
  go_wp2_with (first|((with_reducible refine gate_callee (f:=123) rfl ?_);refine goesL_ (some 7) rfl rfl Try.func123 (by kernel_rfl) rfl #[.slice A1 l1.length c1] rfl (by (try simp only [mT,mC,mN]);first|done|rfl|(simp only [lD,lT];rfl)) ?_;(with_reducible refine (impl_vars.calls k _ _ l1 t320 _ ?side1 ?side2 A3.out).mono ?_);(case side1=>repeat (first|exact HR1.out|(with_reducible first|refine cL ?_ _|refine cN ?_ _|refine cW ?_)));(case side2=>exact HC1.out);rintro e w11 ⟨v321,rfl,ho0,hb⟩;refine ⟨_,rfl,?_⟩;have n0_:=qK (Kd.R_lower ho0 (qZ (by repeat (with_reducible first|exact HB.out|apply qA|apply qD|apply qO))));have n1_:=qK (qT (by repeat (with_reducible first|exact HB.out|apply qA|apply qD|apply qO)) hb);clear HB;have HO322:=n0_;have HB:=n1_;clear n0_ n1_;(try clear hb);(try clear ho0))|((with_reducible refine gate_dst (N:=5) rfl ?_);refine box_event ?hg (N:=5) ?hd (cs:=#[.slice none 0 0]) (t:=22) ?hr ?_;(case hd=>rfl);(case hg=>rfl);(case hr=>(go_simp;try rfl));intro gb323 hg w12 hbox hb;have n0_:=qK (rB (by (with_reducible repeat (first|apply rL|apply rN|apply rW));exact HO322.out) hb);have n1_:=qK (qT (by repeat (with_reducible first|exact HB.out|apply qA|apply qD|apply qO)) hb);have n2_:=qK (hbox);have n3_:=qK ((by rw [hg];exact (qZ (by repeat (with_reducible first|exact HB.out|apply qA|apply qD|apply qO))):w.heap.size≤gb323));have n4_:=qK ((by rw [hg];exact (qZ (by repeat (with_reducible first|exact HB.out|apply qA|apply qD|apply qO))):w.heap.size≤gb323));clear HO322;clear HB;have HO322:=n0_;have HB:=n1_;have BK323:=n2_;have GW323:=n3_;have GE323:=n4_;clear n0_ n1_ n2_ n3_ n4_;clear hb hbox hg;obtain ⟨Ao13,co13,eo13⟩:=Kd.R_slice HO322.out;subst eo13;have hcz14_0:w12.cell? ⟨gb323,0,none⟩=some (.slice none 0 0):=(qC BK323.out 0).trans rfl;have hfz14_0:=qF BK323.out 0))
  go_ret
  exact ⟨by first|rfl|(simp [errW_none,errW_some] <;> rfl)|(simp [*,errW_none,errW_some] <;> rfl),by repeat (first|(with_reducible first|exact HB.out|apply qA|apply qD|apply qO|refine qS ?_ GE323.out)|exact HB.out)⟩

/-! ### impl_isQuery: function 117 -/
def impl_isQuery.f (k:Nat) (l0_0:List Int) (l0_1:List (S97)) (l1:List Int):Option (Bool):=(impl_within.f (l0_1.length:Int) 1 5).bind fun t327=>(if t327=true then ((areAll_impl_isQuery_1.f l0_1 l1).bind fun t328=>(if t328=true then ((impl_isHead.f k l0_0 l0_1).bind fun t329=>(some t329)) else (some false))) else (some false))
theorem impl_isQuery.mono : ∀ a0 a1 a2 k,LeO (impl_isQuery.f k a0 a1 a2) (impl_isQuery.f (k + 1) a0 a1 a2):=by
 intro a0 a1 a2 k;unfold impl_isQuery.f
 repeat' first
   | (with_reducible exact impl_isHead.mono _ _ _)
   | (with_reducible exact LeO.refl _)
   | (with_reducible exact LeO.none _)
   | (with_reducible refine LeO.ite ?_ ?_)
   | (with_reducible refine LeO.bind ?_ (fun _=>?_))
   | exact impl_isHead.mono _ _ _
   | exact LeO.none _
   | refine LeO.ite ?_ ?_
   | refine LeO.bind ?_ (fun _=>?_)
set_option maxHeartbeats 8000000 in
set_option maxRecDepth 100000 in
theorem impl_isQuery.calls (k:Nat) (A0_0:Option Addr) (c0_0:Nat) (l0_0:List Int) (A0_1:Option Addr) (c0_1:Nat) (l0_1:List (S97)) (A1:Option Addr) (c1:Nat) (l1:List Int) (r:Bool) (w:World) (hr0_0:Kd.C (Kd.int .i64) w A0_0 l0_0.length l0_0) (hc0_0:l0_0.length≤c0_0) (hr0_1:Kd.C k97 w A0_1 l0_1.length l0_1) (hc0_1:l0_1.length≤c0_1) (hr1:Kd.C (Kd.int .i64) w A1 l1.length l1) (hc1:l1.length≤c1) (h:impl_isQuery.f k l0_0 l0_1 l1=some r) :
  Calls Try.prog 117 #[.agg #[.slice A0_0 l0_0.length c0_0,.slice A0_1 l0_1.length c0_1],.slice A1 l1.length c1] w fun e w'=>e=.returned (.bool r)∧Below w.heap.size w w':=by
 have hu32:=Try.underlying32;have HR0_0:=qK hr0_0;have HC0_0:=qK hc0_0;clear hr0_0 hc0_0;have HR0_1:=qK hr0_1;have HC0_1:=qK hc0_1;clear hr0_1 hc0_1;have HR1:=qK hr1;have HC1:=qK hc1;clear hr1 hc1;have HB:=qK (Below.refl w.heap.size w);have H:((impl_within.f (l0_1.length:Int) 1 5).bind fun t327=>(if t327=true then ((areAll_impl_isQuery_1.f l0_1 l1).bind fun t328=>(if t328=true then ((impl_isHead.f k l0_0 l0_1).bind fun t329=>(some t329)) else (some false))) else (some false)))=some r:=h;clear h;replace H:=Option.bind_eq_some_iff.mp H;obtain ⟨t327,A30,H⟩:=H;replace H:(if t327=true then ((areAll_impl_isQuery_1.f l0_1 l1).bind fun t328=>(if t328=true then ((impl_isHead.f k l0_0 l0_1).bind fun t329=>(some t329)) else (some false))) else (some false))=some r:=H;have A3:=qK A30;clear A30;by_cases c4:t327=true
 ·subst c4;have H1:((areAll_impl_isQuery_1.f l0_1 l1).bind fun t328=>(if t328=true then ((impl_isHead.f k l0_0 l0_1).bind fun t329=>(some t329)) else (some false)))=some r:=by rw [if_pos rfl] at H;exact H
  clear H;have H:=H1;clear H1;replace H:=Option.bind_eq_some_iff.mp H;obtain ⟨t328,A50,H⟩:=H;replace H:(if t328=true then ((impl_isHead.f k l0_0 l0_1).bind fun t329=>(some t329)) else (some false))=some r:=H;have A5:=qK A50;clear A50;by_cases c6:t328=true
  ·subst c6;have H1:((impl_isHead.f k l0_0 l0_1).bind fun t329=>(some t329))=some r:=by rw [if_pos rfl] at H;exact H
   clear H;have H:=H1;clear H1;replace H:=Option.bind_eq_some_iff.mp H;obtain ⟨t329,A70,H⟩:=H;replace H:(some t329)=some r:=H;have A7:=qK A70;clear A70;obtain rfl:=Option.some.inj H;go_enter Try.func117,Try.ntmps117
   go_wp2_with (first|((with_reducible refine gate_dst (N:=2) rfl ?_);refine box_event ?hg (N:=2) ?hd (cs:=#[.slice A0_0 l0_0.length c0_0,.slice A0_1 l0_1.length c0_1]) (t:=32) ?hr ?_;(case hd=>rfl);(case hg=>rfl);(case hr=>(go_simp;try rfl));intro gb325 hg w8 hbox hb;have n0_:=qK (qT (by repeat (with_reducible first|exact HB.out|apply qA|apply qD|apply qO)) hb);have n1_:=qK (hbox);have n2_:=qK ((by rw [hg];exact (qZ (by repeat (with_reducible first|exact HB.out|apply qA|apply qD|apply qO))):w.heap.size≤gb325));have n3_:=qK ((by rw [hg];exact (qZ (by repeat (with_reducible first|exact HB.out|apply qA|apply qD|apply qO))):w.heap.size≤gb325));clear HB;have HB:=n0_;have BK325:=n1_;have GW325:=n2_;have GE325:=n3_;clear n0_ n1_ n2_ n3_;clear hb hbox hg)|((with_reducible refine gate_dst (N:=3) rfl ?_);refine box_event ?hg (N:=3) ?hd (cs:=#[.slice A1 l1.length c1]) (t:=22) ?hr ?_;(case hd=>rfl);(case hg=>rfl);(case hr=>(go_simp;try rfl));intro gb326 hg w9 hbox hb;have n0_:=qK (qB (g:=gb325) (o:=_) (by (with_reducible repeat (first|refine qN ?_ _|refine qW ?_|refine qL ?_ _));exact BK325.out) hb);have n1_:=qK (qT (by repeat (with_reducible first|exact HB.out|apply qA|apply qD|apply qO|refine qS ?_ GE325.out)) hb);have n2_:=qK (hbox);have n3_:=qK ((by rw [hg];exact (qZ (by repeat (with_reducible first|exact HB.out|apply qA|apply qD|apply qO|refine qS ?_ GE325.out))):w.heap.size≤gb326));have n4_:=qK ((by rw [hg];exact (qZ (by repeat (with_reducible first|exact HB.out|apply qA|apply qD|apply qO|refine qS ?_ GE325.out))):w.heap.size≤gb326));have n5_:=qK ((by rw [hg];exact Nat.ne_of_lt (blk_lt (g:=gb325) (o:=_) (by (with_reducible repeat (first|refine qN ?_ _|refine qW ?_|refine qL ?_ _));exact BK325.out)):gb325 ≠ gb326));have n6_:=qK ((by rw [hg];exact Nat.ne_of_gt (blk_lt (g:=gb325) (o:=_) (by (with_reducible repeat (first|refine qN ?_ _|refine qW ?_|refine qL ?_ _));exact BK325.out)):gb326 ≠ gb325));clear BK325;clear HB;have BK325:=n0_;have HB:=n1_;have BK326:=n2_;have GW326:=n3_;have GE326:=n4_;have NB325_326:=n5_;have NB326_325:=n6_;clear n0_ n1_ n2_ n3_ n4_ n5_ n6_;clear hb hbox hg;have hnb10:=NB325_326.out;have hnc10:=NB326_325.out;have hcz11_0:w9.cell? ⟨gb325,0,none⟩=some (.slice A0_0 l0_0.length c0_0):=(qC BK325.out 0).trans rfl;have hcz11_1:w9.cell? ⟨gb325,1,none⟩=some (.slice A0_1 l0_1.length c0_1):=(qC BK325.out 1).trans rfl;have hfz11_0:=qF BK325.out 0;have hfz11_1:=qF BK325.out 1)|((with_reducible refine gate_callee (f:=105) rfl ?_);refine goesL_ (some 8) rfl rfl Try.func105 (by kernel_rfl) rfl #[.int .i64 (l0_1.length:Int),.int .i64 1,.int .i64 5] rfl (by (try simp only [mT,mC,mN]);first|done|rfl|(simp only [lD,lT];rfl)) ?_;(with_reducible refine (impl_within.calls (l0_1.length:Int) 1 5 true _ A3.out).mono ?_);rintro e w' ⟨rfl,⟨nd,rfl⟩⟩;refine ⟨_,rfl,?_⟩)|(go_at_call 120;(with_reducible refine (areAll_impl_isQuery_1.calls _ _ l0_1 gb326 A1 c1 l1 true _ ?side1 ?side2 ?side3 ?side4 ?side5 A5.out).mono ?_);(case side1=>repeat (first|exact (cB HR0_1.out (by repeat (with_reducible first|exact HB.out|apply qA|apply qD|apply qO|refine qS ?_ GE325.out|refine qS ?_ GE326.out)))|(with_reducible first|refine cL ?_ _|refine cN ?_ _|refine cW ?_)));(case side2=>exact HC0_1.out);(case side3=>repeat (first|exact (cB HR1.out (by repeat (with_reducible first|exact HB.out|apply qA|apply qD|apply qO|refine qS ?_ GE325.out|refine qS ?_ GE326.out)))|(with_reducible first|refine cL ?_ _|refine cN ?_ _|refine cW ?_)));(case side4=>exact HC1.out);(case side5=>exact (by (with_reducible repeat (first|refine qN ?_ _|refine qW ?_|refine qL ?_ _));exact BK326.out));rintro e w12 ⟨rfl,hb⟩;have n0_:=qK (qB (g:=gb325) (o:=_) (by (with_reducible repeat (first|refine qN ?_ _|refine qW ?_|refine qL ?_ _));exact BK325.out) hb);have n1_:=qK (qB (g:=gb326) (o:=_) (by (with_reducible repeat (first|refine qN ?_ _|refine qW ?_|refine qL ?_ _));exact BK326.out) hb);have n2_:=qK (qT (by repeat (with_reducible first|exact HB.out|apply qA|apply qD|apply qO|refine qS ?_ GE325.out|refine qS ?_ GE326.out)) hb);clear BK325;clear BK326;clear HB;have BK325:=n0_;have BK326:=n1_;have HB:=n2_;clear n0_ n1_ n2_;(try clear hb);have hcz13_0:w12.cell? ⟨gb325,0,none⟩=some (.slice A0_0 l0_0.length c0_0):=(qC BK325.out 0).trans rfl;have hcz13_1:w12.cell? ⟨gb325,1,none⟩=some (.slice A0_1 l0_1.length c0_1):=(qC BK325.out 1).trans rfl;have hfz13_0:=qF BK325.out 0;have hfz13_1:=qF BK325.out 1)|(go_at_call 161;(with_reducible refine (impl_isHead.calls k _ _ l0_0 _ _ l0_1 t329 _ ?side1 ?side2 ?side3 ?side4 A7.out).mono ?_);(case side1=>repeat (first|exact (cB HR0_0.out HB.out)|(with_reducible first|refine cL ?_ _|refine cN ?_ _|refine cW ?_)));(case side2=>exact HC0_0.out);(case side3=>repeat (first|exact (cB HR0_1.out HB.out)|(with_reducible first|refine cL ?_ _|refine cN ?_ _|refine cW ?_)));(case side4=>exact HC0_1.out);rintro e w14 ⟨rfl,hb⟩;have n0_:=qK (qB (g:=gb325) (o:=_) (by (with_reducible repeat (first|refine qN ?_ _|refine qW ?_|refine qL ?_ _));exact BK325.out) hb);have n1_:=qK (qB (g:=gb326) (o:=_) (by (with_reducible repeat (first|refine qN ?_ _|refine qW ?_|refine qL ?_ _));exact BK326.out) hb);have n2_:=qK (qT (by repeat (with_reducible first|exact HB.out|apply qA|apply qD|apply qO|refine qS ?_ GE325.out|refine qS ?_ GE326.out)) hb);clear BK325;clear BK326;clear HB;have BK325:=n0_;have BK326:=n1_;have HB:=n2_;clear n0_ n1_ n2_;(try clear hb)))
   go_ret
   exact ⟨by first|rfl|(simp [errW_none,errW_some] <;> rfl)|(simp [*,errW_none,errW_some] <;> rfl),by repeat (first|(with_reducible first|exact HB.out|apply qA|apply qD|apply qO|refine qS ?_ GE325.out|refine qS ?_ GE326.out)|exact HB.out)⟩
  ·replace c6:=Bool.eq_false_iff.mpr c6;subst c6;have H1:(some false)=some r:=by rw [if_neg (show ¬ (false=true) by decide)] at H;exact H
   clear H;have H:=H1;clear H1;obtain rfl:=Option.some.inj H;go_enter Try.func117,Try.ntmps117
   go_wp2_with (first|((with_reducible refine gate_dst (N:=2) rfl ?_);refine box_event ?hg (N:=2) ?hd (cs:=#[.slice A0_0 l0_0.length c0_0,.slice A0_1 l0_1.length c0_1]) (t:=32) ?hr ?_;(case hd=>rfl);(case hg=>rfl);(case hr=>(go_simp;try rfl));intro gb325 hg w15 hbox hb;have n0_:=qK (qT (by repeat (with_reducible first|exact HB.out|apply qA|apply qD|apply qO)) hb);have n1_:=qK (hbox);have n2_:=qK ((by rw [hg];exact (qZ (by repeat (with_reducible first|exact HB.out|apply qA|apply qD|apply qO))):w.heap.size≤gb325));have n3_:=qK ((by rw [hg];exact (qZ (by repeat (with_reducible first|exact HB.out|apply qA|apply qD|apply qO))):w.heap.size≤gb325));clear HB;have HB:=n0_;have BK325:=n1_;have GW325:=n2_;have GE325:=n3_;clear n0_ n1_ n2_ n3_;clear hb hbox hg)|((with_reducible refine gate_dst (N:=3) rfl ?_);refine box_event ?hg (N:=3) ?hd (cs:=#[.slice A1 l1.length c1]) (t:=22) ?hr ?_;(case hd=>rfl);(case hg=>rfl);(case hr=>(go_simp;try rfl));intro gb326 hg w16 hbox hb;have n0_:=qK (qB (g:=gb325) (o:=_) (by (with_reducible repeat (first|refine qN ?_ _|refine qW ?_|refine qL ?_ _));exact BK325.out) hb);have n1_:=qK (qT (by repeat (with_reducible first|exact HB.out|apply qA|apply qD|apply qO|refine qS ?_ GE325.out)) hb);have n2_:=qK (hbox);have n3_:=qK ((by rw [hg];exact (qZ (by repeat (with_reducible first|exact HB.out|apply qA|apply qD|apply qO|refine qS ?_ GE325.out))):w.heap.size≤gb326));have n4_:=qK ((by rw [hg];exact (qZ (by repeat (with_reducible first|exact HB.out|apply qA|apply qD|apply qO|refine qS ?_ GE325.out))):w.heap.size≤gb326));have n5_:=qK ((by rw [hg];exact Nat.ne_of_lt (blk_lt (g:=gb325) (o:=_) (by (with_reducible repeat (first|refine qN ?_ _|refine qW ?_|refine qL ?_ _));exact BK325.out)):gb325 ≠ gb326));have n6_:=qK ((by rw [hg];exact Nat.ne_of_gt (blk_lt (g:=gb325) (o:=_) (by (with_reducible repeat (first|refine qN ?_ _|refine qW ?_|refine qL ?_ _));exact BK325.out)):gb326 ≠ gb325));clear BK325;clear HB;have BK325:=n0_;have HB:=n1_;have BK326:=n2_;have GW326:=n3_;have GE326:=n4_;have NB325_326:=n5_;have NB326_325:=n6_;clear n0_ n1_ n2_ n3_ n4_ n5_ n6_;clear hb hbox hg;have hnb17:=NB325_326.out;have hnc17:=NB326_325.out;have hcz18_0:w16.cell? ⟨gb325,0,none⟩=some (.slice A0_0 l0_0.length c0_0):=(qC BK325.out 0).trans rfl;have hcz18_1:w16.cell? ⟨gb325,1,none⟩=some (.slice A0_1 l0_1.length c0_1):=(qC BK325.out 1).trans rfl;have hfz18_0:=qF BK325.out 0;have hfz18_1:=qF BK325.out 1)|((with_reducible refine gate_callee (f:=105) rfl ?_);refine goesL_ (some 8) rfl rfl Try.func105 (by kernel_rfl) rfl #[.int .i64 (l0_1.length:Int),.int .i64 1,.int .i64 5] rfl (by (try simp only [mT,mC,mN]);first|done|rfl|(simp only [lD,lT];rfl)) ?_;(with_reducible refine (impl_within.calls (l0_1.length:Int) 1 5 true _ A3.out).mono ?_);rintro e w' ⟨rfl,⟨nd,rfl⟩⟩;refine ⟨_,rfl,?_⟩)|(go_at_call 120;(with_reducible refine (areAll_impl_isQuery_1.calls _ _ l0_1 gb326 A1 c1 l1 false _ ?side1 ?side2 ?side3 ?side4 ?side5 A5.out).mono ?_);(case side1=>repeat (first|exact (cB HR0_1.out (by repeat (with_reducible first|exact HB.out|apply qA|apply qD|apply qO|refine qS ?_ GE325.out|refine qS ?_ GE326.out)))|(with_reducible first|refine cL ?_ _|refine cN ?_ _|refine cW ?_)));(case side2=>exact HC0_1.out);(case side3=>repeat (first|exact (cB HR1.out (by repeat (with_reducible first|exact HB.out|apply qA|apply qD|apply qO|refine qS ?_ GE325.out|refine qS ?_ GE326.out)))|(with_reducible first|refine cL ?_ _|refine cN ?_ _|refine cW ?_)));(case side4=>exact HC1.out);(case side5=>exact (by (with_reducible repeat (first|refine qN ?_ _|refine qW ?_|refine qL ?_ _));exact BK326.out));rintro e w19 ⟨rfl,hb⟩;have n0_:=qK (qB (g:=gb325) (o:=_) (by (with_reducible repeat (first|refine qN ?_ _|refine qW ?_|refine qL ?_ _));exact BK325.out) hb);have n1_:=qK (qB (g:=gb326) (o:=_) (by (with_reducible repeat (first|refine qN ?_ _|refine qW ?_|refine qL ?_ _));exact BK326.out) hb);have n2_:=qK (qT (by repeat (with_reducible first|exact HB.out|apply qA|apply qD|apply qO|refine qS ?_ GE325.out|refine qS ?_ GE326.out)) hb);clear BK325;clear BK326;clear HB;have BK325:=n0_;have BK326:=n1_;have HB:=n2_;clear n0_ n1_ n2_;(try clear hb)))
   go_ret
   exact ⟨by first|rfl|(simp [errW_none,errW_some] <;> rfl)|(simp [*,errW_none,errW_some] <;> rfl),by repeat (first|(with_reducible first|exact HB.out|apply qA|apply qD|apply qO|refine qS ?_ GE325.out|refine qS ?_ GE326.out)|exact HB.out)⟩
 ·replace c4:=Bool.eq_false_iff.mpr c4;subst c4;have H1:(some false)=some r:=by rw [if_neg (show ¬ (false=true) by decide)] at H;exact H
  clear H;have H:=H1;clear H1;obtain rfl:=Option.some.inj H;go_enter Try.func117,Try.ntmps117
  go_wp2_with (first|((with_reducible refine gate_dst (N:=2) rfl ?_);refine box_event ?hg (N:=2) ?hd (cs:=#[.slice A0_0 l0_0.length c0_0,.slice A0_1 l0_1.length c0_1]) (t:=32) ?hr ?_;(case hd=>rfl);(case hg=>rfl);(case hr=>(go_simp;try rfl));intro gb325 hg w20 hbox hb;have n0_:=qK (qT (by repeat (with_reducible first|exact HB.out|apply qA|apply qD|apply qO)) hb);have n1_:=qK (hbox);have n2_:=qK ((by rw [hg];exact (qZ (by repeat (with_reducible first|exact HB.out|apply qA|apply qD|apply qO))):w.heap.size≤gb325));have n3_:=qK ((by rw [hg];exact (qZ (by repeat (with_reducible first|exact HB.out|apply qA|apply qD|apply qO))):w.heap.size≤gb325));clear HB;have HB:=n0_;have BK325:=n1_;have GW325:=n2_;have GE325:=n3_;clear n0_ n1_ n2_ n3_;clear hb hbox hg)|((with_reducible refine gate_dst (N:=3) rfl ?_);refine box_event ?hg (N:=3) ?hd (cs:=#[.slice A1 l1.length c1]) (t:=22) ?hr ?_;(case hd=>rfl);(case hg=>rfl);(case hr=>(go_simp;try rfl));intro gb326 hg w21 hbox hb;have n0_:=qK (qB (g:=gb325) (o:=_) (by (with_reducible repeat (first|refine qN ?_ _|refine qW ?_|refine qL ?_ _));exact BK325.out) hb);have n1_:=qK (qT (by repeat (with_reducible first|exact HB.out|apply qA|apply qD|apply qO|refine qS ?_ GE325.out)) hb);have n2_:=qK (hbox);have n3_:=qK ((by rw [hg];exact (qZ (by repeat (with_reducible first|exact HB.out|apply qA|apply qD|apply qO|refine qS ?_ GE325.out))):w.heap.size≤gb326));have n4_:=qK ((by rw [hg];exact (qZ (by repeat (with_reducible first|exact HB.out|apply qA|apply qD|apply qO|refine qS ?_ GE325.out))):w.heap.size≤gb326));have n5_:=qK ((by rw [hg];exact Nat.ne_of_lt (blk_lt (g:=gb325) (o:=_) (by (with_reducible repeat (first|refine qN ?_ _|refine qW ?_|refine qL ?_ _));exact BK325.out)):gb325 ≠ gb326));have n6_:=qK ((by rw [hg];exact Nat.ne_of_gt (blk_lt (g:=gb325) (o:=_) (by (with_reducible repeat (first|refine qN ?_ _|refine qW ?_|refine qL ?_ _));exact BK325.out)):gb326 ≠ gb325));clear BK325;clear HB;have BK325:=n0_;have HB:=n1_;have BK326:=n2_;have GW326:=n3_;have GE326:=n4_;have NB325_326:=n5_;have NB326_325:=n6_;clear n0_ n1_ n2_ n3_ n4_ n5_ n6_;clear hb hbox hg;have hnb22:=NB325_326.out;have hnc22:=NB326_325.out;have hcz23_0:w21.cell? ⟨gb325,0,none⟩=some (.slice A0_0 l0_0.length c0_0):=(qC BK325.out 0).trans rfl;have hcz23_1:w21.cell? ⟨gb325,1,none⟩=some (.slice A0_1 l0_1.length c0_1):=(qC BK325.out 1).trans rfl;have hfz23_0:=qF BK325.out 0;have hfz23_1:=qF BK325.out 1)|((with_reducible refine gate_callee (f:=105) rfl ?_);refine goesL_ (some 8) rfl rfl Try.func105 (by kernel_rfl) rfl #[.int .i64 (l0_1.length:Int),.int .i64 1,.int .i64 5] rfl (by (try simp only [mT,mC,mN]);first|done|rfl|(simp only [lD,lT];rfl)) ?_;(with_reducible refine (impl_within.calls (l0_1.length:Int) 1 5 false _ A3.out).mono ?_);rintro e w' ⟨rfl,⟨nd,rfl⟩⟩;refine ⟨_,rfl,?_⟩))
  go_ret
  exact ⟨by first|rfl|(simp [errW_none,errW_some] <;> rfl)|(simp [*,errW_none,errW_some] <;> rfl),by repeat (first|(with_reducible first|exact HB.out|apply qA|apply qD|apply qO|refine qS ?_ GE325.out|refine qS ?_ GE326.out)|exact HB.out)⟩

/-! ### impl_areTables_1: function 162 -/
def impl_areTables_1.f (a0:Int):Option (Bool):=(impl_within.f a0 1 3).bind fun t330=>(some t330)
set_option maxHeartbeats 8000000 in
set_option maxRecDepth 100000 in
theorem impl_areTables_1.calls (a0:Int) (r:Bool) (w:World) (h:impl_areTables_1.f a0=some r) :
  Calls Try.prog 162 #[.int .i64 a0] w fun e w'=>e=.returned (.bool r)∧Drawn0 w w':=by
 have H:((impl_within.f a0 1 3).bind fun t330=>(some t330))=some r:=h;clear h;replace H:=Option.bind_eq_some_iff.mp H;obtain ⟨t330,A20,H⟩:=H;replace H:(some t330)=some r:=H;have A2:=qK A20;clear A20;obtain rfl:=Option.some.inj H;go_enter Try.func162,Try.ntmps162
 go_wp2_with (first|((with_reducible refine gate_callee (f:=105) rfl ?_);refine goesL_ (some 4) rfl rfl Try.func105 (by kernel_rfl) rfl #[.int .i64 a0,.int .i64 1,.int .i64 3] rfl (by (try simp only [mT,mC,mN]);first|done|rfl|(simp only [lD,lT];rfl)) ?_;(with_reducible refine (impl_within.calls a0 1 3 t330 _ A2.out).mono ?_);rintro e w' ⟨rfl,⟨nd,rfl⟩⟩;refine ⟨_,rfl,?_⟩))
 go_ret
 exact ⟨by first|rfl|(simp;done)|(simp [*];done),by repeat (first|exact Drawn0.refl _|apply Drawn0.step)⟩

/-! ### areAll_impl_areTables_1: function 106, handed function 162 -/
def areAll_impl_areTables_1.f (l : List Int) : Option Bool := if l.all (fun d => (impl_areTables_1.f d).isSome) = true then some (l.all (fun d => (impl_areTables_1.f d).getD false)) else none
theorem areAll_impl_areTables_1.calls (A : Option Addr) (c : Nat) (l : List Int) (r : Bool) (w : World) (hr : Kd.C (Kd.int .i64) w A l.length l) (hc : l.length ≤ c) (h : areAll_impl_areTables_1.f l = some r) :
    Calls Try.prog 106 #[.slice A l.length c, .func (.func 162) #[] #[]] w fun e w' => e = .returned (.bool r) ∧ Below w.heap.size w w' := by
  unfold areAll_impl_areTables_1.f at h
  by_cases hs : l.all (fun d => (impl_areTables_1.f d).isSome) = true
  case neg => rw [if_neg hs] at h; cases h
  rw [if_pos hs] at h
  obtain rfl : l.all (fun d => (impl_areTables_1.f d).getD false) = r := Option.some.inj h
  refine areAll_Int.calls A c l 162 _ _ w (enters_of Try.func162 (by kernel_rfl) rfl) hr ?_
  intro W d v hd hW hv
  obtain ⟨r_, hr_⟩ := Option.isSome_iff_exists.1 (List.all_eq_true.1 hs d hd)
  obtain rfl : v = .int .i64 d := by simpa using (List.cons.inj hv).1
  refine (impl_areTables_1.calls (w := W) (h := hr_)).mono ?_
  rintro e w' ⟨rfl, hb⟩
  exact ⟨by show _ = Ending.returned (Value.bool ((impl_areTables_1.f d).getD false)); rw [hr_]; rfl, hb.below⟩

/-! ### impl_areTables: function 119 -/
def impl_areTables.f (l0:List Int):Option (Bool):=(impl_within.f (l0.length:Int) 1 4).bind fun t331=>(if t331=true then ((areAll_impl_areTables_1.f l0).bind fun t332=>(some t332)) else (some false))
set_option maxHeartbeats 8000000 in
set_option maxRecDepth 100000 in
theorem impl_areTables.calls (A0:Option Addr) (c0:Nat) (l0:List Int) (r:Bool) (w:World) (hr0:Kd.C (Kd.int .i64) w A0 l0.length l0) (hc0:l0.length≤c0) (h:impl_areTables.f l0=some r) :
  Calls Try.prog 119 #[.slice A0 l0.length c0] w fun e w'=>e=.returned (.bool r)∧Below w.heap.size w w':=by
 have HR0:=qK hr0;have HC0:=qK hc0;clear hr0 hc0;have HB:=qK (Below.refl w.heap.size w);have H:((impl_within.f (l0.length:Int) 1 4).bind fun t331=>(if t331=true then ((areAll_impl_areTables_1.f l0).bind fun t332=>(some t332)) else (some false)))=some r:=h;clear h;replace H:=Option.bind_eq_some_iff.mp H;obtain ⟨t331,A20,H⟩:=H;replace H:(if t331=true then ((areAll_impl_areTables_1.f l0).bind fun t332=>(some t332)) else (some false))=some r:=H;have A2:=qK A20;clear A20;by_cases c3:t331=true
 ·subst c3;have H1:((areAll_impl_areTables_1.f l0).bind fun t332=>(some t332))=some r:=by rw [if_pos rfl] at H;exact H
  clear H;have H:=H1;clear H1;replace H:=Option.bind_eq_some_iff.mp H;obtain ⟨t332,A40,H⟩:=H;replace H:(some t332)=some r:=H;have A4:=qK A40;clear A40;obtain rfl:=Option.some.inj H;go_enter Try.func119,Try.ntmps119
  go_wp2_with (first|((with_reducible refine gate_callee (f:=105) rfl ?_);refine goesL_ (some 5) rfl rfl Try.func105 (by kernel_rfl) rfl #[.int .i64 (l0.length:Int),.int .i64 1,.int .i64 4] rfl (by (try simp only [mT,mC,mN]);first|done|rfl|(simp only [lD,lT];rfl)) ?_;(with_reducible refine (impl_within.calls (l0.length:Int) 1 4 true _ A2.out).mono ?_);rintro e w' ⟨rfl,⟨nd,rfl⟩⟩;refine ⟨_,rfl,?_⟩)|(go_at_call 106;(with_reducible refine (areAll_impl_areTables_1.calls _ _ l0  t332 _ ?side1 ?side2 A4.out).mono ?_);(case side1=>repeat (first|exact HR0.out|(with_reducible first|refine cL ?_ _|refine cN ?_ _|refine cW ?_)));(case side2=>exact HC0.out);rintro e w5 ⟨rfl,hb⟩;have n0_:=qK (qT (by repeat (with_reducible first|exact HB.out|apply qA|apply qD|apply qO)) hb);clear HB;have HB:=n0_;clear n0_;(try clear hb)))
  go_ret
  exact ⟨by first|rfl|(simp [errW_none,errW_some] <;> rfl)|(simp [*,errW_none,errW_some] <;> rfl),by repeat (first|(with_reducible first|exact HB.out|apply qA|apply qD|apply qO)|exact HB.out)⟩
 ·replace c3:=Bool.eq_false_iff.mpr c3;subst c3;have H1:(some false)=some r:=by rw [if_neg (show ¬ (false=true) by decide)] at H;exact H
  clear H;have H:=H1;clear H1;obtain rfl:=Option.some.inj H;go_enter Try.func119,Try.ntmps119
  go_wp2_with (first|((with_reducible refine gate_callee (f:=105) rfl ?_);refine goesL_ (some 5) rfl rfl Try.func105 (by kernel_rfl) rfl #[.int .i64 (l0.length:Int),.int .i64 1,.int .i64 4] rfl (by (try simp only [mT,mC,mN]);first|done|rfl|(simp only [lD,lT];rfl)) ?_;(with_reducible refine (impl_within.calls (l0.length:Int) 1 4 false _ A2.out).mono ?_);rintro e w' ⟨rfl,⟨nd,rfl⟩⟩;refine ⟨_,rfl,?_⟩))
  go_ret
  exact ⟨by first|rfl|(simp [errW_none,errW_some] <;> rfl)|(simp [*,errW_none,errW_some] <;> rfl),by repeat (first|(with_reducible first|exact HB.out|apply qA|apply qD|apply qO)|exact HB.out)⟩

/-! ### impl_GoodQuery: function 57 -/
def impl_GoodQuery.f (k:Nat) (l0_0:List Int) (l0_1:List (S97)) (l1:List Int):Option (Bool):=(impl_areTables.f l1).bind fun t334=>(if t334=true then ((impl_isQuery.f k l0_0 l0_1 l1).bind fun t335=>(some t335)) else (some false))
theorem impl_GoodQuery.mono : ∀ a0 a1 a2 k,LeO (impl_GoodQuery.f k a0 a1 a2) (impl_GoodQuery.f (k + 1) a0 a1 a2):=by
 intro a0 a1 a2 k;unfold impl_GoodQuery.f
 repeat' first
   | (with_reducible exact impl_isQuery.mono _ _ _ _)
   | (with_reducible exact LeO.refl _)
   | (with_reducible exact LeO.none _)
   | (with_reducible refine LeO.ite ?_ ?_)
   | (with_reducible refine LeO.bind ?_ (fun _=>?_))
   | exact impl_isQuery.mono _ _ _ _
   | exact LeO.none _
   | refine LeO.ite ?_ ?_
   | refine LeO.bind ?_ (fun _=>?_)
set_option maxHeartbeats 8000000 in
set_option maxRecDepth 100000 in
theorem impl_GoodQuery.calls (k:Nat) (A0_0:Option Addr) (c0_0:Nat) (l0_0:List Int) (A0_1:Option Addr) (c0_1:Nat) (l0_1:List (S97)) (A1:Option Addr) (c1:Nat) (l1:List Int) (r:Bool) (w:World) (hr0_0:Kd.C (Kd.int .i64) w A0_0 l0_0.length l0_0) (hc0_0:l0_0.length≤c0_0) (hr0_1:Kd.C k97 w A0_1 l0_1.length l0_1) (hc0_1:l0_1.length≤c0_1) (hr1:Kd.C (Kd.int .i64) w A1 l1.length l1) (hc1:l1.length≤c1) (h:impl_GoodQuery.f k l0_0 l0_1 l1=some r) :
  Calls Try.prog 57 #[.agg #[.slice A0_0 l0_0.length c0_0,.slice A0_1 l0_1.length c0_1],.slice A1 l1.length c1] w fun e w'=>e=.returned (.bool r)∧Below w.heap.size w w':=by
 have hu32:=Try.underlying32;have HR0_0:=qK hr0_0;have HC0_0:=qK hc0_0;clear hr0_0 hc0_0;have HR0_1:=qK hr0_1;have HC0_1:=qK hc0_1;clear hr0_1 hc0_1;have HR1:=qK hr1;have HC1:=qK hc1;clear hr1 hc1;have HB:=qK (Below.refl w.heap.size w);have H:((impl_areTables.f l1).bind fun t334=>(if t334=true then ((impl_isQuery.f k l0_0 l0_1 l1).bind fun t335=>(some t335)) else (some false)))=some r:=h;clear h;replace H:=Option.bind_eq_some_iff.mp H;obtain ⟨t334,A30,H⟩:=H;replace H:(if t334=true then ((impl_isQuery.f k l0_0 l0_1 l1).bind fun t335=>(some t335)) else (some false))=some r:=H;have A3:=qK A30;clear A30;by_cases c4:t334=true
 ·subst c4;have H1:((impl_isQuery.f k l0_0 l0_1 l1).bind fun t335=>(some t335))=some r:=by rw [if_pos rfl] at H;exact H
  clear H;have H:=H1;clear H1;replace H:=Option.bind_eq_some_iff.mp H;obtain ⟨t335,A50,H⟩:=H;replace H:(some t335)=some r:=H;have A5:=qK A50;clear A50;obtain rfl:=Option.some.inj H;go_enter Try.func57,Try.ntmps57
  go_wp2_with (first|((with_reducible refine gate_dst (N:=2) rfl ?_);refine box_event ?hg (N:=2) ?hd (cs:=#[.slice A0_0 l0_0.length c0_0,.slice A0_1 l0_1.length c0_1]) (t:=32) ?hr ?_;(case hd=>rfl);(case hg=>rfl);(case hr=>(go_simp;try rfl));intro gb333 hg w6 hbox hb;have n0_:=qK (qT (by repeat (with_reducible first|exact HB.out|apply qA|apply qD|apply qO)) hb);have n1_:=qK (hbox);have n2_:=qK ((by rw [hg];exact (qZ (by repeat (with_reducible first|exact HB.out|apply qA|apply qD|apply qO))):w.heap.size≤gb333));have n3_:=qK ((by rw [hg];exact (qZ (by repeat (with_reducible first|exact HB.out|apply qA|apply qD|apply qO))):w.heap.size≤gb333));clear HB;have HB:=n0_;have BK333:=n1_;have GW333:=n2_;have GE333:=n3_;clear n0_ n1_ n2_ n3_;clear hb hbox hg)|((with_reducible refine gate_callee (f:=119) rfl ?_);refine goesL_ (some 6) rfl rfl Try.func119 (by kernel_rfl) rfl #[.slice A1 l1.length c1] rfl (by (try simp only [mT,mC,mN]);first|done|rfl|(simp only [lD,lT];rfl)) ?_;(with_reducible refine (impl_areTables.calls _ _ l1 true _ ?side1 ?side2 A3.out).mono ?_);(case side1=>repeat (first|exact (cB HR1.out HB.out)|(with_reducible first|refine cL ?_ _|refine cN ?_ _|refine cW ?_)));(case side2=>exact HC1.out);rintro e w7 ⟨rfl,hb⟩;refine ⟨_,rfl,?_⟩;have n0_:=qK (qB (g:=gb333) (o:=_) (by (with_reducible repeat (first|refine qN ?_ _|refine qW ?_|refine qL ?_ _));exact BK333.out) hb);have n1_:=qK (qT (by repeat (with_reducible first|exact HB.out|apply qA|apply qD|apply qO|refine qS ?_ GE333.out)) hb);clear BK333;clear HB;have BK333:=n0_;have HB:=n1_;clear n0_ n1_;(try clear hb);have hcz8_0:w7.cell? ⟨gb333,0,none⟩=some (.slice A0_0 l0_0.length c0_0):=(qC BK333.out 0).trans rfl;have hcz8_1:w7.cell? ⟨gb333,1,none⟩=some (.slice A0_1 l0_1.length c0_1):=(qC BK333.out 1).trans rfl;have hfz8_0:=qF BK333.out 0;have hfz8_1:=qF BK333.out 1)|(go_at_call 117;(with_reducible refine (impl_isQuery.calls k _ _ l0_0 _ _ l0_1 _ _ l1 t335 _ ?side1 ?side2 ?side3 ?side4 ?side5 ?side6 A5.out).mono ?_);(case side1=>repeat (first|exact (cB HR0_0.out HB.out)|(with_reducible first|refine cL ?_ _|refine cN ?_ _|refine cW ?_)));(case side2=>exact HC0_0.out);(case side3=>repeat (first|exact (cB HR0_1.out HB.out)|(with_reducible first|refine cL ?_ _|refine cN ?_ _|refine cW ?_)));(case side4=>exact HC0_1.out);(case side5=>repeat (first|exact (cB HR1.out HB.out)|(with_reducible first|refine cL ?_ _|refine cN ?_ _|refine cW ?_)));(case side6=>exact HC1.out);rintro e w9 ⟨rfl,hb⟩;have n0_:=qK (qB (g:=gb333) (o:=_) (by (with_reducible repeat (first|refine qN ?_ _|refine qW ?_|refine qL ?_ _));exact BK333.out) hb);have n1_:=qK (qT (by repeat (with_reducible first|exact HB.out|apply qA|apply qD|apply qO|refine qS ?_ GE333.out)) hb);clear BK333;clear HB;have BK333:=n0_;have HB:=n1_;clear n0_ n1_;(try clear hb)))
  go_ret
  exact ⟨by first|rfl|(simp [errW_none,errW_some] <;> rfl)|(simp [*,errW_none,errW_some] <;> rfl),by repeat (first|(with_reducible first|exact HB.out|apply qA|apply qD|apply qO|refine qS ?_ GE333.out)|exact HB.out)⟩
 ·replace c4:=Bool.eq_false_iff.mpr c4;subst c4;have H1:(some false)=some r:=by rw [if_neg (show ¬ (false=true) by decide)] at H;exact H
  clear H;have H:=H1;clear H1;obtain rfl:=Option.some.inj H;go_enter Try.func57,Try.ntmps57
  go_wp2_with (first|((with_reducible refine gate_dst (N:=2) rfl ?_);refine box_event ?hg (N:=2) ?hd (cs:=#[.slice A0_0 l0_0.length c0_0,.slice A0_1 l0_1.length c0_1]) (t:=32) ?hr ?_;(case hd=>rfl);(case hg=>rfl);(case hr=>(go_simp;try rfl));intro gb333 hg w10 hbox hb;have n0_:=qK (qT (by repeat (with_reducible first|exact HB.out|apply qA|apply qD|apply qO)) hb);have n1_:=qK (hbox);have n2_:=qK ((by rw [hg];exact (qZ (by repeat (with_reducible first|exact HB.out|apply qA|apply qD|apply qO))):w.heap.size≤gb333));have n3_:=qK ((by rw [hg];exact (qZ (by repeat (with_reducible first|exact HB.out|apply qA|apply qD|apply qO))):w.heap.size≤gb333));clear HB;have HB:=n0_;have BK333:=n1_;have GW333:=n2_;have GE333:=n3_;clear n0_ n1_ n2_ n3_;clear hb hbox hg)|((with_reducible refine gate_callee (f:=119) rfl ?_);refine goesL_ (some 6) rfl rfl Try.func119 (by kernel_rfl) rfl #[.slice A1 l1.length c1] rfl (by (try simp only [mT,mC,mN]);first|done|rfl|(simp only [lD,lT];rfl)) ?_;(with_reducible refine (impl_areTables.calls _ _ l1 false _ ?side1 ?side2 A3.out).mono ?_);(case side1=>repeat (first|exact (cB HR1.out HB.out)|(with_reducible first|refine cL ?_ _|refine cN ?_ _|refine cW ?_)));(case side2=>exact HC1.out);rintro e w11 ⟨rfl,hb⟩;refine ⟨_,rfl,?_⟩;have n0_:=qK (qB (g:=gb333) (o:=_) (by (with_reducible repeat (first|refine qN ?_ _|refine qW ?_|refine qL ?_ _));exact BK333.out) hb);have n1_:=qK (qT (by repeat (with_reducible first|exact HB.out|apply qA|apply qD|apply qO|refine qS ?_ GE333.out)) hb);clear BK333;clear HB;have BK333:=n0_;have HB:=n1_;clear n0_ n1_;(try clear hb)))
  go_ret
  exact ⟨by first|rfl|(simp [errW_none,errW_some] <;> rfl)|(simp [*,errW_none,errW_some] <;> rfl),by repeat (first|(with_reducible first|exact HB.out|apply qA|apply qD|apply qO|refine qS ?_ GE333.out)|exact HB.out)⟩

/-! ### slices_Equal_int_int: function 185 -/
def slices_Equal_int_int.l0 : Nat→List Int→List Int→Int→Int→Option (Bool)
 | 0,_,_,_,_=>none
 | k + 1,x0,x1,x12,x13=>if x13 < x12 then (if 0≤x13 then (if x13 < (x0.length:Int) then (if x13 < (x1.length:Int) then (if (rd x0 x13)=(rd x1 x13) then (slices_Equal_int_int.l0 k x0 x1 x12 (wrap64 (x13 + 1))) else (some false)) else (none)) else (none)) else (none)) else (some true)
def slices_Equal_int_int.f (k:Nat) (l0:List Int) (l1:List Int):Option (Bool):=if (l0.length:Int)=(l1.length:Int) then (slices_Equal_int_int.l0 k l0 l1 (l0.length:Int) 0) else (some false)
theorem slices_Equal_int_int.mono_l : ∀ k,(∀ y0 y1 y2 y3,LeO (slices_Equal_int_int.l0 k y0 y1 y2 y3) (slices_Equal_int_int.l0 (k + 1) y0 y1 y2 y3))
 | 0=>fun _ _ _ _ r h=>by simp [slices_Equal_int_int.l0] at h
 | k + 1=>by
  have ih0:=slices_Equal_int_int.mono_l k
  ·intro y0 y1 y2 y3;unfold slices_Equal_int_int.l0
   repeat' first
   | (with_reducible exact ih0 _ _ _ _)
   | (with_reducible exact LeO.refl _)
   | (with_reducible exact LeO.none _)
   | (with_reducible refine LeO.ite ?_ ?_)
   | (with_reducible refine LeO.bind ?_ (fun _=>?_))
   | exact ih0 _ _ _ _
   | exact LeO.none _
   | refine LeO.ite ?_ ?_
   | refine LeO.bind ?_ (fun _=>?_)
theorem slices_Equal_int_int.mono : ∀ a0 a1 k,LeO (slices_Equal_int_int.f k a0 a1) (slices_Equal_int_int.f (k + 1) a0 a1):=by
 intro a0 a1 k;have ih0:=slices_Equal_int_int.mono_l k;unfold slices_Equal_int_int.f
 repeat' first
   | (with_reducible exact ih0 _ _ _ _)
   | (with_reducible exact LeO.refl _)
   | (with_reducible exact LeO.none _)
   | (with_reducible refine LeO.ite ?_ ?_)
   | (with_reducible refine LeO.bind ?_ (fun _=>?_))
   | exact ih0 _ _ _ _
   | exact LeO.none _
   | refine LeO.ite ?_ ?_
   | refine LeO.bind ?_ (fun _=>?_)
set_option maxHeartbeats 8000000 in
set_option maxRecDepth 100000 in
theorem slices_Equal_int_int.calls (k:Nat) (A0:Option Addr) (c0:Nat) (l0:List Int) (A1:Option Addr) (c1:Nat) (l1:List Int) (r:Bool) (w:World) (hr0:Kd.C (Kd.int .i64) w A0 l0.length l0) (hc0:l0.length≤c0) (hr1:Kd.C (Kd.int .i64) w A1 l1.length l1) (hc1:l1.length≤c1) (h:slices_Equal_int_int.f k l0 l1=some r) :
  Calls Try.prog 185 #[.slice A0 l0.length c0,.slice A1 l1.length c1] w fun e w'=>e=.returned (.bool r)∧Drawn0 w w':=by
 have HR0:=qK hr0;have HC0:=qK hc0;clear hr0 hc0;have HR1:=qK hr1;have HC1:=qK hc1;clear hr1 hc1;have H:(if (l0.length:Int)=(l1.length:Int) then (slices_Equal_int_int.l0 k l0 l1 (l0.length:Int) 0) else (some false))=some r:=h;clear h;by_cases c3:(l0.length:Int)=(l1.length:Int)
 ·rw [if_pos c3] at H;have c3b0:((l0.length:Int) == (l1.length:Int))=true:=beq_iff_eq.mpr c3;have c3b1:((l0.length:Int) != (l1.length:Int))=false:=bne_eq_false_iff_eq.mpr c3;have c3b2:(l0.length == l1.length)=true:=by first|simpa using c3|(simp at c3 ⊢;omega)
  clear c3;have H':=qK H;clear H;go_enter Try.func185,Try.ntmps185
  go_wp2
  repeat (go_quiet (fail);try go_wp2)
  go_loopg [13] k (fun kq v13 w'=>∃ (x13_1:Int),v13=.int .i64 x13_1∧Aside0 (slices_Equal_int_int.l0 kq l0 l1 (l0.length:Int) x13_1=some r)∧Aside0 (kq≤k)∧Drawn0 w w')
  case atStart=>exact ⟨(0),(by first|rfl|(simp;done)|(simp [*];done)),H',⟨Nat.le_refl _⟩,by repeat (first|exact Drawn0.refl _|apply Drawn0.step)⟩
  case round =>
   clear H';try clear c1
   try clear p2
   try clear c3
   try clear c3b0
   try clear c3b1
   try clear c3b2
   obtain ⟨x13_1,rfl,HA,HK1,⟨m1,rfl⟩⟩:=hrel;cases gk with
   | zero=>exact absurd HA.out (by simp [slices_Equal_int_int.l0])
   | succ k1 =>
    have H:=HA.out;clear HA;simp only [slices_Equal_int_int.l0] at H;by_cases c4:x13_1 < (l0.length:Int)
    ·rw [if_pos c4] at H;have c4b0:decide (x13_1 < (l0.length:Int))=true:=decide_eq_true c4;clear c4;by_cases c5:0≤x13_1
     ·rw [if_pos c5] at H;have c5b0:decide (0≤x13_1)=true:=decide_eq_true c5;clear c5;by_cases c6:x13_1 < (l0.length:Int)
      ·rw [if_pos c6] at H;have c6b0:decide (x13_1 < (l0.length:Int))=true:=decide_eq_true c6;clear c6;by_cases c7:x13_1 < (l1.length:Int)
       ·rw [if_pos c7] at H;have c7b0:decide (x13_1 < (l1.length:Int))=true:=decide_eq_true c7;clear c7;by_cases c8:(rd l0 x13_1)=(rd l1 x13_1)
        ·rw [if_pos c8] at H;have c8b0:((rd l0 x13_1) == (rd l1 x13_1))=true:=beq_iff_eq.mpr c8;have c8b1:((rd l0 x13_1) != (rd l1 x13_1))=false:=bne_eq_false_iff_eq.mpr c8;clear c8;have H':=qK H;clear H;have p336:0≤(x13_1:Int):=of_decide_eq_true (by first|(with_reducible assumption)|assumption);have q336:x13_1 < (l0.length:Int):=of_decide_eq_true (by first|(with_reducible assumption)|assumption);obtain ⟨ad336,e336,hx336_0⟩:=Kd.at_int HR0.out x13_1 p336 q336;cases e336
         replace p336:=eq_true p336;replace q336:=eq_true q336;have p337:0≤(x13_1:Int):=of_decide_eq_true (by first|(with_reducible assumption)|assumption);have q337:x13_1 < (l1.length:Int):=of_decide_eq_true (by first|(with_reducible assumption)|assumption);obtain ⟨ad337,e337,hx337_0⟩:=Kd.at_int HR1.out x13_1 p337 q337;cases e337
         replace p337:=eq_true p337;replace q337:=eq_true q337;go_wp2
         repeat (go_quiet (fail);try go_wp2)
         go_roundg k1
         case measure=>have:=HK1.out;omega
         case rel=>exact ⟨(wrap64 (x13_1 + 1)),(by first|rfl|(simp;done)|(simp [*];done)),H',⟨by have:=HK1.out;omega⟩,by repeat (first|exact Drawn0.refl _|apply Drawn0.step)⟩
        ·rw [if_neg c8] at H;have c8b0:((rd l0 x13_1) == (rd l1 x13_1))=false:=beq_eq_false_iff_ne.mpr c8;have c8b1:((rd l0 x13_1) != (rd l1 x13_1))=true:=bne_iff_ne.mpr c8;obtain rfl:=Option.some.inj H;have p336:0≤(x13_1:Int):=of_decide_eq_true (by first|(with_reducible assumption)|assumption);have q336:x13_1 < (l0.length:Int):=of_decide_eq_true (by first|(with_reducible assumption)|assumption);obtain ⟨ad336,e336,hx336_0⟩:=Kd.at_int HR0.out x13_1 p336 q336;cases e336
         replace p336:=eq_true p336;replace q336:=eq_true q336;have p337:0≤(x13_1:Int):=of_decide_eq_true (by first|(with_reducible assumption)|assumption);have q337:x13_1 < (l1.length:Int):=of_decide_eq_true (by first|(with_reducible assumption)|assumption);obtain ⟨ad337,e337,hx337_0⟩:=Kd.at_int HR1.out x13_1 p337 q337;cases e337
         replace p337:=eq_true p337;replace q337:=eq_true q337;go_wp2
         repeat (go_quiet (fail);try go_wp2)
         go_ret
         exact ⟨by first|rfl|(simp;done)|(simp [*];done),by repeat (first|exact Drawn0.refl _|apply Drawn0.step)⟩
       ·rw [if_neg c7] at H;exact absurd H (by simp)
      ·rw [if_neg c6] at H;exact absurd H (by simp)
     ·rw [if_neg c5] at H;exact absurd H (by simp)
    ·rw [if_neg c4] at H;have c4b0:decide (x13_1 < (l0.length:Int))=false:=decide_eq_false c4;clear c4;obtain rfl:=Option.some.inj H;go_wp2
     repeat (go_quiet (fail);try go_wp2)
     go_ret
     exact ⟨by first|rfl|(simp;done)|(simp [*];done),by repeat (first|exact Drawn0.refl _|apply Drawn0.step)⟩
 ·rw [if_neg c3] at H;have c3b0:((l0.length:Int) == (l1.length:Int))=false:=beq_eq_false_iff_ne.mpr c3;have c3b1:((l0.length:Int) != (l1.length:Int))=true:=bne_iff_ne.mpr c3;have c3b2:(l0.length == l1.length)=false:=by first|simpa using c3|(simp at c3 ⊢;omega)
  obtain rfl:=Option.some.inj H;go_enter Try.func185,Try.ntmps185
  go_wp2
  repeat (go_quiet (fail);try go_wp2)
  go_ret
  exact ⟨by first|rfl|(simp;done)|(simp [*];done),by repeat (first|exact Drawn0.refl _|apply Drawn0.step)⟩

/-! ### impl_mapped: function 186 -/
def impl_mapped.l0 : Nat→List Int→List Int→List Int→Int→Int→Option (List Int)
 | 0,_,_,_,_,_=>none
 | k + 1,x0,x5,x8,x9,x10=>if x10 < x9 then (if 0≤x10 then (if x10 < (x8.length:Int) then (if 0≤(rd x8 x10) then (if (rd x8 x10) < (x0.length:Int) then (if x5.length < 17592186044416 then (impl_mapped.l0 k x0 (x5 ++ [rd x0 (rd x8 x10)]) x8 x9 (wrap64 (x10 + 1))) else (none)) else (none)) else (none)) else (none)) else (none)) else (some x5)
def impl_mapped.f (k:Nat) (l0:List Int) (l1:List Int):Option (List Int):=impl_mapped.l0 k l0 ([]:List Int) l1 (l1.length:Int) 0
theorem impl_mapped.mono_l : ∀ k,(∀ y0 y1 y2 y3 y4,LeO (impl_mapped.l0 k y0 y1 y2 y3 y4) (impl_mapped.l0 (k + 1) y0 y1 y2 y3 y4))
 | 0=>fun _ _ _ _ _ r h=>by simp [impl_mapped.l0] at h
 | k + 1=>by
  have ih0:=impl_mapped.mono_l k
  ·intro y0 y1 y2 y3 y4;unfold impl_mapped.l0
   repeat' first
   | (with_reducible exact ih0 _ _ _ _ _)
   | (with_reducible exact LeO.refl _)
   | (with_reducible exact LeO.none _)
   | (with_reducible refine LeO.ite ?_ ?_)
   | (with_reducible refine LeO.bind ?_ (fun _=>?_))
   | exact ih0 _ _ _ _ _
   | exact LeO.none _
   | refine LeO.ite ?_ ?_
   | refine LeO.bind ?_ (fun _=>?_)
theorem impl_mapped.mono : ∀ a0 a1 k,LeO (impl_mapped.f k a0 a1) (impl_mapped.f (k + 1) a0 a1):=by
 intro a0 a1 k;have ih0:=impl_mapped.mono_l k;unfold impl_mapped.f
 repeat' first
   | (with_reducible exact ih0 _ _ _ _ _)
   | (with_reducible exact LeO.refl _)
   | (with_reducible exact LeO.none _)
   | (with_reducible refine LeO.ite ?_ ?_)
   | (with_reducible refine LeO.bind ?_ (fun _=>?_))
   | exact ih0 _ _ _ _ _
   | exact LeO.none _
   | refine LeO.ite ?_ ?_
   | refine LeO.bind ?_ (fun _=>?_)
set_option maxHeartbeats 8000000 in
set_option maxRecDepth 100000 in
theorem impl_mapped.calls (k:Nat) (A0:Option Addr) (c0:Nat) (l0:List Int) (A1:Option Addr) (c1:Nat) (l1:List Int) (r:List Int) (w:World) (hr0:Kd.C (Kd.int .i64) w A0 l0.length l0) (hc0:l0.length≤c0) (hr1:Kd.C (Kd.int .i64) w A1 l1.length l1) (hc1:l1.length≤c1) (h:impl_mapped.f k l0 l1=some r) :
  Calls Try.prog 186 #[.slice A0 l0.length c0,.slice A1 l1.length c1] w fun e w'=>∃ v0_:Value,e=.returned (v0_)∧Kd.R (Kd.int .i64) 3 w' w.heap.size (fun _=>True) v0_ r∧Below w.heap.size w w':=by
 have HR0:=qK hr0;have HC0:=qK hc0;clear hr0 hc0;have HR1:=qK hr1;have HC1:=qK hc1;clear hr1 hc1;have HB:=qK (Below.refl w.heap.size w);have H:(impl_mapped.l0 k l0 ([]:List Int) l1 (l1.length:Int) 0)=some r:=h;clear h;have H':=qK H;clear H;go_enter Try.func186,Try.ntmps186
 go_wp2
 go_loopg [5,10] k (fun kq v5 v10 w'=>∃ (x5_1:List Int) (x10_1:Int),v10=.int .i64 x10_1∧Aside0 (impl_mapped.l0 kq l0 x5_1 l1 (l1.length:Int) x10_1=some r)∧Aside0 (kq≤k)∧Aside0 (Kd.R (Kd.int .i64) 3 w' w.heap.size (fun _=>True) v5 x5_1)∧Aside0 (Below w.heap.size w w'))
 case atStart=>exact ⟨(([]:List Int)),(0),(by first|rfl|(simp;done)|(simp [*];done)),H',⟨Nat.le_refl _⟩,⟨by first|exact Kd.R_nil _ _ _ _ _|exact Kd.N_nil _ _ _ _ _|exact Kd.V_nil _ _ _ _ _|exact Kd.Q_nil _ _ _ _ _|exact Kd.S_nil _ _ _ _ _⟩,⟨by repeat (first|(with_reducible first|exact HB.out|apply qA|apply qD|apply qO)|exact HB.out)⟩⟩
 case round =>
  clear H';try clear c1
  try clear p2
  obtain ⟨x5_1,x10_1,rfl,HA,HK1,HO_5,HB⟩:=hrel;cases gk with
  | zero=>exact absurd HA.out (by simp [impl_mapped.l0])
  | succ k1 =>
   have H:=HA.out;clear HA;simp only [impl_mapped.l0] at H;by_cases c3:x10_1 < (l1.length:Int)
   ·rw [if_pos c3] at H;have c3b0:decide (x10_1 < (l1.length:Int))=true:=decide_eq_true c3;clear c3;by_cases c4:0≤x10_1
    ·rw [if_pos c4] at H;have c4b0:decide (0≤x10_1)=true:=decide_eq_true c4;clear c4;by_cases c5:x10_1 < (l1.length:Int)
     ·rw [if_pos c5] at H;have c5b0:decide (x10_1 < (l1.length:Int))=true:=decide_eq_true c5;clear c5;by_cases c6:0≤(rd l1 x10_1)
      ·rw [if_pos c6] at H;have c6b0:decide (0≤(rd l1 x10_1))=true:=decide_eq_true c6;clear c6;by_cases c7:(rd l1 x10_1) < (l0.length:Int)
       ·rw [if_pos c7] at H;have c7b0:decide ((rd l1 x10_1) < (l0.length:Int))=true:=decide_eq_true c7;clear c7;by_cases c8:x5_1.length < 17592186044416
        ·rw [if_pos c8] at H;have LMc8:=qK c8;clear c8;obtain ⟨y340,hy340⟩:∃ y_:List Int,y_=(x5_1 ++ [rd l0 (rd l1 x10_1)]):=⟨_,rfl⟩;replace H:(impl_mapped.l0 k1 l0 y340 l1 (l1.length:Int) (wrap64 (x10_1 + 1)))=some r:=by first|(rw [hy340];with_reducible exact H)|(have H2_:=(Option.bind_some _ _).symm.trans H;rw [hy340];with_reducible exact H2_)|(have H2_:=(Option.bind_some _ _).symm.trans H;with_reducible exact H2_)|with_reducible exact H|(rw [hy340];exact H)|exact H
         have Ny340:=qK hy340;clear hy340;have H':=qK H;clear H;have p338:0≤(x10_1:Int):=of_decide_eq_true (by first|(with_reducible assumption)|assumption);have q338:x10_1 < (l1.length:Int):=of_decide_eq_true (by first|(with_reducible assumption)|assumption);obtain ⟨ad338,e338,hx338_0⟩:=Kd.at_int HR1.out x10_1 p338 q338;cases e338
         replace hx338_0:=(HB.out.cell (World.block_lt_of_cell? w _ hx338_0)).trans hx338_0;replace p338:=eq_true p338;replace q338:=eq_true q338;have p339:0≤((rd l1 x10_1):Int):=of_decide_eq_true (by first|(with_reducible assumption)|assumption);have q339:(rd l1 x10_1) < (l0.length:Int):=of_decide_eq_true (by first|(with_reducible assumption)|assumption);obtain ⟨ad339,e339,hx339_0⟩:=Kd.at_int HR0.out (rd l1 x10_1) p339 q339;cases e339
         replace hx339_0:=(HB.out.cell (World.block_lt_of_cell? w _ hx339_0)).trans hx339_0;replace p339:=eq_true p339;replace q339:=eq_true q339;go_wp2_with (first|((with_reducible refine gate_builtin (b:=.append) (xs:=#[.tmp 14,.tmp 19]) rfl ?_);at_builtin;refine Kd.R_append (Kd.int .i64) (w0:=w) w.heap.size rfl (.tmp 14) (.tmp 19) 22 3 (.int .i64 0) 8 rfl Try.underlying22 info3 rfl (by decide) (by omega) u5 x5_1 (rd l0 (rd l1 x10_1)) [.int .i64 (rd l0 (rd l1 x10_1))] (fun _=>True) (fun _=>False) rfl rfl ?aP (fun _ hk=>hk.elim) ?aF ?aO ?aB ?aS ?aL ?_;(case aP=>exact rfl);(case aB=>exact (by repeat (with_reducible first|exact HB.out|apply qA|apply qD|apply qO)));(case aF=>exact (fun _ _=>trivial));(case aO=>exact (by (with_reducible repeat (first|apply rL|apply rN|apply rW));exact HO_5.out));(case aS=>exact (qZ (by repeat (with_reducible first|exact HB.out|apply qA|apply qD|apply qO))));(case aL=>have:=LMc8.out;omega);intro v341 w9 ho hb hg hat;rw [← Ny340.out] at ho;have n0_:=qK (hb);have n1_:=qK (ho);clear HB;clear HO_5;have HB:=n0_;have HO342:=n1_;clear n0_ n1_;clear ho hb hg hat))
         go_roundg k1
         case measure=>have:=HK1.out;omega
         case rel=>exact ⟨(y340),(wrap64 (x10_1 + 1)),(by first|rfl|(simp;done)|(simp [*];done)),H',⟨by have:=HK1.out;omega⟩,⟨by (with_reducible repeat (first|apply rL|apply rN|apply rW));exact HO342.out⟩,⟨by repeat (first|(with_reducible first|exact HB.out|apply qA|apply qD|apply qO)|exact HB.out)⟩⟩
        ·rw [if_neg c8] at H;exact absurd H (by simp)
       ·rw [if_neg c7] at H;exact absurd H (by simp)
      ·rw [if_neg c6] at H;exact absurd H (by simp)
     ·rw [if_neg c5] at H;exact absurd H (by simp)
    ·rw [if_neg c4] at H;exact absurd H (by simp)
   ·rw [if_neg c3] at H;have c3b0:decide (x10_1 < (l1.length:Int))=false:=decide_eq_false c3;clear c3;obtain rfl:=Option.some.inj H;go_wp2
    go_ret
    exact ⟨_,by first|rfl|(simp [errW_none,errW_some] <;> rfl)|(simp [*,errW_none,errW_some] <;> rfl),by (with_reducible repeat (first|apply rL|apply rN|apply rW));exact HO_5.out,by repeat (first|(with_reducible first|exact HB.out|apply qA|apply qD|apply qO)|exact HB.out)⟩

/-! ### impl_isMap_1_1: function 188 -/
def impl_isMap_1_1.f (k:Nat) (a0_0:Int) (l0_1:List Int) (a90_0:Int) (l90_1:List Int) (l91:List Int):Option (Bool):=if a0_0=a90_0 then ((impl_mapped.f k l91 l90_1).bind fun t346=>((slices_Equal_int_int.f k t346 l0_1).bind fun t349=>(some t349))) else (some false)
theorem impl_isMap_1_1.mono : ∀ a0 a1 a2 a3 a4 k,LeO (impl_isMap_1_1.f k a0 a1 a2 a3 a4) (impl_isMap_1_1.f (k + 1) a0 a1 a2 a3 a4):=by
 intro a0 a1 a2 a3 a4 k;unfold impl_isMap_1_1.f
 repeat' first
   | (with_reducible exact impl_mapped.mono _ _ _)
   | (with_reducible exact slices_Equal_int_int.mono _ _ _)
   | (with_reducible exact LeO.refl _)
   | (with_reducible exact LeO.none _)
   | (with_reducible refine LeO.ite ?_ ?_)
   | (with_reducible refine LeO.bind ?_ (fun _=>?_))
   | exact impl_mapped.mono _ _ _
   | exact slices_Equal_int_int.mono _ _ _
   | exact LeO.none _
   | refine LeO.ite ?_ ?_
   | refine LeO.bind ?_ (fun _=>?_)
def impl_isMap_1_1.T1 : Bool × List (List Nat × List Nat):=(true,[([],[]),([0],[0]),([],[]),([2],[2]),([1,3],[1,3]),([4],[4]),([5],[5]),([5],[5]),([7,5],[5,7]),([6,8,5,5],[5,6,8]),([5],[5]),([10,5],[5,10]),([9,11,9,5],[5,9,11]),([5,12],[5,12]),([13,12,0,1,2,3,4,5,6,7,8,9,10,11,12,13],[13])])
def impl_isMap_1_1.B1 : List Nat:=[0,1,0,4,15,31,63,63,191,511,63,1087,4095,8191,16383]
theorem impl_isMap_1_1.tab1 : rtab .any (opsOf Try.f188 1)=impl_isMap_1_1.T1:=by kernel_rfl
theorem impl_isMap_1_1.bits1 : waitsOk impl_isMap_1_1.T1.2 impl_isMap_1_1.B1=true:=by kernel_rfl
set_option maxHeartbeats 8000000 in
set_option maxRecDepth 100000 in
theorem impl_isMap_1_1.calls (k:Nat) (a0_0:Int) (A0_1:Option Addr) (c0_1:Nat) (l0_1:List Int) (B0:Nat) (a90_0:Int) (A90_1:Option Addr) (c90_1:Nat) (l90_1:List Int) (B1:Nat) (A91:Option Addr) (c91:Nat) (l91:List Int) (r:Bool) (w:World) (hr0_1:Kd.C (Kd.int .i64) w A0_1 l0_1.length l0_1) (hc0_1:l0_1.length≤c0_1) (hr90_1:Kd.C (Kd.int .i64) w A90_1 l90_1.length l90_1) (hc90_1:l90_1.length≤c90_1) (hr91:Kd.C (Kd.int .i64) w A91 l91.length l91) (hc91:l91.length≤c91) (hq0:w.heap[B0]?=some (.cells #[.int .i64 a90_0,.slice A90_1 l90_1.length c90_1] 97 (0,0))) (hq1:w.heap[B1]?=some (.cells #[.slice A91 l91.length c91] 22 (0,0))) (h:impl_isMap_1_1.f k a0_0 l0_1 a90_0 l90_1 l91=some r) :
  Calls Try.prog 188 #[.agg #[.int .i64 a0_0,.slice A0_1 l0_1.length c0_1],.pointer (some ⟨B0,0,none⟩),.pointer (some ⟨B1,0,none⟩)] w fun e w'=>e=.returned (.bool r)∧Below w.heap.size w w':=by
 have hu97:=Try.underlying97;have HR0_1:=qK hr0_1;have HC0_1:=qK hc0_1;clear hr0_1 hc0_1;have HR90_1:=qK hr90_1;have HC90_1:=qK hc90_1;clear hr90_1 hc90_1;have BK343:=qK hq0;clear hq0;have HR91:=qK hr91;have HC91:=qK hc91;clear hr91 hc91;have BK344:=qK hq1;clear hq1;have HB:=qK (Below.refl w.heap.size w);have H:(if a0_0=a90_0 then ((impl_mapped.f k l91 l90_1).bind fun t346=>((slices_Equal_int_int.f k t346 l0_1).bind fun t349=>(some t349))) else (some false))=some r:=h;clear h;by_cases c2:a0_0=a90_0
 ·rw [if_pos c2] at H;have c2b0:(a0_0 == a90_0)=true:=beq_iff_eq.mpr c2;have c2b1:(a0_0 != a90_0)=false:=bne_eq_false_iff_eq.mpr c2;clear c2;replace H:=Option.bind_eq_some_iff.mp H;obtain ⟨t346,A30,H⟩:=H;replace H:((slices_Equal_int_int.f k t346 l0_1).bind fun t349=>(some t349))=some r:=H;have A3:=qK A30;clear A30;replace H:=Option.bind_eq_some_iff.mp H;obtain ⟨t349,A40,H⟩:=H;replace H:(some t349)=some r:=H;have A4:=qK A40;clear A40;obtain rfl:=Option.some.inj H;go_enter Try.func188,Try.ntmps188
  try go_wp2_with (first|((with_reducible refine gate_dst (N:=3) rfl ?_);refine box_event ?hg (N:=3) ?hd (cs:=#[.int .i64 a0_0,.slice A0_1 l0_1.length c0_1]) (t:=97) ?hr ?_;(case hd=>rfl);(case hg=>rfl);(case hr=>(go_simp;try rfl));intro gb345 hg w5 hbox hb;have n0_:=qK (qB (g:=B0) (o:=_) (by (with_reducible repeat (first|refine qN ?_ _|refine qW ?_|refine qL ?_ _));exact BK343.out) hb);have n1_:=qK (qB (g:=B1) (o:=_) (by (with_reducible repeat (first|refine qN ?_ _|refine qW ?_|refine qL ?_ _));exact BK344.out) hb);have n2_:=qK (qT (by repeat (with_reducible first|exact HB.out|apply qA|apply qD|apply qO|refine qS ?_ GE343.out|refine qS ?_ GE344.out)) hb);have n3_:=qK (hbox);have n4_:=qK ((by rw [hg];exact (qZ (by repeat (with_reducible first|exact HB.out|apply qA|apply qD|apply qO|refine qS ?_ GE343.out|refine qS ?_ GE344.out))):w.heap.size≤gb345));have n5_:=qK ((by rw [hg];exact (qZ (by repeat (with_reducible first|exact HB.out|apply qA|apply qD|apply qO|refine qS ?_ GE343.out|refine qS ?_ GE344.out))):w.heap.size≤gb345));have n6_:=qK ((by rw [hg];exact Nat.ne_of_lt (blk_lt (g:=B0) (o:=_) (by (with_reducible repeat (first|refine qN ?_ _|refine qW ?_|refine qL ?_ _));exact BK343.out)):B0 ≠ gb345));have n7_:=qK ((by rw [hg];exact Nat.ne_of_gt (blk_lt (g:=B0) (o:=_) (by (with_reducible repeat (first|refine qN ?_ _|refine qW ?_|refine qL ?_ _));exact BK343.out)):gb345 ≠ B0));have n8_:=qK ((by rw [hg];exact Nat.ne_of_lt (blk_lt (g:=B1) (o:=_) (by (with_reducible repeat (first|refine qN ?_ _|refine qW ?_|refine qL ?_ _));exact BK344.out)):B1 ≠ gb345));have n9_:=qK ((by rw [hg];exact Nat.ne_of_gt (blk_lt (g:=B1) (o:=_) (by (with_reducible repeat (first|refine qN ?_ _|refine qW ?_|refine qL ?_ _));exact BK344.out)):gb345 ≠ B1));clear BK343;clear BK344;clear HB;have BK343:=n0_;have BK344:=n1_;have HB:=n2_;have BK345:=n3_;have GW345:=n4_;have GE345:=n5_;have NB343_345:=n6_;have NB345_343:=n7_;have NB344_345:=n8_;have NB345_344:=n9_;clear n0_ n1_ n2_ n3_ n4_ n5_ n6_ n7_ n8_ n9_;clear hb hbox hg))
  have n0_:=qK (qW BK343.out);have n1_:=qK (qW BK344.out);have n2_:=qK (qW BK345.out);have n3_:=qK (qO HB.out);clear BK343;clear BK344;clear BK345;clear HB;have BK343:=n0_;have BK344:=n1_;have BK345:=n2_;have HB:=n3_;clear n0_ n1_ n2_ n3_;refine start_ (n:=15) (S:=fun w'=>w'.cell? ⟨gb345,0,none⟩=some (.int .i64 a0_0)∧w'.cell? ⟨gb345,1,none⟩=some (.slice A0_1 l0_1.length c0_1)∧w'.cell? ⟨B0,0,none⟩=some (.int .i64 a90_0)∧w'.cell? ⟨B0,1,none⟩=some (.slice A90_1 l90_1.length c90_1)∧w'.cell? ⟨B1,0,none⟩=some (.slice A91 l91.length c91)) (ds:=[]) #[Z,Z,Z,Z,Z,Z,Z,Z,Z,Z,Z,Z,Z,Z,Z] (by kernel_rfl) rfl rfl ⟨(qC BK345.out 0).trans rfl,(qC BK345.out 1).trans rfl,(qC BK343.out 0).trans rfl,(qC BK343.out 1).trans rfl,(qC BK344.out 0).trans rfl⟩ (fun hHeld=>?_);refine with_tabW impl_isMap_1_1.tab1 impl_isMap_1_1.bits1 (fun HT_ HW_=>?_);generalize w5.drew=w6 at BK343 BK344 BK345 HB hHeld ⊢
  refine pure_ (i:=0) (N:=some 5) (v:=?_) (a':=?_) #[Y,Z,Z,Z,Z,Z,Z,Z,Z,Z,Z,Z,Z,Z,Z] rfl rfl (any_of HT_.out (by kernel_rfl)) (fun _ _ _ h=>h) (Or.inl ⟨by rfl,?_⟩) ?_ ?_;rotate_left
  ·intro w';go_simp;with_reducible rfl
  rotate_left
  ·simp only [Act.put,sIb,sZ,sS,i64_w,i32_w];rfl
  refine pure_ (i:=2) (N:=some 7) (v:=?_) (a':=?_) #[Y,Z,Y,Z,Z,Z,Z,Z,Z,Z,Z,Z,Z,Z,Z] rfl rfl (any_of HT_.out (by kernel_rfl)) (fun _ _ _ h=>h) (Or.inl ⟨by rfl,?_⟩) ?_ ?_;rotate_left
  ·intro w';go_simp;with_reducible rfl
  rotate_left
  ·simp only [Act.put,sIb,sZ,sS,i64_w,i32_w];rfl
  refine take_ (i:=1) (N:=some 6) (v:=?_) (a':=?_) #[Y,Y,Y,Z,Z,Z,Z,Z,Z,Z,Z,Z,Z,Z,Z] rfl rfl (take_ofW HT_.out HW_.out (by kernel_rfl)) (fun _ _ _ h=>h) (Or.inl ⟨by rfl,?_⟩) hHeld ?_ ?_;rotate_left
  ·rintro w' ⟨s0,s1,s2,s3,s4⟩;go_simp;with_reducible rfl
  rotate_left
  ·simp only [Act.put,sIb,sZ,sS,i64_w,i32_w];rfl
  refine take_ (i:=3) (N:=some 8) (v:=?_) (a':=?_) #[Y,Y,Y,Y,Z,Z,Z,Z,Z,Z,Z,Z,Z,Z,Z] rfl rfl (take_ofW HT_.out HW_.out (by kernel_rfl)) (fun _ _ _ h=>h) (Or.inl ⟨by rfl,?_⟩) hHeld ?_ ?_;rotate_left
  ·rintro w' ⟨s0,s1,s2,s3,s4⟩;go_simp;with_reducible rfl
  rotate_left
  ·simp only [Act.put,sIb,sZ,sS,i64_w,i32_w];rfl
  refine pure_ (i:=4) (N:=some 9) (v:=?_) (a':=?_) #[Y,Y,Y,Y,Y,Z,Z,Z,Z,Z,Z,Z,Z,Z,Z] rfl rfl (any_of HT_.out (by kernel_rfl)) (fun _ _ _ h=>h) (Or.inl ⟨by rfl,?_⟩) ?_ ?_;rotate_left
  ·intro w';go_simp;with_reducible rfl
  rotate_left
  ·simp only [Act.put,sIb,sZ,sS,i64_w,i32_w];rfl
  refine pure_ (i:=5) (N:=some 10) (v:=?_) (a':=?_) #[Y,Y,Y,Y,Y,Y,Z,Z,Z,Z,Z,Z,Z,Z,Z] rfl rfl (any_of HT_.out (by kernel_rfl)) (fun _ _ _ h=>h) (Or.inl ⟨by rfl,?_⟩) ?_ ?_;rotate_left
  ·intro w';go_simp;with_reducible rfl
  rotate_left
  ·simp only [Act.put,sIb,sZ,sS,i64_w,i32_w];rfl
  refine pure_ (i:=7) (N:=some 12) (v:=?_) (a':=?_) #[Y,Y,Y,Y,Y,Y,Z,Y,Z,Z,Z,Z,Z,Z,Z] rfl rfl (any_of HT_.out (by kernel_rfl)) (fun _ _ _ h=>h) (Or.inl ⟨by rfl,?_⟩) ?_ ?_;rotate_left
  ·intro w';go_simp;with_reducible rfl
  rotate_left
  ·simp only [Act.put,sIb,sZ,sS,i64_w,i32_w];rfl
  refine pure_ (i:=10) (N:=some 15) (v:=?_) (a':=?_) #[Y,Y,Y,Y,Y,Y,Z,Y,Z,Z,Y,Z,Z,Z,Z] rfl rfl (any_of HT_.out (by kernel_rfl)) (fun _ _ _ h=>h) (Or.inl ⟨by rfl,?_⟩) ?_ ?_;rotate_left
  ·intro w';go_simp;with_reducible rfl
  rotate_left
  ·simp only [Act.put,sIb,sZ,sS,i64_w,i32_w];rfl
  refine take_ (i:=6) (N:=some 11) (v:=?_) (a':=?_) #[Y,Y,Y,Y,Y,Y,Y,Y,Z,Z,Y,Z,Z,Z,Z] rfl rfl (take_ofW HT_.out HW_.out (by kernel_rfl)) (fun _ _ _ h=>h) (Or.inl ⟨by rfl,?_⟩) hHeld ?_ ?_;rotate_left
  ·rintro w' ⟨s0,s1,s2,s3,s4⟩;go_simp;with_reducible rfl
  rotate_left
  ·simp only [Act.put,sIb,sZ,sS,i64_w,i32_w];rfl
  refine take_ (i:=8) (N:=some 13) (v:=?_) (a':=?_) #[Y,Y,Y,Y,Y,Y,Y,Y,Y,Z,Y,Z,Z,Z,Z] rfl rfl (take_ofW HT_.out HW_.out (by kernel_rfl)) (fun _ _ _ h=>h) (Or.inl ⟨by rfl,?_⟩) hHeld ?_ ?_;rotate_left
  ·rintro w' ⟨s0,s1,s2,s3,s4⟩;go_simp;with_reducible rfl
  rotate_left
  ·simp only [Act.put,sIb,sZ,sS,i64_w,i32_w];rfl
  refine take_ (i:=11) (N:=some 16) (v:=?_) (a':=?_) #[Y,Y,Y,Y,Y,Y,Y,Y,Y,Z,Y,Y,Z,Z,Z] rfl rfl (take_ofW HT_.out HW_.out (by kernel_rfl)) (fun _ _ _ h=>h) (Or.inl ⟨by rfl,?_⟩) hHeld ?_ ?_;rotate_left
  ·rintro w' ⟨s0,s1,s2,s3,s4⟩;go_simp;with_reducible rfl
  rotate_left
  ·simp only [Act.put,sIb,sZ,sS,i64_w,i32_w];rfl
  refine one_ (i:=9) (N:=some 14) #[Y,Y,Y,Y,Y,Y,Y,Y,Y,Y,Y,Y,Z,Z,Z] rfl rfl (one_of HT_.out (by kernel_rfl)) (by decide) (fun K hK=>?_);refine goes_ Try.func186 (by kernel_rfl) rfl #[.slice A91 l91.length c91,.slice A90_1 l90_1.length c90_1] (by rfl) rfl rfl (by (try simp only [mT,mC,mN]);first|done|rfl|(simp only [lD,lT];rfl)) ?_;with_reducible refine (impl_mapped.calls k _ _ l91 _ _ l90_1 t346 _ ?side1 ?side2 ?side3 ?side4 A3.out).mono ?_
  (case side1=>repeat (first|exact (cB HR91.out HB.out)|(with_reducible first|refine cL ?_ _|refine cN ?_ _|refine cW ?_)));(case side2=>exact HC91.out);(case side3=>repeat (first|exact (cB HR90_1.out HB.out)|(with_reducible first|refine cL ?_ _|refine cN ?_ _|refine cW ?_)));(case side4=>exact HC90_1.out);rintro e w7 ⟨v347,rfl,ho0,hb⟩;refine ⟨_,rfl,?_⟩;have n0_:=qK (Kd.R_lower ho0 (qZ (by repeat (with_reducible first|exact HB.out|apply qA|apply qD|apply qO|refine qS ?_ GE343.out|refine qS ?_ GE344.out|refine qS ?_ GE345.out))));have n1_:=qK (qB (g:=B0) (o:=_) (by (with_reducible repeat (first|refine qN ?_ _|refine qW ?_|refine qL ?_ _));exact BK343.out) hb);have n2_:=qK (qB (g:=B1) (o:=_) (by (with_reducible repeat (first|refine qN ?_ _|refine qW ?_|refine qL ?_ _));exact BK344.out) hb);have n3_:=qK (qB (g:=gb345) (o:=_) (by (with_reducible repeat (first|refine qN ?_ _|refine qW ?_|refine qL ?_ _));exact BK345.out) hb);have n4_:=qK (qT (by repeat (with_reducible first|exact HB.out|apply qA|apply qD|apply qO|refine qS ?_ GE343.out|refine qS ?_ GE344.out|refine qS ?_ GE345.out)) hb);clear BK343;clear BK344;clear BK345;clear HB;have HO348:=n0_;have BK343:=n1_;have BK344:=n2_;have BK345:=n3_;have HB:=n4_;clear n0_ n1_ n2_ n3_ n4_;(try clear hb);(try clear ho0);obtain ⟨Ao8,co8,eo8⟩:=Kd.R_slice HO348.out;(first|subst eo8|(injection eo8 with f1_ f2_ f3_;have f4_:=f1_.symm;have f5_:=f3_.symm;clear f1_ f2_ f3_;subst f4_;subst f5_));refine hK.out _ _ ⟨(qC BK345.out 0).trans rfl,(qC BK345.out 1).trans rfl,(qC BK343.out 0).trans rfl,(qC BK343.out 1).trans rfl,(qC BK344.out 0).trans rfl⟩ (fun hHeld=>?_);clear hK K;refine norm_ (a':=?_) ?_ ?_;rotate_left
  ·show Act.put _ (some 14) _=_
   simp only [Act.put,sIb,sZ,sS,i64_w,i32_w];rfl
  refine one_ (i:=12) (N:=some 17) #[Y,Y,Y,Y,Y,Y,Y,Y,Y,Y,Y,Y,Y,Z,Z] rfl rfl (one_of HT_.out (by kernel_rfl)) (by decide) (fun K hK=>?_);refine goes_ Try.func185 (by kernel_rfl) rfl #[.slice Ao8 t346.length co8,.slice A0_1 l0_1.length c0_1] (by rfl) rfl rfl (by (try simp only [mT,mC,mN]);first|done|rfl|(simp only [lD,lT];rfl)) ?_;with_reducible refine (slices_Equal_int_int.calls k _ _ t346 _ _ l0_1 t349 _ ?side1 ?side2 ?side3 ?side4 A4.out).mono ?_
  (case side1=>repeat (first|exact (Kd.R_reads' HO348.out).2.2|(with_reducible first|refine cL ?_ _|refine cN ?_ _|refine cW ?_)));(case side2=>exact (Kd.R_reads' HO348.out).2.1);(case side3=>repeat (first|exact (cB HR0_1.out HB.out)|(with_reducible first|refine cL ?_ _|refine cN ?_ _|refine cW ?_)));(case side4=>exact HC0_1.out);rintro e w' ⟨rfl,⟨nd,rfl⟩⟩;refine ⟨_,rfl,?_⟩;refine hK.out _ _ ⟨(qC BK345.out 0).trans rfl,(qC BK345.out 1).trans rfl,(qC BK343.out 0).trans rfl,(qC BK343.out 1).trans rfl,(qC BK344.out 0).trans rfl⟩ (fun hHeld=>?_);clear hK K;refine norm_ (a':=?_) ?_ ?_;rotate_left
  ·show Act.put _ (some 17) _=_
   simp only [Act.put,sIb,sZ,sS,i64_w,i32_w];rfl
  refine pure_ (i:=13) (N:=some 18) (v:=?_) (a':=?_) #[Y,Y,Y,Y,Y,Y,Y,Y,Y,Y,Y,Y,Y,Y,Z] rfl rfl (any_of HT_.out (by kernel_rfl)) (fun _ _ _ h=>h) (Or.inl ⟨by rfl,?_⟩) ?_ ?_;rotate_left
  ·intro w';go_simp;with_reducible rfl
  rotate_left
  ·simp only [Act.put,sIb,sZ,sS,i64_w,i32_w];rfl
  refine pure_ (i:=14) (N:=some 4) (v:=?_) (a':=?_) #[Y,Y,Y,Y,Y,Y,Y,Y,Y,Y,Y,Y,Y,Y,Y] rfl rfl (any_of HT_.out (by kernel_rfl)) (fun _ _ _ h=>h) (Or.inl ⟨by rfl,?_⟩) ?_ ?_;rotate_left
  ·intro w';go_simp;with_reducible rfl
  rotate_left
  ·simp only [Act.put,sIb,sZ,sS,i64_w,i32_w];rfl
  refine done_ (done_of HT_.out (by kernel_rfl)) ?_;try go_wp2
  go_ret
  exact ⟨by first|rfl|(simp [errW_none,errW_some] <;> rfl)|(simp [*,errW_none,errW_some] <;> rfl),by repeat (first|(with_reducible first|exact HB.out|apply qA|apply qD|apply qO|refine qS ?_ GE343.out|refine qS ?_ GE344.out|refine qS ?_ GE345.out)|exact HB.out)⟩
 ·rw [if_neg c2] at H;have c2b0:(a0_0 == a90_0)=false:=beq_eq_false_iff_ne.mpr c2;have c2b1:(a0_0 != a90_0)=true:=bne_iff_ne.mpr c2;obtain rfl:=Option.some.inj H;go_enter Try.func188,Try.ntmps188
  try go_wp2_with (first|((with_reducible refine gate_dst (N:=3) rfl ?_);refine box_event ?hg (N:=3) ?hd (cs:=#[.int .i64 a0_0,.slice A0_1 l0_1.length c0_1]) (t:=97) ?hr ?_;(case hd=>rfl);(case hg=>rfl);(case hr=>(go_simp;try rfl));intro gb345 hg w9 hbox hb;have n0_:=qK (qB (g:=B0) (o:=_) (by (with_reducible repeat (first|refine qN ?_ _|refine qW ?_|refine qL ?_ _));exact BK343.out) hb);have n1_:=qK (qB (g:=B1) (o:=_) (by (with_reducible repeat (first|refine qN ?_ _|refine qW ?_|refine qL ?_ _));exact BK344.out) hb);have n2_:=qK (qT (by repeat (with_reducible first|exact HB.out|apply qA|apply qD|apply qO|refine qS ?_ GE343.out|refine qS ?_ GE344.out)) hb);have n3_:=qK (hbox);have n4_:=qK ((by rw [hg];exact (qZ (by repeat (with_reducible first|exact HB.out|apply qA|apply qD|apply qO|refine qS ?_ GE343.out|refine qS ?_ GE344.out))):w.heap.size≤gb345));have n5_:=qK ((by rw [hg];exact (qZ (by repeat (with_reducible first|exact HB.out|apply qA|apply qD|apply qO|refine qS ?_ GE343.out|refine qS ?_ GE344.out))):w.heap.size≤gb345));have n6_:=qK ((by rw [hg];exact Nat.ne_of_lt (blk_lt (g:=B0) (o:=_) (by (with_reducible repeat (first|refine qN ?_ _|refine qW ?_|refine qL ?_ _));exact BK343.out)):B0 ≠ gb345));have n7_:=qK ((by rw [hg];exact Nat.ne_of_gt (blk_lt (g:=B0) (o:=_) (by (with_reducible repeat (first|refine qN ?_ _|refine qW ?_|refine qL ?_ _));exact BK343.out)):gb345 ≠ B0));have n8_:=qK ((by rw [hg];exact Nat.ne_of_lt (blk_lt (g:=B1) (o:=_) (by (with_reducible repeat (first|refine qN ?_ _|refine qW ?_|refine qL ?_ _));exact BK344.out)):B1 ≠ gb345));have n9_:=qK ((by rw [hg];exact Nat.ne_of_gt (blk_lt (g:=B1) (o:=_) (by (with_reducible repeat (first|refine qN ?_ _|refine qW ?_|refine qL ?_ _));exact BK344.out)):gb345 ≠ B1));clear BK343;clear BK344;clear HB;have BK343:=n0_;have BK344:=n1_;have HB:=n2_;have BK345:=n3_;have GW345:=n4_;have GE345:=n5_;have NB343_345:=n6_;have NB345_343:=n7_;have NB344_345:=n8_;have NB345_344:=n9_;clear n0_ n1_ n2_ n3_ n4_ n5_ n6_ n7_ n8_ n9_;clear hb hbox hg))
  have n0_:=qK (qW BK343.out);have n1_:=qK (qW BK344.out);have n2_:=qK (qW BK345.out);have n3_:=qK (qO HB.out);clear BK343;clear BK344;clear BK345;clear HB;have BK343:=n0_;have BK344:=n1_;have BK345:=n2_;have HB:=n3_;clear n0_ n1_ n2_ n3_;refine start_ (n:=15) (S:=fun w'=>w'.cell? ⟨gb345,0,none⟩=some (.int .i64 a0_0)∧w'.cell? ⟨gb345,1,none⟩=some (.slice A0_1 l0_1.length c0_1)∧w'.cell? ⟨B0,0,none⟩=some (.int .i64 a90_0)∧w'.cell? ⟨B0,1,none⟩=some (.slice A90_1 l90_1.length c90_1)) (ds:=[]) #[Z,Z,Z,Z,Z,Z,Z,Z,Z,Z,Z,Z,Z,Z,Z] (by kernel_rfl) rfl rfl ⟨(qC BK345.out 0).trans rfl,(qC BK345.out 1).trans rfl,(qC BK343.out 0).trans rfl,(qC BK343.out 1).trans rfl⟩ (fun hHeld=>?_);refine with_tabW impl_isMap_1_1.tab1 impl_isMap_1_1.bits1 (fun HT_ HW_=>?_);generalize w9.drew=w10 at BK343 BK344 BK345 HB hHeld ⊢
  refine pure_ (i:=0) (N:=some 5) (v:=?_) (a':=?_) #[Y,Z,Z,Z,Z,Z,Z,Z,Z,Z,Z,Z,Z,Z,Z] rfl rfl (any_of HT_.out (by kernel_rfl)) (fun _ _ _ h=>h) (Or.inl ⟨by rfl,?_⟩) ?_ ?_;rotate_left
  ·intro w';go_simp;with_reducible rfl
  rotate_left
  ·simp only [Act.put,sIb,sZ,sS,i64_w,i32_w];rfl
  refine pure_ (i:=2) (N:=some 7) (v:=?_) (a':=?_) #[Y,Z,Y,Z,Z,Z,Z,Z,Z,Z,Z,Z,Z,Z,Z] rfl rfl (any_of HT_.out (by kernel_rfl)) (fun _ _ _ h=>h) (Or.inl ⟨by rfl,?_⟩) ?_ ?_;rotate_left
  ·intro w';go_simp;with_reducible rfl
  rotate_left
  ·simp only [Act.put,sIb,sZ,sS,i64_w,i32_w];rfl
  refine take_ (i:=1) (N:=some 6) (v:=?_) (a':=?_) #[Y,Y,Y,Z,Z,Z,Z,Z,Z,Z,Z,Z,Z,Z,Z] rfl rfl (take_ofW HT_.out HW_.out (by kernel_rfl)) (fun _ _ _ h=>h) (Or.inl ⟨by rfl,?_⟩) hHeld ?_ ?_;rotate_left
  ·rintro w' ⟨s0,s1,s2,s3⟩;go_simp;with_reducible rfl
  rotate_left
  ·simp only [Act.put,sIb,sZ,sS,i64_w,i32_w];rfl
  refine take_ (i:=3) (N:=some 8) (v:=?_) (a':=?_) #[Y,Y,Y,Y,Z,Z,Z,Z,Z,Z,Z,Z,Z,Z,Z] rfl rfl (take_ofW HT_.out HW_.out (by kernel_rfl)) (fun _ _ _ h=>h) (Or.inl ⟨by rfl,?_⟩) hHeld ?_ ?_;rotate_left
  ·rintro w' ⟨s0,s1,s2,s3⟩;go_simp;with_reducible rfl
  rotate_left
  ·simp only [Act.put,sIb,sZ,sS,i64_w,i32_w];rfl
  refine pure_ (i:=4) (N:=some 9) (v:=?_) (a':=?_) #[Y,Y,Y,Y,Y,Z,Z,Z,Z,Z,Z,Z,Z,Z,Z] rfl rfl (any_of HT_.out (by kernel_rfl)) (fun _ _ _ h=>h) (Or.inl ⟨by rfl,?_⟩) ?_ ?_;rotate_left
  ·intro w';go_simp;with_reducible rfl
  rotate_left
  ·simp only [Act.put,sIb,sZ,sS,i64_w,i32_w];rfl
  refine pure_ (i:=5) (N:=some 10) (v:=?_) (a':=?_) #[Y,Y,Y,Y,Y,Y,Z,Z,Z,Z,Z,Z,Z,Z,Z] rfl rfl (any_of HT_.out (by kernel_rfl)) (fun _ _ _ h=>h) (Or.inl ⟨by rfl,?_⟩) ?_ ?_;rotate_left
  ·intro w';go_simp;with_reducible rfl
  rotate_left
  ·simp only [Act.put,sIb,sZ,sS,i64_w,i32_w];rfl
  refine pure_ (i:=6) (N:=some 11) (v:=undef) (a':=?_) #[Y,Y,Y,Y,Y,Y,Y,Z,Z,Z,Z,Z,Z,Z,Z] rfl rfl (any_of HT_.out (by kernel_rfl)) (fun _ _ _ h=>h) (Or.inr ⟨by rfl,rfl⟩) ?_ ?_;rotate_left
  ·simp only [Act.put,sIb,sZ,sS,i64_w,i32_w];rfl
  refine pure_ (i:=7) (N:=some 12) (v:=undef) (a':=?_) #[Y,Y,Y,Y,Y,Y,Y,Y,Z,Z,Z,Z,Z,Z,Z] rfl rfl (any_of HT_.out (by kernel_rfl)) (fun _ _ _ h=>h) (Or.inr ⟨by rfl,rfl⟩) ?_ ?_;rotate_left
  ·simp only [Act.put,sIb,sZ,sS,i64_w,i32_w];rfl
  refine pure_ (i:=8) (N:=some 13) (v:=undef) (a':=?_) #[Y,Y,Y,Y,Y,Y,Y,Y,Y,Z,Z,Z,Z,Z,Z] rfl rfl (any_of HT_.out (by kernel_rfl)) (fun _ _ _ h=>h) (Or.inr ⟨by rfl,rfl⟩) ?_ ?_;rotate_left
  ·simp only [Act.put,sIb,sZ,sS,i64_w,i32_w];rfl
  refine pure_ (i:=9) (N:=some 14) (v:=undef) (a':=?_) #[Y,Y,Y,Y,Y,Y,Y,Y,Y,Y,Z,Z,Z,Z,Z] rfl rfl (any_of HT_.out (by kernel_rfl)) (fun _ _ _ h=>h) (Or.inr ⟨by rfl,rfl⟩) ?_ ?_;rotate_left
  ·simp only [Act.put,sIb,sZ,sS,i64_w,i32_w];rfl
  refine pure_ (i:=10) (N:=some 15) (v:=undef) (a':=?_) #[Y,Y,Y,Y,Y,Y,Y,Y,Y,Y,Y,Z,Z,Z,Z] rfl rfl (any_of HT_.out (by kernel_rfl)) (fun _ _ _ h=>h) (Or.inr ⟨by rfl,rfl⟩) ?_ ?_;rotate_left
  ·simp only [Act.put,sIb,sZ,sS,i64_w,i32_w];rfl
  refine pure_ (i:=11) (N:=some 16) (v:=undef) (a':=?_) #[Y,Y,Y,Y,Y,Y,Y,Y,Y,Y,Y,Y,Z,Z,Z] rfl rfl (any_of HT_.out (by kernel_rfl)) (fun _ _ _ h=>h) (Or.inr ⟨by rfl,rfl⟩) ?_ ?_;rotate_left
  ·simp only [Act.put,sIb,sZ,sS,i64_w,i32_w];rfl
  refine pure_ (i:=12) (N:=some 17) (v:=undef) (a':=?_) #[Y,Y,Y,Y,Y,Y,Y,Y,Y,Y,Y,Y,Y,Z,Z] rfl rfl (any_of HT_.out (by kernel_rfl)) (fun _ _ _ h=>h) (Or.inr ⟨by rfl,rfl⟩) ?_ ?_;rotate_left
  ·simp only [Act.put,sIb,sZ,sS,i64_w,i32_w];rfl
  refine pure_ (i:=13) (N:=some 18) (v:=?_) (a':=?_) #[Y,Y,Y,Y,Y,Y,Y,Y,Y,Y,Y,Y,Y,Y,Z] rfl rfl (any_of HT_.out (by kernel_rfl)) (fun _ _ _ h=>h) (Or.inl ⟨by rfl,?_⟩) ?_ ?_;rotate_left
  ·intro w';go_simp;with_reducible rfl
  rotate_left
  ·simp only [Act.put,sIb,sZ,sS,i64_w,i32_w];rfl
  refine pure_ (i:=14) (N:=some 4) (v:=?_) (a':=?_) #[Y,Y,Y,Y,Y,Y,Y,Y,Y,Y,Y,Y,Y,Y,Y] rfl rfl (any_of HT_.out (by kernel_rfl)) (fun _ _ _ h=>h) (Or.inl ⟨by rfl,?_⟩) ?_ ?_;rotate_left
  ·intro w';go_simp;with_reducible rfl
  rotate_left
  ·simp only [Act.put,sIb,sZ,sS,i64_w,i32_w];rfl
  refine done_ (done_of HT_.out (by kernel_rfl)) ?_;try go_wp2
  go_ret
  exact ⟨by first|rfl|(simp [errW_none,errW_some] <;> rfl)|(simp [*,errW_none,errW_some] <;> rfl),by repeat (first|(with_reducible first|exact HB.out|apply qA|apply qD|apply qO|refine qS ?_ GE343.out|refine qS ?_ GE344.out|refine qS ?_ GE345.out)|exact HB.out)⟩

/-! ### anyf_impl_isMap_1_1: function 163, handed function 188 -/
def anyf_impl_isMap_1_1.f (k : Nat) (l : List S97) (a90_0 : Int) (l90_1 : List Int) (l91 : List Int) : Option Bool := if l.all (fun d => (impl_isMap_1_1.f k d.f0 d.f1 a90_0 l90_1 l91).isSome) = true then some (l.any (fun d => (impl_isMap_1_1.f k d.f0 d.f1 a90_0 l90_1 l91).getD false)) else none
theorem anyf_impl_isMap_1_1.mono : ∀ a0_ a1_ a2_ a3_ k, LeO (anyf_impl_isMap_1_1.f k a0_ a1_ a2_ a3_) (anyf_impl_isMap_1_1.f (k + 1) a0_ a1_ a2_ a3_) := by
  intro l a90_0 l90_1 l91 k r h
  unfold anyf_impl_isMap_1_1.f at h ⊢
  by_cases hs : l.all (fun d => (impl_isMap_1_1.f k d.f0 d.f1 a90_0 l90_1 l91).isSome) = true
  case neg => rw [if_neg hs] at h; cases h
  rw [if_pos hs] at h
  have hx : ∀ d ∈ l, impl_isMap_1_1.f (k + 1) d.f0 d.f1 a90_0 l90_1 l91 = impl_isMap_1_1.f k d.f0 d.f1 a90_0 l90_1 l91 := by
    intro d hd
    obtain ⟨r, hr⟩ := Option.isSome_iff_exists.1 (List.all_eq_true.1 hs d hd)
    rw [hr]; exact impl_isMap_1_1.mono _ _ _ _ _ k r hr
  rw [if_pos (List.all_eq_true.2 fun d hd => by rw [hx d hd]; exact List.all_eq_true.1 hs d hd), ← h]
  congr 1
  exact any_same fun d hd => by rw [hx d hd]
theorem anyf_impl_isMap_1_1.calls (k : Nat) (A : Option Addr) (c : Nat) (l : List S97) (B0 : Nat) (a90_0 : Int) (A90_1 : Option Addr) (c90_1 : Nat) (l90_1 : List Int) (B1 : Nat) (A91 : Option Addr) (c91 : Nat) (l91 : List Int) (r : Bool) (w : World) (hr : Kd.C k97 w A l.length l) (hc : l.length ≤ c) (hr90_1 : Kd.C (Kd.int .i64) w A90_1 l90_1.length l90_1) (hc90_1 : l90_1.length ≤ c90_1) (hq0 : w.heap[B0]? = some (.cells #[.int .i64 a90_0, .slice A90_1 l90_1.length c90_1] 97 (0, 0))) (hr91 : Kd.C (Kd.int .i64) w A91 l91.length l91) (hc91 : l91.length ≤ c91) (hq1 : w.heap[B1]? = some (.cells #[.slice A91 l91.length c91] 22 (0, 0))) (h : anyf_impl_isMap_1_1.f k l a90_0 l90_1 l91 = some r) :
    Calls Try.prog 163 #[.slice A l.length c, .func (.func 188) #[] #[.pointer (some ⟨B0, 0, none⟩), .pointer (some ⟨B1, 0, none⟩)]] w fun e w' => e = .returned (.bool r) ∧ Below w.heap.size w w' := by
  unfold anyf_impl_isMap_1_1.f at h
  by_cases hs : l.all (fun d => (impl_isMap_1_1.f k d.f0 d.f1 a90_0 l90_1 l91).isSome) = true
  case neg => rw [if_neg hs] at h; cases h
  rw [if_pos hs] at h
  obtain rfl : l.any (fun d => (impl_isMap_1_1.f k d.f0 d.f1 a90_0 l90_1 l91).getD false) = r := Option.some.inj h
  refine anyf_Atom.calls A c l 188 _ _ w (enters_of Try.func188 (by kernel_rfl) rfl) hr ?_
  intro W d v hd hW hv
  obtain ⟨r_, hr_⟩ := Option.isSome_iff_exists.1 (List.all_eq_true.1 hs d hd)
  obtain ⟨cs, rfl, hK⟩ := hv
  obtain ⟨A1_, c1_, e_, l1_, g1_⟩ := k97_open hK
  subst e_
  refine (impl_isMap_1_1.calls (w := W) (hr0_1 := g1_) (hc0_1 := l1_) (hr90_1 := Kd.C_below hr90_1 hW) (hc90_1 := hc90_1) (hq0 := blk_below hq0 hW) (hr91 := Kd.C_below hr91 hW) (hc91 := hc91) (hq1 := blk_below hq1 hW) (h := hr_)).mono ?_
  rintro e w' ⟨rfl, hb⟩
  exact ⟨by show _ = Ending.returned (Value.bool ((impl_isMap_1_1.f k d.f0 d.f1 a90_0 l90_1 l91).getD false)); rw [hr_]; rfl, hb⟩

/-! ### impl_isMap_1: function 187 -/
def impl_isMap_1.f (k:Nat) (a0_0:Int) (l0_1:List Int) (l90_0:List Int) (l90_1:List (S97)) (l91:List Int):Option (Bool):=(anyf_impl_isMap_1_1.f k l90_1 a0_0 l0_1 l91).bind fun t353=>(some t353)
theorem impl_isMap_1.mono : ∀ a0 a1 a2 a3 a4 k,LeO (impl_isMap_1.f k a0 a1 a2 a3 a4) (impl_isMap_1.f (k + 1) a0 a1 a2 a3 a4):=by
 intro a0 a1 a2 a3 a4 k;unfold impl_isMap_1.f
 repeat' first
   | (with_reducible exact anyf_impl_isMap_1_1.mono _ _ _ _ _)
   | (with_reducible exact LeO.refl _)
   | (with_reducible exact LeO.none _)
   | (with_reducible refine LeO.ite ?_ ?_)
   | (with_reducible refine LeO.bind ?_ (fun _=>?_))
   | exact anyf_impl_isMap_1_1.mono _ _ _ _ _
   | exact LeO.none _
   | refine LeO.ite ?_ ?_
   | refine LeO.bind ?_ (fun _=>?_)
set_option maxHeartbeats 8000000 in
set_option maxRecDepth 100000 in
theorem impl_isMap_1.calls (k:Nat) (a0_0:Int) (A0_1:Option Addr) (c0_1:Nat) (l0_1:List Int) (B0:Nat) (A90_0:Option Addr) (c90_0:Nat) (l90_0:List Int) (A90_1:Option Addr) (c90_1:Nat) (l90_1:List (S97)) (B1:Nat) (A91:Option Addr) (c91:Nat) (l91:List Int) (r:Bool) (w:World) (hr0_1:Kd.C (Kd.int .i64) w A0_1 l0_1.length l0_1) (hc0_1:l0_1.length≤c0_1) (hr90_0:Kd.C (Kd.int .i64) w A90_0 l90_0.length l90_0) (hc90_0:l90_0.length≤c90_0) (hr90_1:Kd.C k97 w A90_1 l90_1.length l90_1) (hc90_1:l90_1.length≤c90_1) (hr91:Kd.C (Kd.int .i64) w A91 l91.length l91) (hc91:l91.length≤c91) (hq0:w.heap[B0]?=some (.cells #[.slice A90_0 l90_0.length c90_0,.slice A90_1 l90_1.length c90_1] 32 (0,0))) (hq1:w.heap[B1]?=some (.cells #[.slice A91 l91.length c91] 22 (0,0))) (h:impl_isMap_1.f k a0_0 l0_1 l90_0 l90_1 l91=some r) :
  Calls Try.prog 187 #[.agg #[.int .i64 a0_0,.slice A0_1 l0_1.length c0_1],.pointer (some ⟨B0,0,none⟩),.pointer (some ⟨B1,0,none⟩)] w fun e w'=>e=.returned (.bool r)∧Below w.heap.size w w':=by
 have hu97:=Try.underlying97;have HR0_1:=qK hr0_1;have HC0_1:=qK hc0_1;clear hr0_1 hc0_1;have HR90_0:=qK hr90_0;have HC90_0:=qK hc90_0;clear hr90_0 hc90_0;have HR90_1:=qK hr90_1;have HC90_1:=qK hc90_1;clear hr90_1 hc90_1;have BK350:=qK hq0;clear hq0;have HR91:=qK hr91;have HC91:=qK hc91;clear hr91 hc91;have BK351:=qK hq1;clear hq1;have HB:=qK (Below.refl w.heap.size w);have H:((anyf_impl_isMap_1_1.f k l90_1 a0_0 l0_1 l91).bind fun t353=>(some t353))=some r:=h;clear h;replace H:=Option.bind_eq_some_iff.mp H;obtain ⟨t353,A20,H⟩:=H;replace H:(some t353)=some r:=H;have A2:=qK A20;clear A20;obtain rfl:=Option.some.inj H;go_enter Try.func187,Try.ntmps187
 go_wp2_with (first|((with_reducible refine gate_dst (N:=3) rfl ?_);refine box_event ?hg (N:=3) ?hd (cs:=#[.int .i64 a0_0,.slice A0_1 l0_1.length c0_1]) (t:=97) ?hr ?_;(case hd=>rfl);(case hg=>rfl);(case hr=>(go_simp;try rfl));intro gb352 hg w3 hbox hb;have n0_:=qK (qB (g:=B0) (o:=_) (by (with_reducible repeat (first|refine qN ?_ _|refine qW ?_|refine qL ?_ _));exact BK350.out) hb);have n1_:=qK (qB (g:=B1) (o:=_) (by (with_reducible repeat (first|refine qN ?_ _|refine qW ?_|refine qL ?_ _));exact BK351.out) hb);have n2_:=qK (qT (by repeat (with_reducible first|exact HB.out|apply qA|apply qD|apply qO|refine qS ?_ GE350.out|refine qS ?_ GE351.out)) hb);have n3_:=qK (hbox);have n4_:=qK ((by rw [hg];exact (qZ (by repeat (with_reducible first|exact HB.out|apply qA|apply qD|apply qO|refine qS ?_ GE350.out|refine qS ?_ GE351.out))):w.heap.size≤gb352));have n5_:=qK ((by rw [hg];exact (qZ (by repeat (with_reducible first|exact HB.out|apply qA|apply qD|apply qO|refine qS ?_ GE350.out|refine qS ?_ GE351.out))):w.heap.size≤gb352));have n6_:=qK ((by rw [hg];exact Nat.ne_of_lt (blk_lt (g:=B0) (o:=_) (by (with_reducible repeat (first|refine qN ?_ _|refine qW ?_|refine qL ?_ _));exact BK350.out)):B0 ≠ gb352));have n7_:=qK ((by rw [hg];exact Nat.ne_of_gt (blk_lt (g:=B0) (o:=_) (by (with_reducible repeat (first|refine qN ?_ _|refine qW ?_|refine qL ?_ _));exact BK350.out)):gb352 ≠ B0));have n8_:=qK ((by rw [hg];exact Nat.ne_of_lt (blk_lt (g:=B1) (o:=_) (by (with_reducible repeat (first|refine qN ?_ _|refine qW ?_|refine qL ?_ _));exact BK351.out)):B1 ≠ gb352));have n9_:=qK ((by rw [hg];exact Nat.ne_of_gt (blk_lt (g:=B1) (o:=_) (by (with_reducible repeat (first|refine qN ?_ _|refine qW ?_|refine qL ?_ _));exact BK351.out)):gb352 ≠ B1));clear BK350;clear BK351;clear HB;have BK350:=n0_;have BK351:=n1_;have HB:=n2_;have BK352:=n3_;have GW352:=n4_;have GE352:=n5_;have NB350_352:=n6_;have NB352_350:=n7_;have NB351_352:=n8_;have NB352_351:=n9_;clear n0_ n1_ n2_ n3_ n4_ n5_ n6_ n7_ n8_ n9_;clear hb hbox hg;have hnb4:=NB350_352.out;have hnc4:=NB352_350.out;have hcz5_0:w3.cell? ⟨B0,0,none⟩=some (.slice A90_0 l90_0.length c90_0):=(qC BK350.out 0).trans rfl;have hcz5_1:w3.cell? ⟨B0,1,none⟩=some (.slice A90_1 l90_1.length c90_1):=(qC BK350.out 1).trans rfl;have hfz5_0:=qF BK350.out 0;have hfz5_1:=qF BK350.out 1)|((with_reducible refine gate_callee (f:=163) rfl ?_);refine goesL_ (some 8) rfl rfl Try.func163 (by kernel_rfl) rfl #[.slice A90_1 l90_1.length c90_1,.func (.func 188) #[] #[.pointer (some ⟨gb352,0,none⟩),.pointer (some ⟨B1,0,none⟩)]] rfl (by (try simp only [mT,mC,mN]);first|done|rfl|(simp only [lD,lT];rfl)) ?_;(with_reducible refine (anyf_impl_isMap_1_1.calls k _ _ l90_1 gb352 a0_0 A0_1 c0_1 l0_1 B1 A91 c91 l91 t353 _ ?side1 ?side2 ?side3 ?side4 ?side5 ?side6 ?side7 ?side8 A2.out).mono ?_);(case side1=>repeat (first|exact (cB HR90_1.out HB.out)|(with_reducible first|refine cL ?_ _|refine cN ?_ _|refine cW ?_)));(case side2=>exact HC90_1.out);(case side3=>repeat (first|exact (cB HR0_1.out HB.out)|(with_reducible first|refine cL ?_ _|refine cN ?_ _|refine cW ?_)));(case side4=>exact HC0_1.out);(case side5=>exact (by (with_reducible repeat (first|refine qN ?_ _|refine qW ?_|refine qL ?_ _));exact BK352.out));(case side6=>repeat (first|exact (cB HR91.out HB.out)|(with_reducible first|refine cL ?_ _|refine cN ?_ _|refine cW ?_)));(case side7=>exact HC91.out);(case side8=>exact (by (with_reducible repeat (first|refine qN ?_ _|refine qW ?_|refine qL ?_ _));exact BK351.out));rintro e w6 ⟨rfl,hb⟩;refine ⟨_,rfl,?_⟩;have n0_:=qK (qB (g:=B0) (o:=_) (by (with_reducible repeat (first|refine qN ?_ _|refine qW ?_|refine qL ?_ _));exact BK350.out) hb);have n1_:=qK (qB (g:=B1) (o:=_) (by (with_reducible repeat (first|refine qN ?_ _|refine qW ?_|refine qL ?_ _));exact BK351.out) hb);have n2_:=qK (qB (g:=gb352) (o:=_) (by (with_reducible repeat (first|refine qN ?_ _|refine qW ?_|refine qL ?_ _));exact BK352.out) hb);have n3_:=qK (qT (by repeat (with_reducible first|exact HB.out|apply qA|apply qD|apply qO|refine qS ?_ GE350.out|refine qS ?_ GE351.out|refine qS ?_ GE352.out)) hb);clear BK350;clear BK351;clear BK352;clear HB;have BK350:=n0_;have BK351:=n1_;have BK352:=n2_;have HB:=n3_;clear n0_ n1_ n2_ n3_;(try clear hb)))
 go_ret
 exact ⟨by first|rfl|(simp [errW_none,errW_some] <;> rfl)|(simp [*,errW_none,errW_some] <;> rfl),by repeat (first|(with_reducible first|exact HB.out|apply qA|apply qD|apply qO|refine qS ?_ GE350.out|refine qS ?_ GE351.out|refine qS ?_ GE352.out)|exact HB.out)⟩

/-! ### areAll_impl_isMap_1: function 120, handed function 187 -/
def areAll_impl_isMap_1.f (k : Nat) (l : List S97) (l90_0 : List Int) (l90_1 : List (S97)) (l91 : List Int) : Option Bool := if l.all (fun d => (impl_isMap_1.f k d.f0 d.f1 l90_0 l90_1 l91).isSome) = true then some (l.all (fun d => (impl_isMap_1.f k d.f0 d.f1 l90_0 l90_1 l91).getD false)) else none
theorem areAll_impl_isMap_1.mono : ∀ a0_ a1_ a2_ a3_ k, LeO (areAll_impl_isMap_1.f k a0_ a1_ a2_ a3_) (areAll_impl_isMap_1.f (k + 1) a0_ a1_ a2_ a3_) := by
  intro l l90_0 l90_1 l91 k r h
  unfold areAll_impl_isMap_1.f at h ⊢
  by_cases hs : l.all (fun d => (impl_isMap_1.f k d.f0 d.f1 l90_0 l90_1 l91).isSome) = true
  case neg => rw [if_neg hs] at h; cases h
  rw [if_pos hs] at h
  have hx : ∀ d ∈ l, impl_isMap_1.f (k + 1) d.f0 d.f1 l90_0 l90_1 l91 = impl_isMap_1.f k d.f0 d.f1 l90_0 l90_1 l91 := by
    intro d hd
    obtain ⟨r, hr⟩ := Option.isSome_iff_exists.1 (List.all_eq_true.1 hs d hd)
    rw [hr]; exact impl_isMap_1.mono _ _ _ _ _ k r hr
  rw [if_pos (List.all_eq_true.2 fun d hd => by rw [hx d hd]; exact List.all_eq_true.1 hs d hd), ← h]
  congr 1
  exact all_same fun d hd => by rw [hx d hd]
theorem areAll_impl_isMap_1.calls (k : Nat) (A : Option Addr) (c : Nat) (l : List S97) (B0 : Nat) (A90_0 : Option Addr) (c90_0 : Nat) (l90_0 : List Int) (A90_1 : Option Addr) (c90_1 : Nat) (l90_1 : List (S97)) (B1 : Nat) (A91 : Option Addr) (c91 : Nat) (l91 : List Int) (r : Bool) (w : World) (hr : Kd.C k97 w A l.length l) (hc : l.length ≤ c) (hr90_0 : Kd.C (Kd.int .i64) w A90_0 l90_0.length l90_0) (hc90_0 : l90_0.length ≤ c90_0) (hr90_1 : Kd.C k97 w A90_1 l90_1.length l90_1) (hc90_1 : l90_1.length ≤ c90_1) (hq0 : w.heap[B0]? = some (.cells #[.slice A90_0 l90_0.length c90_0, .slice A90_1 l90_1.length c90_1] 32 (0, 0))) (hr91 : Kd.C (Kd.int .i64) w A91 l91.length l91) (hc91 : l91.length ≤ c91) (hq1 : w.heap[B1]? = some (.cells #[.slice A91 l91.length c91] 22 (0, 0))) (h : areAll_impl_isMap_1.f k l l90_0 l90_1 l91 = some r) :
    Calls Try.prog 120 #[.slice A l.length c, .func (.func 187) #[] #[.pointer (some ⟨B0, 0, none⟩), .pointer (some ⟨B1, 0, none⟩)]] w fun e w' => e = .returned (.bool r) ∧ Below w.heap.size w w' := by
  unfold areAll_impl_isMap_1.f at h
  by_cases hs : l.all (fun d => (impl_isMap_1.f k d.f0 d.f1 l90_0 l90_1 l91).isSome) = true
  case neg => rw [if_neg hs] at h; cases h
  rw [if_pos hs] at h
  obtain rfl : l.all (fun d => (impl_isMap_1.f k d.f0 d.f1 l90_0 l90_1 l91).getD false) = r := Option.some.inj h
  refine areAll_Atom.calls A c l 187 _ _ w (enters_of Try.func187 (by kernel_rfl) rfl) hr ?_
  intro W d v hd hW hv
  obtain ⟨r_, hr_⟩ := Option.isSome_iff_exists.1 (List.all_eq_true.1 hs d hd)
  obtain ⟨cs, rfl, hK⟩ := hv
  obtain ⟨A1_, c1_, e_, l1_, g1_⟩ := k97_open hK
  subst e_
  refine (impl_isMap_1.calls (w := W) (hr0_1 := g1_) (hc0_1 := l1_) (hr90_0 := Kd.C_below hr90_0 hW) (hc90_0 := hc90_0) (hr90_1 := Kd.C_below hr90_1 hW) (hc90_1 := hc90_1) (hq0 := blk_below hq0 hW) (hr91 := Kd.C_below hr91 hW) (hc91 := hc91) (hq1 := blk_below hq1 hW) (h := hr_)).mono ?_
  rintro e w' ⟨rfl, hb⟩
  exact ⟨by show _ = Ending.returned (Value.bool ((impl_isMap_1.f k d.f0 d.f1 l90_0 l90_1 l91).getD false)); rw [hr_]; rfl, hb⟩

/-! ### impl_isMap: function 151 -/
def impl_isMap.f (k:Nat) (l0:List Int) (l1_0:List Int) (l1_1:List (S97)) (l2_0:List Int) (l2_1:List (S97)):Option (Bool):=(impl_mapped.f k l0 l2_0).bind fun t357=>((slices_Equal_int_int.f k t357 l1_0).bind fun t360=>(if t360=true then ((areAll_impl_isMap_1.f k l2_1 l1_0 l1_1 l0).bind fun t361=>(some t361)) else (some false)))
theorem impl_isMap.mono : ∀ a0 a1 a2 a3 a4 k,LeO (impl_isMap.f k a0 a1 a2 a3 a4) (impl_isMap.f (k + 1) a0 a1 a2 a3 a4):=by
 intro a0 a1 a2 a3 a4 k;unfold impl_isMap.f
 repeat' first
   | (with_reducible exact areAll_impl_isMap_1.mono _ _ _ _ _)
   | (with_reducible exact impl_mapped.mono _ _ _)
   | (with_reducible exact slices_Equal_int_int.mono _ _ _)
   | (with_reducible exact LeO.refl _)
   | (with_reducible exact LeO.none _)
   | (with_reducible refine LeO.ite ?_ ?_)
   | (with_reducible refine LeO.bind ?_ (fun _=>?_))
   | exact areAll_impl_isMap_1.mono _ _ _ _ _
   | exact impl_mapped.mono _ _ _
   | exact slices_Equal_int_int.mono _ _ _
   | exact LeO.none _
   | refine LeO.ite ?_ ?_
   | refine LeO.bind ?_ (fun _=>?_)
def impl_isMap.T1 : Bool × List (List Nat × List Nat):=(true,[([],[]),([],[]),([1],[1]),([0,2],[0,2]),([],[]),([4],[4]),([3,5,3],[3,5]),([6,6],[6]),([7],[7]),([8,7],[7,8]),([7],[7]),([9,10,7,7],[7,9,10]),([7,11],[7,11]),([12,11,0,1,2,3,4,5,6,7,8,9,10,11,12],[12])])
def impl_isMap.B1 : List Nat:=[0,0,2,7,0,16,63,127,255,511,255,2047,4095,8191]
theorem impl_isMap.tab1 : rtab .any (opsOf Try.f151 1)=impl_isMap.T1:=by kernel_rfl
theorem impl_isMap.bits1 : waitsOk impl_isMap.T1.2 impl_isMap.B1=true:=by kernel_rfl
set_option maxHeartbeats 8000000 in
set_option maxRecDepth 100000 in
theorem impl_isMap.calls (k:Nat) (A0:Option Addr) (c0:Nat) (l0:List Int) (A1_0:Option Addr) (c1_0:Nat) (l1_0:List Int) (A1_1:Option Addr) (c1_1:Nat) (l1_1:List (S97)) (A2_0:Option Addr) (c2_0:Nat) (l2_0:List Int) (A2_1:Option Addr) (c2_1:Nat) (l2_1:List (S97)) (r:Bool) (w:World) (hr0:Kd.C (Kd.int .i64) w A0 l0.length l0) (hc0:l0.length≤c0) (hr1_0:Kd.C (Kd.int .i64) w A1_0 l1_0.length l1_0) (hc1_0:l1_0.length≤c1_0) (hr1_1:Kd.C k97 w A1_1 l1_1.length l1_1) (hc1_1:l1_1.length≤c1_1) (hr2_0:Kd.C (Kd.int .i64) w A2_0 l2_0.length l2_0) (hc2_0:l2_0.length≤c2_0) (hr2_1:Kd.C k97 w A2_1 l2_1.length l2_1) (hc2_1:l2_1.length≤c2_1) (h:impl_isMap.f k l0 l1_0 l1_1 l2_0 l2_1=some r) :
  Calls Try.prog 151 #[.slice A0 l0.length c0,.agg #[.slice A1_0 l1_0.length c1_0,.slice A1_1 l1_1.length c1_1],.agg #[.slice A2_0 l2_0.length c2_0,.slice A2_1 l2_1.length c2_1]] w fun e w'=>e=.returned (.bool r)∧Below w.heap.size w w':=by
 have hu32:=Try.underlying32;have HR0:=qK hr0;have HC0:=qK hc0;clear hr0 hc0;have HR1_0:=qK hr1_0;have HC1_0:=qK hc1_0;clear hr1_0 hc1_0;have HR1_1:=qK hr1_1;have HC1_1:=qK hc1_1;clear hr1_1 hc1_1;have HR2_0:=qK hr2_0;have HC2_0:=qK hc2_0;clear hr2_0 hc2_0;have HR2_1:=qK hr2_1;have HC2_1:=qK hc2_1;clear hr2_1 hc2_1;have HB:=qK (Below.refl w.heap.size w);have H:((impl_mapped.f k l0 l2_0).bind fun t357=>((slices_Equal_int_int.f k t357 l1_0).bind fun t360=>(if t360=true then ((areAll_impl_isMap_1.f k l2_1 l1_0 l1_1 l0).bind fun t361=>(some t361)) else (some false))))=some r:=h;clear h;replace H:=Option.bind_eq_some_iff.mp H;obtain ⟨t357,A40,H⟩:=H;replace H:((slices_Equal_int_int.f k t357 l1_0).bind fun t360=>(if t360=true then ((areAll_impl_isMap_1.f k l2_1 l1_0 l1_1 l0).bind fun t361=>(some t361)) else (some false)))=some r:=H;have A4:=qK A40;clear A40;replace H:=Option.bind_eq_some_iff.mp H;obtain ⟨t360,A50,H⟩:=H;replace H:(if t360=true then ((areAll_impl_isMap_1.f k l2_1 l1_0 l1_1 l0).bind fun t361=>(some t361)) else (some false))=some r:=H;have A5:=qK A50;clear A50;by_cases c6:t360=true
 ·subst c6;have H1:((areAll_impl_isMap_1.f k l2_1 l1_0 l1_1 l0).bind fun t361=>(some t361))=some r:=by rw [if_pos rfl] at H;exact H
  clear H;have H:=H1;clear H1;replace H:=Option.bind_eq_some_iff.mp H;obtain ⟨t361,A70,H⟩:=H;replace H:(some t361)=some r:=H;have A7:=qK A70;clear A70;obtain rfl:=Option.some.inj H;go_enter Try.func151,Try.ntmps151
  try go_wp2_with (first|((with_reducible refine gate_dst (N:=3) rfl ?_);refine box_event ?hg (N:=3) ?hd (cs:=#[.slice A0 l0.length c0]) (t:=22) ?hr ?_;(case hd=>rfl);(case hg=>rfl);(case hr=>(go_simp;try rfl));intro gb354 hg w8 hbox hb;have n0_:=qK (qT (by repeat (with_reducible first|exact HB.out|apply qA|apply qD|apply qO)) hb);have n1_:=qK (hbox);have n2_:=qK ((by rw [hg];exact (qZ (by repeat (with_reducible first|exact HB.out|apply qA|apply qD|apply qO))):w.heap.size≤gb354));have n3_:=qK ((by rw [hg];exact (qZ (by repeat (with_reducible first|exact HB.out|apply qA|apply qD|apply qO))):w.heap.size≤gb354));clear HB;have HB:=n0_;have BK354:=n1_;have GW354:=n2_;have GE354:=n3_;clear n0_ n1_ n2_ n3_;clear hb hbox hg)|((with_reducible refine gate_dst (N:=4) rfl ?_);refine box_event ?hg (N:=4) ?hd (cs:=#[.slice A1_0 l1_0.length c1_0,.slice A1_1 l1_1.length c1_1]) (t:=32) ?hr ?_;(case hd=>rfl);(case hg=>rfl);(case hr=>(go_simp;try rfl));intro gb355 hg w9 hbox hb;have n0_:=qK (qB (g:=gb354) (o:=_) (by (with_reducible repeat (first|refine qN ?_ _|refine qW ?_|refine qL ?_ _));exact BK354.out) hb);have n1_:=qK (qT (by repeat (with_reducible first|exact HB.out|apply qA|apply qD|apply qO|refine qS ?_ GE354.out)) hb);have n2_:=qK (hbox);have n3_:=qK ((by rw [hg];exact (qZ (by repeat (with_reducible first|exact HB.out|apply qA|apply qD|apply qO|refine qS ?_ GE354.out))):w.heap.size≤gb355));have n4_:=qK ((by rw [hg];exact (qZ (by repeat (with_reducible first|exact HB.out|apply qA|apply qD|apply qO|refine qS ?_ GE354.out))):w.heap.size≤gb355));have n5_:=qK ((by rw [hg];exact Nat.ne_of_lt (blk_lt (g:=gb354) (o:=_) (by (with_reducible repeat (first|refine qN ?_ _|refine qW ?_|refine qL ?_ _));exact BK354.out)):gb354 ≠ gb355));have n6_:=qK ((by rw [hg];exact Nat.ne_of_gt (blk_lt (g:=gb354) (o:=_) (by (with_reducible repeat (first|refine qN ?_ _|refine qW ?_|refine qL ?_ _));exact BK354.out)):gb355 ≠ gb354));clear BK354;clear HB;have BK354:=n0_;have HB:=n1_;have BK355:=n2_;have GW355:=n3_;have GE355:=n4_;have NB354_355:=n5_;have NB355_354:=n6_;clear n0_ n1_ n2_ n3_ n4_ n5_ n6_;clear hb hbox hg)|((with_reducible refine gate_dst (N:=5) rfl ?_);refine box_event ?hg (N:=5) ?hd (cs:=#[.slice A2_0 l2_0.length c2_0,.slice A2_1 l2_1.length c2_1]) (t:=32) ?hr ?_;(case hd=>rfl);(case hg=>rfl);(case hr=>(go_simp;try rfl));intro gb356 hg w10 hbox hb;have n0_:=qK (qB (g:=gb354) (o:=_) (by (with_reducible repeat (first|refine qN ?_ _|refine qW ?_|refine qL ?_ _));exact BK354.out) hb);have n1_:=qK (qB (g:=gb355) (o:=_) (by (with_reducible repeat (first|refine qN ?_ _|refine qW ?_|refine qL ?_ _));exact BK355.out) hb);have n2_:=qK (qT (by repeat (with_reducible first|exact HB.out|apply qA|apply qD|apply qO|refine qS ?_ GE354.out|refine qS ?_ GE355.out)) hb);have n3_:=qK (hbox);have n4_:=qK ((by rw [hg];exact (qZ (by repeat (with_reducible first|exact HB.out|apply qA|apply qD|apply qO|refine qS ?_ GE354.out|refine qS ?_ GE355.out))):w.heap.size≤gb356));have n5_:=qK ((by rw [hg];exact (qZ (by repeat (with_reducible first|exact HB.out|apply qA|apply qD|apply qO|refine qS ?_ GE354.out|refine qS ?_ GE355.out))):w.heap.size≤gb356));have n6_:=qK ((by rw [hg];exact Nat.ne_of_lt (blk_lt (g:=gb354) (o:=_) (by (with_reducible repeat (first|refine qN ?_ _|refine qW ?_|refine qL ?_ _));exact BK354.out)):gb354 ≠ gb356));have n7_:=qK ((by rw [hg];exact Nat.ne_of_gt (blk_lt (g:=gb354) (o:=_) (by (with_reducible repeat (first|refine qN ?_ _|refine qW ?_|refine qL ?_ _));exact BK354.out)):gb356 ≠ gb354));have n8_:=qK ((by rw [hg];exact Nat.ne_of_lt (blk_lt (g:=gb355) (o:=_) (by (with_reducible repeat (first|refine qN ?_ _|refine qW ?_|refine qL ?_ _));exact BK355.out)):gb355 ≠ gb356));have n9_:=qK ((by rw [hg];exact Nat.ne_of_gt (blk_lt (g:=gb355) (o:=_) (by (with_reducible repeat (first|refine qN ?_ _|refine qW ?_|refine qL ?_ _));exact BK355.out)):gb356 ≠ gb355));clear BK354;clear BK355;clear HB;have BK354:=n0_;have BK355:=n1_;have HB:=n2_;have BK356:=n3_;have GW356:=n4_;have GE356:=n5_;have NB354_356:=n6_;have NB356_354:=n7_;have NB355_356:=n8_;have NB356_355:=n9_;clear n0_ n1_ n2_ n3_ n4_ n5_ n6_ n7_ n8_ n9_;clear hb hbox hg))
  have n0_:=qK (qW BK354.out);have n1_:=qK (qW BK355.out);have n2_:=qK (qW BK356.out);have n3_:=qK (qO HB.out);clear BK354;clear BK355;clear BK356;clear HB;have BK354:=n0_;have BK355:=n1_;have BK356:=n2_;have HB:=n3_;clear n0_ n1_ n2_ n3_;refine start_ (n:=14) (S:=fun w'=>w'.cell? ⟨gb354,0,none⟩=some (.slice A0 l0.length c0)∧w'.cell? ⟨gb356,0,none⟩=some (.slice A2_0 l2_0.length c2_0)∧w'.cell? ⟨gb356,1,none⟩=some (.slice A2_1 l2_1.length c2_1)∧w'.cell? ⟨gb355,0,none⟩=some (.slice A1_0 l1_0.length c1_0)∧w'.cell? ⟨gb355,1,none⟩=some (.slice A1_1 l1_1.length c1_1)) (ds:=[]) #[Z,Z,Z,Z,Z,Z,Z,Z,Z,Z,Z,Z,Z,Z] (by kernel_rfl) rfl rfl ⟨(qC BK354.out 0).trans rfl,(qC BK356.out 0).trans rfl,(qC BK356.out 1).trans rfl,(qC BK355.out 0).trans rfl,(qC BK355.out 1).trans rfl⟩ (fun hHeld=>?_);refine with_tabW impl_isMap.tab1 impl_isMap.bits1 (fun HT_ HW_=>?_);generalize w10.drew=w11 at BK354 BK355 BK356 HB hHeld ⊢
  refine pure_ (i:=1) (N:=some 8) (v:=?_) (a':=?_) #[Z,Y,Z,Z,Z,Z,Z,Z,Z,Z,Z,Z,Z,Z] rfl rfl (any_of HT_.out (by kernel_rfl)) (fun _ _ _ h=>h) (Or.inl ⟨by rfl,?_⟩) ?_ ?_;rotate_left
  ·intro w';go_simp;with_reducible rfl
  rotate_left
  ·simp only [Act.put,sIb,sZ,sS,i64_w,i32_w];rfl
  refine pure_ (i:=4) (N:=some 11) (v:=?_) (a':=?_) #[Z,Y,Z,Z,Y,Z,Z,Z,Z,Z,Z,Z,Z,Z] rfl rfl (any_of HT_.out (by kernel_rfl)) (fun _ _ _ h=>h) (Or.inl ⟨by rfl,?_⟩) ?_ ?_;rotate_left
  ·intro w';go_simp;with_reducible rfl
  rotate_left
  ·simp only [Act.put,sIb,sZ,sS,i64_w,i32_w];rfl
  refine take_ (i:=0) (N:=some 7) (v:=?_) (a':=?_) #[Y,Y,Z,Z,Y,Z,Z,Z,Z,Z,Z,Z,Z,Z] rfl rfl (take_ofW HT_.out HW_.out (by kernel_rfl)) (fun _ _ _ h=>h) (Or.inl ⟨by rfl,?_⟩) hHeld ?_ ?_;rotate_left
  ·rintro w' ⟨s0,s1,s2,s3,s4⟩;go_simp;with_reducible rfl
  rotate_left
  ·simp only [Act.put,sIb,sZ,sS,i64_w,i32_w];rfl
  refine take_ (i:=2) (N:=some 9) (v:=?_) (a':=?_) #[Y,Y,Y,Z,Y,Z,Z,Z,Z,Z,Z,Z,Z,Z] rfl rfl (take_ofW HT_.out HW_.out (by kernel_rfl)) (fun _ _ _ h=>h) (Or.inl ⟨by rfl,?_⟩) hHeld ?_ ?_;rotate_left
  ·rintro w' ⟨s0,s1,s2,s3,s4⟩;go_simp;with_reducible rfl
  rotate_left
  ·simp only [Act.put,sIb,sZ,sS,i64_w,i32_w];rfl
  refine take_ (i:=5) (N:=some 12) (v:=?_) (a':=?_) #[Y,Y,Y,Z,Y,Y,Z,Z,Z,Z,Z,Z,Z,Z] rfl rfl (take_ofW HT_.out HW_.out (by kernel_rfl)) (fun _ _ _ h=>h) (Or.inl ⟨by rfl,?_⟩) hHeld ?_ ?_;rotate_left
  ·rintro w' ⟨s0,s1,s2,s3,s4⟩;go_simp;with_reducible rfl
  rotate_left
  ·simp only [Act.put,sIb,sZ,sS,i64_w,i32_w];rfl
  refine one_ (i:=3) (N:=some 10) #[Y,Y,Y,Y,Y,Y,Z,Z,Z,Z,Z,Z,Z,Z] rfl rfl (one_of HT_.out (by kernel_rfl)) (by decide) (fun K hK=>?_);refine goes_ Try.func186 (by kernel_rfl) rfl #[.slice A0 l0.length c0,.slice A2_0 l2_0.length c2_0] (by rfl) rfl rfl (by (try simp only [mT,mC,mN]);first|done|rfl|(simp only [lD,lT];rfl)) ?_;with_reducible refine (impl_mapped.calls k _ _ l0 _ _ l2_0 t357 _ ?side1 ?side2 ?side3 ?side4 A4.out).mono ?_
  (case side1=>repeat (first|exact (cB HR0.out HB.out)|(with_reducible first|refine cL ?_ _|refine cN ?_ _|refine cW ?_)));(case side2=>exact HC0.out);(case side3=>repeat (first|exact (cB HR2_0.out HB.out)|(with_reducible first|refine cL ?_ _|refine cN ?_ _|refine cW ?_)));(case side4=>exact HC2_0.out);rintro e w12 ⟨v358,rfl,ho0,hb⟩;refine ⟨_,rfl,?_⟩;have n0_:=qK (Kd.R_lower ho0 (qZ (by repeat (with_reducible first|exact HB.out|apply qA|apply qD|apply qO|refine qS ?_ GE354.out|refine qS ?_ GE355.out|refine qS ?_ GE356.out))));have n1_:=qK (qB (g:=gb354) (o:=_) (by (with_reducible repeat (first|refine qN ?_ _|refine qW ?_|refine qL ?_ _));exact BK354.out) hb);have n2_:=qK (qB (g:=gb355) (o:=_) (by (with_reducible repeat (first|refine qN ?_ _|refine qW ?_|refine qL ?_ _));exact BK355.out) hb);have n3_:=qK (qB (g:=gb356) (o:=_) (by (with_reducible repeat (first|refine qN ?_ _|refine qW ?_|refine qL ?_ _));exact BK356.out) hb);have n4_:=qK (qT (by repeat (with_reducible first|exact HB.out|apply qA|apply qD|apply qO|refine qS ?_ GE354.out|refine qS ?_ GE355.out|refine qS ?_ GE356.out)) hb);clear BK354;clear BK355;clear BK356;clear HB;have HO359:=n0_;have BK354:=n1_;have BK355:=n2_;have BK356:=n3_;have HB:=n4_;clear n0_ n1_ n2_ n3_ n4_;(try clear hb);(try clear ho0);obtain ⟨Ao13,co13,eo13⟩:=Kd.R_slice HO359.out;(first|subst eo13|(injection eo13 with f1_ f2_ f3_;have f4_:=f1_.symm;have f5_:=f3_.symm;clear f1_ f2_ f3_;subst f4_;subst f5_));refine hK.out _ _ ⟨(qC BK354.out 0).trans rfl,(qC BK356.out 0).trans rfl,(qC BK356.out 1).trans rfl,(qC BK355.out 0).trans rfl,(qC BK355.out 1).trans rfl⟩ (fun hHeld=>?_);clear hK K;refine norm_ (a':=?_) ?_ ?_;rotate_left
  ·show Act.put _ (some 10) _=_
   simp only [Act.put,sIb,sZ,sS,i64_w,i32_w];rfl
  refine one_ (i:=6) (N:=some 13) #[Y,Y,Y,Y,Y,Y,Y,Z,Z,Z,Z,Z,Z,Z] rfl rfl (one_of HT_.out (by kernel_rfl)) (by decide) (fun K hK=>?_);refine goes_ Try.func185 (by kernel_rfl) rfl #[.slice Ao13 t357.length co13,.slice A1_0 l1_0.length c1_0] (by rfl) rfl rfl (by (try simp only [mT,mC,mN]);first|done|rfl|(simp only [lD,lT];rfl)) ?_;with_reducible refine (slices_Equal_int_int.calls k _ _ t357 _ _ l1_0 true _ ?side1 ?side2 ?side3 ?side4 A5.out).mono ?_
  (case side1=>repeat (first|exact (Kd.R_reads' HO359.out).2.2|(with_reducible first|refine cL ?_ _|refine cN ?_ _|refine cW ?_)));(case side2=>exact (Kd.R_reads' HO359.out).2.1);(case side3=>repeat (first|exact (cB HR1_0.out HB.out)|(with_reducible first|refine cL ?_ _|refine cN ?_ _|refine cW ?_)));(case side4=>exact HC1_0.out);rintro e w' ⟨rfl,⟨nd,rfl⟩⟩;refine ⟨_,rfl,?_⟩;refine hK.out _ _ ⟨(qC BK354.out 0).trans rfl,(qC BK356.out 0).trans rfl,(qC BK356.out 1).trans rfl,(qC BK355.out 0).trans rfl,(qC BK355.out 1).trans rfl⟩ (fun hHeld=>?_);clear hK K;refine norm_ (a':=?_) ?_ ?_;rotate_left
  ·show Act.put _ (some 13) _=_
   simp only [Act.put,sIb,sZ,sS,i64_w,i32_w];rfl
  refine pure_ (i:=7) (N:=some 14) (v:=?_) (a':=?_) #[Y,Y,Y,Y,Y,Y,Y,Y,Z,Z,Z,Z,Z,Z] rfl rfl (any_of HT_.out (by kernel_rfl)) (fun _ _ _ h=>h) (Or.inl ⟨by rfl,?_⟩) ?_ ?_;rotate_left
  ·intro w';go_simp;with_reducible rfl
  rotate_left
  ·simp only [Act.put,sIb,sZ,sS,i64_w,i32_w];rfl
  refine pure_ (i:=8) (N:=some 15) (v:=?_) (a':=?_) #[Y,Y,Y,Y,Y,Y,Y,Y,Y,Z,Z,Z,Z,Z] rfl rfl (any_of HT_.out (by kernel_rfl)) (fun _ _ _ h=>h) (Or.inl ⟨by rfl,?_⟩) ?_ ?_;rotate_left
  ·intro w';go_simp;with_reducible rfl
  rotate_left
  ·simp only [Act.put,sIb,sZ,sS,i64_w,i32_w];rfl
  refine pure_ (i:=10) (N:=some 17) (v:=?_) (a':=?_) #[Y,Y,Y,Y,Y,Y,Y,Y,Y,Z,Y,Z,Z,Z] rfl rfl (any_of HT_.out (by kernel_rfl)) (fun _ _ _ h=>h) (Or.inl ⟨by rfl,?_⟩) ?_ ?_;rotate_left
  ·intro w';go_simp;with_reducible rfl
  rotate_left
  ·simp only [Act.put,sIb,sZ,sS,i64_w,i32_w];rfl
  refine take_ (i:=9) (N:=some 16) (v:=?_) (a':=?_) #[Y,Y,Y,Y,Y,Y,Y,Y,Y,Y,Y,Z,Z,Z] rfl rfl (take_ofW HT_.out HW_.out (by kernel_rfl)) (fun _ _ _ h=>h) (Or.inl ⟨by rfl,?_⟩) hHeld ?_ ?_;rotate_left
  ·rintro w' ⟨s0,s1,s2,s3,s4⟩;go_simp;with_reducible rfl
  rotate_left
  ·simp only [Act.put,sIb,sZ,sS,i64_w,i32_w];rfl
  refine one_ (i:=11) (N:=some 18) #[Y,Y,Y,Y,Y,Y,Y,Y,Y,Y,Y,Y,Z,Z] rfl rfl (one_of HT_.out (by kernel_rfl)) (by decide) (fun K hK=>?_);refine goes_ Try.func120 (by kernel_rfl) rfl #[.slice A2_1 l2_1.length c2_1,.func (.func 187) #[] #[.pointer (some ⟨gb355,0,none⟩),.pointer (some ⟨gb354,0,none⟩)]] (by rfl) rfl rfl (by (try simp only [mT,mC,mN]);first|done|rfl|(simp only [lD,lT];rfl)) ?_;with_reducible refine (areAll_impl_isMap_1.calls k _ _ l2_1 gb355 A1_0 c1_0 l1_0 A1_1 c1_1 l1_1 gb354 A0 c0 l0 t361 _ ?side1 ?side2 ?side3 ?side4 ?side5 ?side6 ?side7 ?side8 ?side9 ?side10 A7.out).mono ?_
  (case side1=>repeat (first|exact (cB HR2_1.out (by repeat (with_reducible first|exact HB.out|apply qA|apply qD|apply qO|refine qS ?_ GE354.out|refine qS ?_ GE355.out|refine qS ?_ GE356.out)))|(with_reducible first|refine cL ?_ _|refine cN ?_ _|refine cW ?_)));(case side2=>exact HC2_1.out);(case side3=>repeat (first|exact (cB HR1_0.out (by repeat (with_reducible first|exact HB.out|apply qA|apply qD|apply qO|refine qS ?_ GE354.out|refine qS ?_ GE355.out|refine qS ?_ GE356.out)))|(with_reducible first|refine cL ?_ _|refine cN ?_ _|refine cW ?_)));(case side4=>exact HC1_0.out);(case side5=>repeat (first|exact (cB HR1_1.out (by repeat (with_reducible first|exact HB.out|apply qA|apply qD|apply qO|refine qS ?_ GE354.out|refine qS ?_ GE355.out|refine qS ?_ GE356.out)))|(with_reducible first|refine cL ?_ _|refine cN ?_ _|refine cW ?_)));(case side6=>exact HC1_1.out);(case side7=>exact (by (with_reducible repeat (first|refine qN ?_ _|refine qW ?_|refine qL ?_ _));exact BK355.out));(case side8=>repeat (first|exact (cB HR0.out (by repeat (with_reducible first|exact HB.out|apply qA|apply qD|apply qO|refine qS ?_ GE354.out|refine qS ?_ GE355.out|refine qS ?_ GE356.out)))|(with_reducible first|refine cL ?_ _|refine cN ?_ _|refine cW ?_)));(case side9=>exact HC0.out);(case side10=>exact (by (with_reducible repeat (first|refine qN ?_ _|refine qW ?_|refine qL ?_ _));exact BK354.out));rintro e w14 ⟨rfl,hb⟩;refine ⟨_,rfl,?_⟩;have n0_:=qK (rB (by (with_reducible repeat (first|apply rL|apply rN|apply rW));exact HO359.out) hb);have n1_:=qK (qB (g:=gb354) (o:=_) (by (with_reducible repeat (first|refine qN ?_ _|refine qW ?_|refine qL ?_ _));exact BK354.out) hb);have n2_:=qK (qB (g:=gb355) (o:=_) (by (with_reducible repeat (first|refine qN ?_ _|refine qW ?_|refine qL ?_ _));exact BK355.out) hb);have n3_:=qK (qB (g:=gb356) (o:=_) (by (with_reducible repeat (first|refine qN ?_ _|refine qW ?_|refine qL ?_ _));exact BK356.out) hb);have n4_:=qK (qT (by repeat (with_reducible first|exact HB.out|apply qA|apply qD|apply qO|refine qS ?_ GE354.out|refine qS ?_ GE355.out|refine qS ?_ GE356.out)) hb);clear HO359;clear BK354;clear BK355;clear BK356;clear HB;have HO359:=n0_;have BK354:=n1_;have BK355:=n2_;have BK356:=n3_;have HB:=n4_;clear n0_ n1_ n2_ n3_ n4_;(try clear hb);refine hK.out _ _ ⟨(qC BK354.out 0).trans rfl,(qC BK356.out 0).trans rfl,(qC BK356.out 1).trans rfl,(qC BK355.out 0).trans rfl,(qC BK355.out 1).trans rfl⟩ (fun hHeld=>?_);clear hK K;refine norm_ (a':=?_) ?_ ?_;rotate_left
  ·show Act.put _ (some 18) _=_
   simp only [Act.put,sIb,sZ,sS,i64_w,i32_w];rfl
  refine pure_ (i:=12) (N:=some 19) (v:=?_) (a':=?_) #[Y,Y,Y,Y,Y,Y,Y,Y,Y,Y,Y,Y,Y,Z] rfl rfl (any_of HT_.out (by kernel_rfl)) (fun _ _ _ h=>h) (Or.inl ⟨by rfl,?_⟩) ?_ ?_;rotate_left
  ·intro w';go_simp;with_reducible rfl
  rotate_left
  ·simp only [Act.put,sIb,sZ,sS,i64_w,i32_w];rfl
  refine pure_ (i:=13) (N:=some 6) (v:=?_) (a':=?_) #[Y,Y,Y,Y,Y,Y,Y,Y,Y,Y,Y,Y,Y,Y] rfl rfl (any_of HT_.out (by kernel_rfl)) (fun _ _ _ h=>h) (Or.inl ⟨by rfl,?_⟩) ?_ ?_;rotate_left
  ·intro w';go_simp;with_reducible rfl
  rotate_left
  ·simp only [Act.put,sIb,sZ,sS,i64_w,i32_w];rfl
  refine done_ (done_of HT_.out (by kernel_rfl)) ?_;try go_wp2
  go_ret
  exact ⟨by first|rfl|(simp [errW_none,errW_some] <;> rfl)|(simp [*,errW_none,errW_some] <;> rfl),by repeat (first|(with_reducible first|exact HB.out|apply qA|apply qD|apply qO|refine qS ?_ GE354.out|refine qS ?_ GE355.out|refine qS ?_ GE356.out)|exact HB.out)⟩
 ·replace c6:=Bool.eq_false_iff.mpr c6;subst c6;have H1:(some false)=some r:=by rw [if_neg (show ¬ (false=true) by decide)] at H;exact H
  clear H;have H:=H1;clear H1;obtain rfl:=Option.some.inj H;go_enter Try.func151,Try.ntmps151
  try go_wp2_with (first|((with_reducible refine gate_dst (N:=3) rfl ?_);refine box_event ?hg (N:=3) ?hd (cs:=#[.slice A0 l0.length c0]) (t:=22) ?hr ?_;(case hd=>rfl);(case hg=>rfl);(case hr=>(go_simp;try rfl));intro gb354 hg w15 hbox hb;have n0_:=qK (qT (by repeat (with_reducible first|exact HB.out|apply qA|apply qD|apply qO)) hb);have n1_:=qK (hbox);have n2_:=qK ((by rw [hg];exact (qZ (by repeat (with_reducible first|exact HB.out|apply qA|apply qD|apply qO))):w.heap.size≤gb354));have n3_:=qK ((by rw [hg];exact (qZ (by repeat (with_reducible first|exact HB.out|apply qA|apply qD|apply qO))):w.heap.size≤gb354));clear HB;have HB:=n0_;have BK354:=n1_;have GW354:=n2_;have GE354:=n3_;clear n0_ n1_ n2_ n3_;clear hb hbox hg)|((with_reducible refine gate_dst (N:=4) rfl ?_);refine box_event ?hg (N:=4) ?hd (cs:=#[.slice A1_0 l1_0.length c1_0,.slice A1_1 l1_1.length c1_1]) (t:=32) ?hr ?_;(case hd=>rfl);(case hg=>rfl);(case hr=>(go_simp;try rfl));intro gb355 hg w16 hbox hb;have n0_:=qK (qB (g:=gb354) (o:=_) (by (with_reducible repeat (first|refine qN ?_ _|refine qW ?_|refine qL ?_ _));exact BK354.out) hb);have n1_:=qK (qT (by repeat (with_reducible first|exact HB.out|apply qA|apply qD|apply qO|refine qS ?_ GE354.out)) hb);have n2_:=qK (hbox);have n3_:=qK ((by rw [hg];exact (qZ (by repeat (with_reducible first|exact HB.out|apply qA|apply qD|apply qO|refine qS ?_ GE354.out))):w.heap.size≤gb355));have n4_:=qK ((by rw [hg];exact (qZ (by repeat (with_reducible first|exact HB.out|apply qA|apply qD|apply qO|refine qS ?_ GE354.out))):w.heap.size≤gb355));have n5_:=qK ((by rw [hg];exact Nat.ne_of_lt (blk_lt (g:=gb354) (o:=_) (by (with_reducible repeat (first|refine qN ?_ _|refine qW ?_|refine qL ?_ _));exact BK354.out)):gb354 ≠ gb355));have n6_:=qK ((by rw [hg];exact Nat.ne_of_gt (blk_lt (g:=gb354) (o:=_) (by (with_reducible repeat (first|refine qN ?_ _|refine qW ?_|refine qL ?_ _));exact BK354.out)):gb355 ≠ gb354));clear BK354;clear HB;have BK354:=n0_;have HB:=n1_;have BK355:=n2_;have GW355:=n3_;have GE355:=n4_;have NB354_355:=n5_;have NB355_354:=n6_;clear n0_ n1_ n2_ n3_ n4_ n5_ n6_;clear hb hbox hg)|((with_reducible refine gate_dst (N:=5) rfl ?_);refine box_event ?hg (N:=5) ?hd (cs:=#[.slice A2_0 l2_0.length c2_0,.slice A2_1 l2_1.length c2_1]) (t:=32) ?hr ?_;(case hd=>rfl);(case hg=>rfl);(case hr=>(go_simp;try rfl));intro gb356 hg w17 hbox hb;have n0_:=qK (qB (g:=gb354) (o:=_) (by (with_reducible repeat (first|refine qN ?_ _|refine qW ?_|refine qL ?_ _));exact BK354.out) hb);have n1_:=qK (qB (g:=gb355) (o:=_) (by (with_reducible repeat (first|refine qN ?_ _|refine qW ?_|refine qL ?_ _));exact BK355.out) hb);have n2_:=qK (qT (by repeat (with_reducible first|exact HB.out|apply qA|apply qD|apply qO|refine qS ?_ GE354.out|refine qS ?_ GE355.out)) hb);have n3_:=qK (hbox);have n4_:=qK ((by rw [hg];exact (qZ (by repeat (with_reducible first|exact HB.out|apply qA|apply qD|apply qO|refine qS ?_ GE354.out|refine qS ?_ GE355.out))):w.heap.size≤gb356));have n5_:=qK ((by rw [hg];exact (qZ (by repeat (with_reducible first|exact HB.out|apply qA|apply qD|apply qO|refine qS ?_ GE354.out|refine qS ?_ GE355.out))):w.heap.size≤gb356));have n6_:=qK ((by rw [hg];exact Nat.ne_of_lt (blk_lt (g:=gb354) (o:=_) (by (with_reducible repeat (first|refine qN ?_ _|refine qW ?_|refine qL ?_ _));exact BK354.out)):gb354 ≠ gb356));have n7_:=qK ((by rw [hg];exact Nat.ne_of_gt (blk_lt (g:=gb354) (o:=_) (by (with_reducible repeat (first|refine qN ?_ _|refine qW ?_|refine qL ?_ _));exact BK354.out)):gb356 ≠ gb354));have n8_:=qK ((by rw [hg];exact Nat.ne_of_lt (blk_lt (g:=gb355) (o:=_) (by (with_reducible repeat (first|refine qN ?_ _|refine qW ?_|refine qL ?_ _));exact BK355.out)):gb355 ≠ gb356));have n9_:=qK ((by rw [hg];exact Nat.ne_of_gt (blk_lt (g:=gb355) (o:=_) (by (with_reducible repeat (first|refine qN ?_ _|refine qW ?_|refine qL ?_ _));exact BK355.out)):gb356 ≠ gb355));clear BK354;clear BK355;clear HB;have BK354:=n0_;have BK355:=n1_;have HB:=n2_;have BK356:=n3_;have GW356:=n4_;have GE356:=n5_;have NB354_356:=n6_;have NB356_354:=n7_;have NB355_356:=n8_;have NB356_355:=n9_;clear n0_ n1_ n2_ n3_ n4_ n5_ n6_ n7_ n8_ n9_;clear hb hbox hg))
  have n0_:=qK (qW BK354.out);have n1_:=qK (qW BK355.out);have n2_:=qK (qW BK356.out);have n3_:=qK (qO HB.out);clear BK354;clear BK355;clear BK356;clear HB;have BK354:=n0_;have BK355:=n1_;have BK356:=n2_;have HB:=n3_;clear n0_ n1_ n2_ n3_;refine start_ (n:=14) (S:=fun w'=>w'.cell? ⟨gb354,0,none⟩=some (.slice A0 l0.length c0)∧w'.cell? ⟨gb356,0,none⟩=some (.slice A2_0 l2_0.length c2_0)∧w'.cell? ⟨gb356,1,none⟩=some (.slice A2_1 l2_1.length c2_1)∧w'.cell? ⟨gb355,0,none⟩=some (.slice A1_0 l1_0.length c1_0)∧w'.cell? ⟨gb355,1,none⟩=some (.slice A1_1 l1_1.length c1_1)) (ds:=[]) #[Z,Z,Z,Z,Z,Z,Z,Z,Z,Z,Z,Z,Z,Z] (by kernel_rfl) rfl rfl ⟨(qC BK354.out 0).trans rfl,(qC BK356.out 0).trans rfl,(qC BK356.out 1).trans rfl,(qC BK355.out 0).trans rfl,(qC BK355.out 1).trans rfl⟩ (fun hHeld=>?_);refine with_tabW impl_isMap.tab1 impl_isMap.bits1 (fun HT_ HW_=>?_);generalize w17.drew=w18 at BK354 BK355 BK356 HB hHeld ⊢
  refine pure_ (i:=1) (N:=some 8) (v:=?_) (a':=?_) #[Z,Y,Z,Z,Z,Z,Z,Z,Z,Z,Z,Z,Z,Z] rfl rfl (any_of HT_.out (by kernel_rfl)) (fun _ _ _ h=>h) (Or.inl ⟨by rfl,?_⟩) ?_ ?_;rotate_left
  ·intro w';go_simp;with_reducible rfl
  rotate_left
  ·simp only [Act.put,sIb,sZ,sS,i64_w,i32_w];rfl
  refine pure_ (i:=4) (N:=some 11) (v:=?_) (a':=?_) #[Z,Y,Z,Z,Y,Z,Z,Z,Z,Z,Z,Z,Z,Z] rfl rfl (any_of HT_.out (by kernel_rfl)) (fun _ _ _ h=>h) (Or.inl ⟨by rfl,?_⟩) ?_ ?_;rotate_left
  ·intro w';go_simp;with_reducible rfl
  rotate_left
  ·simp only [Act.put,sIb,sZ,sS,i64_w,i32_w];rfl
  refine take_ (i:=0) (N:=some 7) (v:=?_) (a':=?_) #[Y,Y,Z,Z,Y,Z,Z,Z,Z,Z,Z,Z,Z,Z] rfl rfl (take_ofW HT_.out HW_.out (by kernel_rfl)) (fun _ _ _ h=>h) (Or.inl ⟨by rfl,?_⟩) hHeld ?_ ?_;rotate_left
  ·rintro w' ⟨s0,s1,s2,s3,s4⟩;go_simp;with_reducible rfl
  rotate_left
  ·simp only [Act.put,sIb,sZ,sS,i64_w,i32_w];rfl
  refine take_ (i:=2) (N:=some 9) (v:=?_) (a':=?_) #[Y,Y,Y,Z,Y,Z,Z,Z,Z,Z,Z,Z,Z,Z] rfl rfl (take_ofW HT_.out HW_.out (by kernel_rfl)) (fun _ _ _ h=>h) (Or.inl ⟨by rfl,?_⟩) hHeld ?_ ?_;rotate_left
  ·rintro w' ⟨s0,s1,s2,s3,s4⟩;go_simp;with_reducible rfl
  rotate_left
  ·simp only [Act.put,sIb,sZ,sS,i64_w,i32_w];rfl
  refine take_ (i:=5) (N:=some 12) (v:=?_) (a':=?_) #[Y,Y,Y,Z,Y,Y,Z,Z,Z,Z,Z,Z,Z,Z] rfl rfl (take_ofW HT_.out HW_.out (by kernel_rfl)) (fun _ _ _ h=>h) (Or.inl ⟨by rfl,?_⟩) hHeld ?_ ?_;rotate_left
  ·rintro w' ⟨s0,s1,s2,s3,s4⟩;go_simp;with_reducible rfl
  rotate_left
  ·simp only [Act.put,sIb,sZ,sS,i64_w,i32_w];rfl
  refine one_ (i:=3) (N:=some 10) #[Y,Y,Y,Y,Y,Y,Z,Z,Z,Z,Z,Z,Z,Z] rfl rfl (one_of HT_.out (by kernel_rfl)) (by decide) (fun K hK=>?_);refine goes_ Try.func186 (by kernel_rfl) rfl #[.slice A0 l0.length c0,.slice A2_0 l2_0.length c2_0] (by rfl) rfl rfl (by (try simp only [mT,mC,mN]);first|done|rfl|(simp only [lD,lT];rfl)) ?_;with_reducible refine (impl_mapped.calls k _ _ l0 _ _ l2_0 t357 _ ?side1 ?side2 ?side3 ?side4 A4.out).mono ?_
  (case side1=>repeat (first|exact (cB HR0.out HB.out)|(with_reducible first|refine cL ?_ _|refine cN ?_ _|refine cW ?_)));(case side2=>exact HC0.out);(case side3=>repeat (first|exact (cB HR2_0.out HB.out)|(with_reducible first|refine cL ?_ _|refine cN ?_ _|refine cW ?_)));(case side4=>exact HC2_0.out);rintro e w19 ⟨v358,rfl,ho0,hb⟩;refine ⟨_,rfl,?_⟩;have n0_:=qK (Kd.R_lower ho0 (qZ (by repeat (with_reducible first|exact HB.out|apply qA|apply qD|apply qO|refine qS ?_ GE354.out|refine qS ?_ GE355.out|refine qS ?_ GE356.out))));have n1_:=qK (qB (g:=gb354) (o:=_) (by (with_reducible repeat (first|refine qN ?_ _|refine qW ?_|refine qL ?_ _));exact BK354.out) hb);have n2_:=qK (qB (g:=gb355) (o:=_) (by (with_reducible repeat (first|refine qN ?_ _|refine qW ?_|refine qL ?_ _));exact BK355.out) hb);have n3_:=qK (qB (g:=gb356) (o:=_) (by (with_reducible repeat (first|refine qN ?_ _|refine qW ?_|refine qL ?_ _));exact BK356.out) hb);have n4_:=qK (qT (by repeat (with_reducible first|exact HB.out|apply qA|apply qD|apply qO|refine qS ?_ GE354.out|refine qS ?_ GE355.out|refine qS ?_ GE356.out)) hb);clear BK354;clear BK355;clear BK356;clear HB;have HO359:=n0_;have BK354:=n1_;have BK355:=n2_;have BK356:=n3_;have HB:=n4_;clear n0_ n1_ n2_ n3_ n4_;(try clear hb);(try clear ho0);obtain ⟨Ao20,co20,eo20⟩:=Kd.R_slice HO359.out;(first|subst eo20|(injection eo20 with f1_ f2_ f3_;have f4_:=f1_.symm;have f5_:=f3_.symm;clear f1_ f2_ f3_;subst f4_;subst f5_));refine hK.out _ _ ⟨(qC BK354.out 0).trans rfl,(qC BK356.out 0).trans rfl,(qC BK356.out 1).trans rfl,(qC BK355.out 0).trans rfl,(qC BK355.out 1).trans rfl⟩ (fun hHeld=>?_);clear hK K;refine norm_ (a':=?_) ?_ ?_;rotate_left
  ·show Act.put _ (some 10) _=_
   simp only [Act.put,sIb,sZ,sS,i64_w,i32_w];rfl
  refine one_ (i:=6) (N:=some 13) #[Y,Y,Y,Y,Y,Y,Y,Z,Z,Z,Z,Z,Z,Z] rfl rfl (one_of HT_.out (by kernel_rfl)) (by decide) (fun K hK=>?_);refine goes_ Try.func185 (by kernel_rfl) rfl #[.slice Ao20 t357.length co20,.slice A1_0 l1_0.length c1_0] (by rfl) rfl rfl (by (try simp only [mT,mC,mN]);first|done|rfl|(simp only [lD,lT];rfl)) ?_;with_reducible refine (slices_Equal_int_int.calls k _ _ t357 _ _ l1_0 false _ ?side1 ?side2 ?side3 ?side4 A5.out).mono ?_
  (case side1=>repeat (first|exact (Kd.R_reads' HO359.out).2.2|(with_reducible first|refine cL ?_ _|refine cN ?_ _|refine cW ?_)));(case side2=>exact (Kd.R_reads' HO359.out).2.1);(case side3=>repeat (first|exact (cB HR1_0.out HB.out)|(with_reducible first|refine cL ?_ _|refine cN ?_ _|refine cW ?_)));(case side4=>exact HC1_0.out);rintro e w' ⟨rfl,⟨nd,rfl⟩⟩;refine ⟨_,rfl,?_⟩;refine hK.out _ _ ⟨(qC BK354.out 0).trans rfl,(qC BK356.out 0).trans rfl,(qC BK356.out 1).trans rfl,(qC BK355.out 0).trans rfl,(qC BK355.out 1).trans rfl⟩ (fun hHeld=>?_);clear hK K;refine norm_ (a':=?_) ?_ ?_;rotate_left
  ·show Act.put _ (some 13) _=_
   simp only [Act.put,sIb,sZ,sS,i64_w,i32_w];rfl
  refine pure_ (i:=7) (N:=some 14) (v:=?_) (a':=?_) #[Y,Y,Y,Y,Y,Y,Y,Y,Z,Z,Z,Z,Z,Z] rfl rfl (any_of HT_.out (by kernel_rfl)) (fun _ _ _ h=>h) (Or.inl ⟨by rfl,?_⟩) ?_ ?_;rotate_left
  ·intro w';go_simp;with_reducible rfl
  rotate_left
  ·simp only [Act.put,sIb,sZ,sS,i64_w,i32_w];rfl
  refine pure_ (i:=8) (N:=some 15) (v:=undef) (a':=?_) #[Y,Y,Y,Y,Y,Y,Y,Y,Y,Z,Z,Z,Z,Z] rfl rfl (any_of HT_.out (by kernel_rfl)) (fun _ _ _ h=>h) (Or.inr ⟨by rfl,rfl⟩) ?_ ?_;rotate_left
  ·simp only [Act.put,sIb,sZ,sS,i64_w,i32_w];rfl
  refine pure_ (i:=9) (N:=some 16) (v:=undef) (a':=?_) #[Y,Y,Y,Y,Y,Y,Y,Y,Y,Y,Z,Z,Z,Z] rfl rfl (any_of HT_.out (by kernel_rfl)) (fun _ _ _ h=>h) (Or.inr ⟨by rfl,rfl⟩) ?_ ?_;rotate_left
  ·simp only [Act.put,sIb,sZ,sS,i64_w,i32_w];rfl
  refine pure_ (i:=10) (N:=some 17) (v:=undef) (a':=?_) #[Y,Y,Y,Y,Y,Y,Y,Y,Y,Y,Y,Z,Z,Z] rfl rfl (any_of HT_.out (by kernel_rfl)) (fun _ _ _ h=>h) (Or.inr ⟨by rfl,rfl⟩) ?_ ?_;rotate_left
  ·simp only [Act.put,sIb,sZ,sS,i64_w,i32_w];rfl
  refine pure_ (i:=11) (N:=some 18) (v:=undef) (a':=?_) #[Y,Y,Y,Y,Y,Y,Y,Y,Y,Y,Y,Y,Z,Z] rfl rfl (any_of HT_.out (by kernel_rfl)) (fun _ _ _ h=>h) (Or.inr ⟨by rfl,rfl⟩) ?_ ?_;rotate_left
  ·simp only [Act.put,sIb,sZ,sS,i64_w,i32_w];rfl
  refine pure_ (i:=12) (N:=some 19) (v:=?_) (a':=?_) #[Y,Y,Y,Y,Y,Y,Y,Y,Y,Y,Y,Y,Y,Z] rfl rfl (any_of HT_.out (by kernel_rfl)) (fun _ _ _ h=>h) (Or.inl ⟨by rfl,?_⟩) ?_ ?_;rotate_left
  ·intro w';go_simp;with_reducible rfl
  rotate_left
  ·simp only [Act.put,sIb,sZ,sS,i64_w,i32_w];rfl
  refine pure_ (i:=13) (N:=some 6) (v:=?_) (a':=?_) #[Y,Y,Y,Y,Y,Y,Y,Y,Y,Y,Y,Y,Y,Y] rfl rfl (any_of HT_.out (by kernel_rfl)) (fun _ _ _ h=>h) (Or.inl ⟨by rfl,?_⟩) ?_ ?_;rotate_left
  ·intro w';go_simp;with_reducible rfl
  rotate_left
  ·simp only [Act.put,sIb,sZ,sS,i64_w,i32_w];rfl
  refine done_ (done_of HT_.out (by kernel_rfl)) ?_;try go_wp2
  go_ret
  exact ⟨by first|rfl|(simp [errW_none,errW_some] <;> rfl)|(simp [*,errW_none,errW_some] <;> rfl),by repeat (first|(with_reducible first|exact HB.out|apply qA|apply qD|apply qO|refine qS ?_ GE354.out|refine qS ?_ GE355.out|refine qS ?_ GE356.out)|exact HB.out)⟩

end Go.Proofs.Ytboligpcbndkjaa.PFnExactIsContained
