/-
  A text of this claim's own, printed by a program of the session (wip/tools/xprint.py): functions of the program as Lean functions, each with what its call comes to.
-/
import Derived.Test.YtnkdpagkmljbnaaPFnExactIsNormalx0
import Derived.Test.YtnkdpagkmljbnaaPFnExactIsNormalx1
import Derived.Test.YtnkdpagkmljbnaaPFnExactIsNormalx2
import Derived.Test.YtnkdpagkmljbnaaPFnExactIsNormalx3
namespace Go.Proofs.Ytnkdpagkmljbnaa.PFnExactIsNormal
open Go.Proofs.YtnkdpagkmljbnaaW.PrintWords renaming pw_below_drewN → qD, blk_cell → qC, below_drew1 → qO, below_alloc → qA, blk_frozen → qF, below_set → qS, blk_drewN → qN, blk_alloc → qL, blk_drew → qW, below_size → qZ, below_step → qT, blk_below → qB, blk_far → qR, blk_put → qP
open Go.Proofs.YtnkdpagkmljbnaaW.PrintWords.Aside0 renaming mk → qK
open Bool renaming true → Y, false → Z
open List renaming setIfInBounds_toArray → sIb, set_cons_zero → sZ, set_cons_succ → sS, map_toArray → mT, map_cons → mC, map_nil → mN, length_drop → lD, length_take → lT
open Go.Proofs.YtnkdpagkmljbnaaW.PrintWords.Kd renaming C_alloc → cL, C_drewN → cN, C_drew → cW, C_below → cB, R_alloc → rL, R_drewN → rN, R_drew → rW, R_below → rB
open Go.RowKit Go.Proofs.YtnkdpagkmljbnaaW.PrintWords Go.Proofs.YtnkdpagkmljbnaaW.PrintLast Go.Proofs.YtnkdpagkmljbnaaW.PrintMore
attribute [local go_sem] max2_int min2_int max_two min_two max_three min_three max_four min_four   -- for this text's walks alone
set_option linter.unusedVariables false
set_option linter.unusedSimpArgs false

/-! ### impl_isNormal_1: function 48 -/
def impl_isNormal_1.f (k:Nat) (a0:Int) (l90:List (S72)) (a91:Int):Option (Bool):=(impl_closure.f k l90 a0).bind fun t267=>(if (Go.bits .and .i64 t267 a91)=a0 then (some true) else (some ((Go.bits .and .i64 t267 a91) == a91)))
theorem impl_isNormal_1.mono : ∀ a0 a1 a2 k,LeO (impl_isNormal_1.f k a0 a1 a2) (impl_isNormal_1.f (k + 1) a0 a1 a2):=by
 intro a0 a1 a2 k;unfold impl_isNormal_1.f
 repeat' first
   | (with_reducible exact impl_closure.mono _ _ _)
   | (with_reducible exact LeO.refl _)
   | (with_reducible exact LeO.none _)
   | (with_reducible refine LeO.ite ?_ ?_)
   | (with_reducible refine LeO.bind ?_ (fun _=>?_))
   | exact impl_closure.mono _ _ _
   | exact LeO.none _
   | refine LeO.ite ?_ ?_
   | refine LeO.bind ?_ (fun _=>?_)
set_option maxHeartbeats 8000000 in
set_option maxRecDepth 100000 in
theorem impl_isNormal_1.calls (k:Nat) (a0:Int) (B0:Nat) (A90:Option Addr) (c90:Nat) (l90:List (S72)) (B1:Nat) (a91:Int) (r:Bool) (w:World) (hr90:Kd.C k72 w A90 l90.length l90) (hc90:l90.length≤c90) (hq0:w.heap[B0]?=some (.cells #[.slice A90 l90.length c90] 50 (0,0))) (hq1:w.heap[B1]?=some (.cells #[.int .i64 a91] 52 (0,0))) (h:impl_isNormal_1.f k a0 l90 a91=some r) :
  Calls Try.prog 48 #[.int .i64 a0,.pointer (some ⟨B0,0,none⟩),.pointer (some ⟨B1,0,none⟩)] w fun e w'=>e=.returned (.bool r)∧Below w.heap.size w w':=by
 have HR90:=qK hr90;have HC90:=qK hc90;clear hr90 hc90;have BK265:=qK hq0;clear hq0;have BK266:=qK hq1;clear hq1;have HB:=qK (Below.refl w.heap.size w);have H:((impl_closure.f k l90 a0).bind fun t267=>(if (Go.bits .and .i64 t267 a91)=a0 then (some true) else (some ((Go.bits .and .i64 t267 a91) == a91))))=some r:=h;clear h;replace H:=Option.bind_eq_some_iff.mp H;obtain ⟨t267,A20,H⟩:=H;replace H:(if (Go.bits .and .i64 t267 a91)=a0 then (some true) else (some ((Go.bits .and .i64 t267 a91) == a91)))=some r:=H;have A2:=qK A20;clear A20;by_cases c3:(Go.bits .and .i64 t267 a91)=a0
 ·rw [if_pos c3] at H;have c3b0:((Go.bits .and .i64 t267 a91) == a0)=true:=beq_iff_eq.mpr c3;have c3b1:((Go.bits .and .i64 t267 a91) != a0)=false:=bne_eq_false_iff_eq.mpr c3;clear c3;obtain rfl:=Option.some.inj H;go_enter Try.func48,Try.ntmps48
  try go_wp2
  have n0_:=qK (qW BK265.out);have n1_:=qK (qW BK266.out);have n2_:=qK (qO HB.out);clear BK265;clear BK266;clear HB;have BK265:=n0_;have BK266:=n1_;have HB:=n2_;clear n0_ n1_ n2_;refine start_ (n:=6) (S:=fun w'=>w'.cell? ⟨B0,0,none⟩=some (.slice A90 l90.length c90)∧w'.cell? ⟨B1,0,none⟩=some (.int .i64 a91)) (ds:=[]) #[Z,Z,Z,Z,Z,Z] (by kernel_rfl) rfl rfl ⟨(qC BK265.out 0).trans rfl,(qC BK266.out 0).trans rfl⟩ (fun hHeld=>?_);generalize w.drew=w4 at BK265 BK266 HB hHeld ⊢
  refine pure_ (i:=1) (N:=some 7) (v:=?_) (a':=?_) #[Z,Y,Z,Z,Z,Z] rfl rfl (by kernel_rfl) (fun _ _ _ h=>h) (Or.inl ⟨by rfl,?_⟩) ?_ ?_;rotate_left
  ·intro w';go_simp;with_reducible rfl
  rotate_left
  ·simp only [Act.put,sIb,sZ,sS,i64_w,i32_w];rfl
  refine take_ (i:=0) (N:=some 6) (v:=?_) (a':=?_) #[Y,Y,Z,Z,Z,Z] rfl rfl (by kernel_rfl) (fun _ _ _ h=>h) (Or.inl ⟨by rfl,?_⟩) hHeld ?_ ?_;rotate_left
  ·rintro w' ⟨s0,s1⟩;go_simp;with_reducible rfl
  rotate_left
  ·simp only [Act.put,sIb,sZ,sS,i64_w,i32_w];rfl
  refine take_ (i:=3) (N:=some 9) (v:=?_) (a':=?_) #[Y,Y,Z,Y,Z,Z] rfl rfl (by kernel_rfl) (fun _ _ _ h=>h) (Or.inl ⟨by rfl,?_⟩) hHeld ?_ ?_;rotate_left
  ·rintro w' ⟨s0,s1⟩;go_simp;with_reducible rfl
  rotate_left
  ·simp only [Act.put,sIb,sZ,sS,i64_w,i32_w];rfl
  refine one_ (i:=2) (N:=some 8) #[Y,Y,Y,Y,Z,Z] rfl rfl (by kernel_rfl) (by decide) (fun K hK=>?_);refine goes_ Try.func32 (by kernel_rfl) rfl #[.slice A90 l90.length c90,.int .i64 a0] (by rfl) rfl rfl (by (try simp only [mT,mC,mN]);first|done|rfl|(simp only [lD,lT];rfl)) ?_;with_reducible refine (impl_closure.calls k _ _ l90 a0 t267 _ ?side1 ?side2 A2.out).mono ?_
  (case side1=>repeat (first|exact (cB HR90.out HB.out)|(with_reducible first|refine cL ?_ _|refine cN ?_ _|refine cW ?_)));(case side2=>exact HC90.out);rintro e w5 ⟨rfl,hb⟩;refine ⟨_,rfl,?_⟩;have n0_:=qK (qB (g:=B0) (o:=_) (by (with_reducible repeat (first|refine qN ?_ _|refine qW ?_|refine qL ?_ _));exact BK265.out) hb);have n1_:=qK (qB (g:=B1) (o:=_) (by (with_reducible repeat (first|refine qN ?_ _|refine qW ?_|refine qL ?_ _));exact BK266.out) hb);have n2_:=qK (qT (by repeat (with_reducible first|exact HB.out|apply qA|apply qD|apply qO|refine qS ?_ GE265.out|refine qS ?_ GE266.out)) hb);clear BK265;clear BK266;clear HB;have BK265:=n0_;have BK266:=n1_;have HB:=n2_;clear n0_ n1_ n2_;(try clear hb);refine hK.out _ _ ⟨(qC BK265.out 0).trans rfl,(qC BK266.out 0).trans rfl⟩ (fun hHeld=>?_);clear hK K;refine norm_ (a':=?_) ?_ ?_;rotate_left
  ·show Act.put _ (some 8) _=_
   simp only [Act.put,sIb,sZ,sS,i64_w,i32_w];rfl
  refine pure_ (i:=4) (N:=some 10) (v:=?_) (a':=?_) #[Y,Y,Y,Y,Y,Z] rfl rfl (by kernel_rfl) (fun _ _ _ h=>h) (Or.inl ⟨by rfl,?_⟩) ?_ ?_;rotate_left
  ·intro w';go_simp;with_reducible rfl
  rotate_left
  ·simp only [Act.put,sIb,sZ,sS,i64_w,i32_w];rfl
  refine pure_ (i:=5) (N:=some 5) (v:=?_) (a':=?_) #[Y,Y,Y,Y,Y,Y] rfl rfl (by kernel_rfl) (fun _ _ _ h=>h) (Or.inl ⟨by rfl,?_⟩) ?_ ?_;rotate_left
  ·intro w';go_simp;with_reducible rfl
  rotate_left
  ·simp only [Act.put,sIb,sZ,sS,i64_w,i32_w];rfl
  refine done_ (by kernel_rfl) ?_;try go_wp2
  go_ret
  exact ⟨by first|rfl|(simp [errW_none,errW_some] <;> rfl)|(simp [*,errW_none,errW_some] <;> rfl),by repeat (first|(with_reducible first|exact HB.out|apply qA|apply qD|apply qO|refine qS ?_ GE265.out|refine qS ?_ GE266.out)|exact HB.out)⟩
 ·rw [if_neg c3] at H;have c3b0:((Go.bits .and .i64 t267 a91) == a0)=false:=beq_eq_false_iff_ne.mpr c3;have c3b1:((Go.bits .and .i64 t267 a91) != a0)=true:=bne_iff_ne.mpr c3;obtain rfl:=Option.some.inj H;go_enter Try.func48,Try.ntmps48
  try go_wp2
  have n0_:=qK (qW BK265.out);have n1_:=qK (qW BK266.out);have n2_:=qK (qO HB.out);clear BK265;clear BK266;clear HB;have BK265:=n0_;have BK266:=n1_;have HB:=n2_;clear n0_ n1_ n2_;refine start_ (n:=6) (S:=fun w'=>w'.cell? ⟨B0,0,none⟩=some (.slice A90 l90.length c90)∧w'.cell? ⟨B1,0,none⟩=some (.int .i64 a91)) (ds:=[]) #[Z,Z,Z,Z,Z,Z] (by kernel_rfl) rfl rfl ⟨(qC BK265.out 0).trans rfl,(qC BK266.out 0).trans rfl⟩ (fun hHeld=>?_);generalize w.drew=w6 at BK265 BK266 HB hHeld ⊢
  refine pure_ (i:=1) (N:=some 7) (v:=?_) (a':=?_) #[Z,Y,Z,Z,Z,Z] rfl rfl (by kernel_rfl) (fun _ _ _ h=>h) (Or.inl ⟨by rfl,?_⟩) ?_ ?_;rotate_left
  ·intro w';go_simp;with_reducible rfl
  rotate_left
  ·simp only [Act.put,sIb,sZ,sS,i64_w,i32_w];rfl
  refine take_ (i:=0) (N:=some 6) (v:=?_) (a':=?_) #[Y,Y,Z,Z,Z,Z] rfl rfl (by kernel_rfl) (fun _ _ _ h=>h) (Or.inl ⟨by rfl,?_⟩) hHeld ?_ ?_;rotate_left
  ·rintro w' ⟨s0,s1⟩;go_simp;with_reducible rfl
  rotate_left
  ·simp only [Act.put,sIb,sZ,sS,i64_w,i32_w];rfl
  refine take_ (i:=3) (N:=some 9) (v:=?_) (a':=?_) #[Y,Y,Z,Y,Z,Z] rfl rfl (by kernel_rfl) (fun _ _ _ h=>h) (Or.inl ⟨by rfl,?_⟩) hHeld ?_ ?_;rotate_left
  ·rintro w' ⟨s0,s1⟩;go_simp;with_reducible rfl
  rotate_left
  ·simp only [Act.put,sIb,sZ,sS,i64_w,i32_w];rfl
  refine one_ (i:=2) (N:=some 8) #[Y,Y,Y,Y,Z,Z] rfl rfl (by kernel_rfl) (by decide) (fun K hK=>?_);refine goes_ Try.func32 (by kernel_rfl) rfl #[.slice A90 l90.length c90,.int .i64 a0] (by rfl) rfl rfl (by (try simp only [mT,mC,mN]);first|done|rfl|(simp only [lD,lT];rfl)) ?_;with_reducible refine (impl_closure.calls k _ _ l90 a0 t267 _ ?side1 ?side2 A2.out).mono ?_
  (case side1=>repeat (first|exact (cB HR90.out HB.out)|(with_reducible first|refine cL ?_ _|refine cN ?_ _|refine cW ?_)));(case side2=>exact HC90.out);rintro e w7 ⟨rfl,hb⟩;refine ⟨_,rfl,?_⟩;have n0_:=qK (qB (g:=B0) (o:=_) (by (with_reducible repeat (first|refine qN ?_ _|refine qW ?_|refine qL ?_ _));exact BK265.out) hb);have n1_:=qK (qB (g:=B1) (o:=_) (by (with_reducible repeat (first|refine qN ?_ _|refine qW ?_|refine qL ?_ _));exact BK266.out) hb);have n2_:=qK (qT (by repeat (with_reducible first|exact HB.out|apply qA|apply qD|apply qO|refine qS ?_ GE265.out|refine qS ?_ GE266.out)) hb);clear BK265;clear BK266;clear HB;have BK265:=n0_;have BK266:=n1_;have HB:=n2_;clear n0_ n1_ n2_;(try clear hb);refine hK.out _ _ ⟨(qC BK265.out 0).trans rfl,(qC BK266.out 0).trans rfl⟩ (fun hHeld=>?_);clear hK K;refine norm_ (a':=?_) ?_ ?_;rotate_left
  ·show Act.put _ (some 8) _=_
   simp only [Act.put,sIb,sZ,sS,i64_w,i32_w];rfl
  refine pure_ (i:=4) (N:=some 10) (v:=?_) (a':=?_) #[Y,Y,Y,Y,Y,Z] rfl rfl (by kernel_rfl) (fun _ _ _ h=>h) (Or.inl ⟨by rfl,?_⟩) ?_ ?_;rotate_left
  ·intro w';go_simp;with_reducible rfl
  rotate_left
  ·simp only [Act.put,sIb,sZ,sS,i64_w,i32_w];rfl
  refine pure_ (i:=5) (N:=some 5) (v:=?_) (a':=?_) #[Y,Y,Y,Y,Y,Y] rfl rfl (by kernel_rfl) (fun _ _ _ h=>h) (Or.inl ⟨by rfl,?_⟩) ?_ ?_;rotate_left
  ·intro w';go_simp;with_reducible rfl
  rotate_left
  ·simp only [Act.put,sIb,sZ,sS,i64_w,i32_w];rfl
  refine done_ (by kernel_rfl) ?_;have hcz8_0:w7.cell? ⟨B1,0,none⟩=some (.int .i64 a91):=(qC BK266.out 0).trans rfl;have hfz8_0:=qF BK266.out 0;try go_wp2
  go_ret
  exact ⟨by first|rfl|(simp [errW_none,errW_some] <;> rfl)|(simp [*,errW_none,errW_some] <;> rfl),by repeat (first|(with_reducible first|exact HB.out|apply qA|apply qD|apply qO|refine qS ?_ GE265.out|refine qS ?_ GE266.out)|exact HB.out)⟩

/-! ### areAll_impl_isNormal_1: function 47, handed function 48 -/
def areAll_impl_isNormal_1.f (k : Nat) (l : List Int) (l90 : List (S72)) (a91 : Int) : Option Bool := if l.all (fun d => (impl_isNormal_1.f k d l90 a91).isSome) = true then some (l.all (fun d => (impl_isNormal_1.f k d l90 a91).getD false)) else none
theorem areAll_impl_isNormal_1.mono : ∀ a0_ a1_ a2_ k, LeO (areAll_impl_isNormal_1.f k a0_ a1_ a2_) (areAll_impl_isNormal_1.f (k + 1) a0_ a1_ a2_) := by
  intro l l90 a91 k r h
  unfold areAll_impl_isNormal_1.f at h ⊢
  by_cases hs : l.all (fun d => (impl_isNormal_1.f k d l90 a91).isSome) = true
  case neg => rw [if_neg hs] at h; cases h
  rw [if_pos hs] at h
  have hx : ∀ d ∈ l, impl_isNormal_1.f (k + 1) d l90 a91 = impl_isNormal_1.f k d l90 a91 := by
    intro d hd
    obtain ⟨r, hr⟩ := Option.isSome_iff_exists.1 (List.all_eq_true.1 hs d hd)
    rw [hr]; exact impl_isNormal_1.mono _ _ _ k r hr
  rw [if_pos (List.all_eq_true.2 fun d hd => by rw [hx d hd]; exact List.all_eq_true.1 hs d hd), ← h]
  congr 1
  exact all_same fun d hd => by rw [hx d hd]
theorem areAll_impl_isNormal_1.calls (k : Nat) (A : Option Addr) (c : Nat) (l : List Int) (B0 : Nat) (A90 : Option Addr) (c90 : Nat) (l90 : List (S72)) (B1 : Nat) (a91 : Int) (r : Bool) (w : World) (hr : Kd.C (Kd.int .i64) w A l.length l) (hc : l.length ≤ c) (hr90 : Kd.C k72 w A90 l90.length l90) (hc90 : l90.length ≤ c90) (hq0 : w.heap[B0]? = some (.cells #[.slice A90 l90.length c90] 50 (0, 0))) (hq1 : w.heap[B1]? = some (.cells #[.int .i64 a91] 52 (0, 0))) (h : areAll_impl_isNormal_1.f k l l90 a91 = some r) :
    Calls Try.prog 47 #[.slice A l.length c, .func (.func 48) #[] #[.pointer (some ⟨B0, 0, none⟩), .pointer (some ⟨B1, 0, none⟩)]] w fun e w' => e = .returned (.bool r) ∧ Below w.heap.size w w' := by
  unfold areAll_impl_isNormal_1.f at h
  by_cases hs : l.all (fun d => (impl_isNormal_1.f k d l90 a91).isSome) = true
  case neg => rw [if_neg hs] at h; cases h
  rw [if_pos hs] at h
  obtain rfl : l.all (fun d => (impl_isNormal_1.f k d l90 a91).getD false) = r := Option.some.inj h
  refine areAll_Set.calls A c l 48 _ _ w (enters_of Try.func48 (by kernel_rfl) rfl) hr ?_
  intro W d v hd hW hv
  obtain ⟨r_, hr_⟩ := Option.isSome_iff_exists.1 (List.all_eq_true.1 hs d hd)
  obtain rfl : v = .int .i64 d := by simpa using (List.cons.inj hv).1
  refine (impl_isNormal_1.calls (w := W) (hr90 := Kd.C_below hr90 hW) (hc90 := hc90) (hq0 := blk_below hq0 hW) (hq1 := blk_below hq1 hW) (h := hr_)).mono ?_
  rintro e w' ⟨rfl, hb⟩
  exact ⟨by show _ = Ending.returned (Value.bool ((impl_isNormal_1.f k d l90 a91).getD false)); rw [hr_]; rfl, hb⟩

/-! ### impl_isNormal: function 24 -/
def impl_isNormal.f (k:Nat) (l0:List (S72)) (a1:Int):Option (Bool):=(impl_partsOf.f k a1).bind fun t270=>((areAll_impl_isNormal_1.f k t270 l0 a1).bind fun t273=>(some t273))
theorem impl_isNormal.mono : ∀ a0 a1 k,LeO (impl_isNormal.f k a0 a1) (impl_isNormal.f (k + 1) a0 a1):=by
 intro a0 a1 k;unfold impl_isNormal.f
 repeat' first
   | (with_reducible exact areAll_impl_isNormal_1.mono _ _ _ _)
   | (with_reducible exact impl_partsOf.mono _ _)
   | (with_reducible exact LeO.refl _)
   | (with_reducible exact LeO.none _)
   | (with_reducible refine LeO.ite ?_ ?_)
   | (with_reducible refine LeO.bind ?_ (fun _=>?_))
   | exact areAll_impl_isNormal_1.mono _ _ _ _
   | exact impl_partsOf.mono _ _
   | exact LeO.none _
   | refine LeO.ite ?_ ?_
   | refine LeO.bind ?_ (fun _=>?_)
set_option maxHeartbeats 8000000 in
set_option maxRecDepth 100000 in
theorem impl_isNormal.calls (k:Nat) (A0:Option Addr) (c0:Nat) (l0:List (S72)) (a1:Int) (r:Bool) (w:World) (hr0:Kd.C k72 w A0 l0.length l0) (hc0:l0.length≤c0) (h:impl_isNormal.f k l0 a1=some r) :
  Calls Try.prog 24 #[.slice A0 l0.length c0,.int .i64 a1] w fun e w'=>e=.returned (.bool r)∧Below w.heap.size w w':=by
 have HR0:=qK hr0;have HC0:=qK hc0;clear hr0 hc0;have HB:=qK (Below.refl w.heap.size w);have H:((impl_partsOf.f k a1).bind fun t270=>((areAll_impl_isNormal_1.f k t270 l0 a1).bind fun t273=>(some t273)))=some r:=h;clear h;replace H:=Option.bind_eq_some_iff.mp H;obtain ⟨t270,A30,H⟩:=H;replace H:((areAll_impl_isNormal_1.f k t270 l0 a1).bind fun t273=>(some t273))=some r:=H;have A3:=qK A30;clear A30;replace H:=Option.bind_eq_some_iff.mp H;obtain ⟨t273,A40,H⟩:=H;replace H:(some t273)=some r:=H;have A4:=qK A40;clear A40;obtain rfl:=Option.some.inj H;go_enter Try.func24,Try.ntmps24
 go_wp2_with (first|((with_reducible refine gate_dst (N:=2) rfl ?_);refine box_event ?hg (N:=2) ?hd (cs:=#[.slice A0 l0.length c0]) (t:=50) ?hr ?_;(case hd=>rfl);(case hg=>rfl);(case hr=>(go_simp;try rfl));intro gb268 hg w5 hbox hb;have n0_:=qK (qT (by repeat (with_reducible first|exact HB.out|apply qA|apply qD|apply qO)) hb);have n1_:=qK (hbox);have n2_:=qK ((by rw [hg];exact (qZ (by repeat (with_reducible first|exact HB.out|apply qA|apply qD|apply qO))):w.heap.size≤gb268));have n3_:=qK ((by rw [hg];exact (qZ (by repeat (with_reducible first|exact HB.out|apply qA|apply qD|apply qO))):w.heap.size≤gb268));clear HB;have HB:=n0_;have BK268:=n1_;have GW268:=n2_;have GE268:=n3_;clear n0_ n1_ n2_ n3_;clear hb hbox hg)|((with_reducible refine gate_dst (N:=3) rfl ?_);refine box_event ?hg (N:=3) ?hd (cs:=#[.int .i64 a1]) (t:=52) ?hr ?_;(case hd=>rfl);(case hg=>rfl);(case hr=>(go_simp;try rfl));intro gb269 hg w6 hbox hb;have n0_:=qK (qB (g:=gb268) (o:=_) (by (with_reducible repeat (first|refine qN ?_ _|refine qW ?_|refine qL ?_ _));exact BK268.out) hb);have n1_:=qK (qT (by repeat (with_reducible first|exact HB.out|apply qA|apply qD|apply qO|refine qS ?_ GE268.out)) hb);have n2_:=qK (hbox);have n3_:=qK ((by rw [hg];exact (qZ (by repeat (with_reducible first|exact HB.out|apply qA|apply qD|apply qO|refine qS ?_ GE268.out))):w.heap.size≤gb269));have n4_:=qK ((by rw [hg];exact (qZ (by repeat (with_reducible first|exact HB.out|apply qA|apply qD|apply qO|refine qS ?_ GE268.out))):w.heap.size≤gb269));have n5_:=qK ((by rw [hg];exact Nat.ne_of_lt (blk_lt (g:=gb268) (o:=_) (by (with_reducible repeat (first|refine qN ?_ _|refine qW ?_|refine qL ?_ _));exact BK268.out)):gb268 ≠ gb269));have n6_:=qK ((by rw [hg];exact Nat.ne_of_gt (blk_lt (g:=gb268) (o:=_) (by (with_reducible repeat (first|refine qN ?_ _|refine qW ?_|refine qL ?_ _));exact BK268.out)):gb269 ≠ gb268));clear BK268;clear HB;have BK268:=n0_;have HB:=n1_;have BK269:=n2_;have GW269:=n3_;have GE269:=n4_;have NB268_269:=n5_;have NB269_268:=n6_;clear n0_ n1_ n2_ n3_ n4_ n5_ n6_;clear hb hbox hg;have hnb7:=NB269_268.out;have hnc7:=NB268_269.out;have hcz8_0:w6.cell? ⟨gb269,0,none⟩=some (.int .i64 a1):=(qC BK269.out 0).trans rfl;have hfz8_0:=qF BK269.out 0)|((with_reducible refine gate_callee (f:=30) rfl ?_);refine goesL_ (some 6) rfl rfl Try.func30 (by kernel_rfl) rfl #[.int .i64 a1] rfl (by (try simp only [mT,mC,mN]);first|done|rfl|(simp only [lD,lT];rfl)) ?_;(with_reducible refine (impl_partsOf.calls k a1 t270 _ A3.out).mono ?_);rintro e w9 ⟨v271,rfl,ho0,hb⟩;refine ⟨_,rfl,?_⟩;have n0_:=qK (Kd.R_lower (Kd.R_newB ho0 (g:=gb269) (o:=_) (by (with_reducible repeat (first|refine qN ?_ _|refine qW ?_|refine qL ?_ _));exact BK269.out)) (qZ (by repeat (with_reducible first|exact HB.out|apply qA|apply qD|apply qO|refine qS ?_ GE268.out|refine qS ?_ GE269.out))));have n1_:=qK (qB (g:=gb268) (o:=_) (by (with_reducible repeat (first|refine qN ?_ _|refine qW ?_|refine qL ?_ _));exact BK268.out) hb);have n2_:=qK (qB (g:=gb269) (o:=_) (by (with_reducible repeat (first|refine qN ?_ _|refine qW ?_|refine qL ?_ _));exact BK269.out) hb);have n3_:=qK (qT (by repeat (with_reducible first|exact HB.out|apply qA|apply qD|apply qO|refine qS ?_ GE268.out|refine qS ?_ GE269.out)) hb);clear BK268;clear BK269;clear HB;have HO272:=n0_;have BK268:=n1_;have BK269:=n2_;have HB:=n3_;clear n0_ n1_ n2_ n3_;(try clear hb);(try clear ho0);obtain ⟨Ao10,co10,eo10⟩:=Kd.R_slice HO272.out;subst eo10)|((with_reducible refine gate_callee (f:=47) rfl ?_);refine goesL_ (some 8) rfl rfl Try.func47 (by kernel_rfl) rfl #[.slice Ao10 t270.length co10,.func (.func 48) #[] #[.pointer (some ⟨gb268,0,none⟩),.pointer (some ⟨gb269,0,none⟩)]] rfl (by (try simp only [mT,mC,mN]);first|done|rfl|(simp only [lD,lT];rfl)) ?_;(with_reducible refine (areAll_impl_isNormal_1.calls k _ _ t270 gb268 A0 c0 l0 gb269 a1 t273 _ ?side1 ?side2 ?side3 ?side4 ?side5 ?side6 A4.out).mono ?_);(case side1=>repeat (first|exact (Kd.R_reads' HO272.out).2.2|(with_reducible first|refine cL ?_ _|refine cN ?_ _|refine cW ?_)));(case side2=>exact (Kd.R_reads' HO272.out).2.1);(case side3=>repeat (first|exact (cB HR0.out HB.out)|(with_reducible first|refine cL ?_ _|refine cN ?_ _|refine cW ?_)));(case side4=>exact HC0.out);(case side5=>exact (by (with_reducible repeat (first|refine qN ?_ _|refine qW ?_|refine qL ?_ _));exact BK268.out));(case side6=>exact (by (with_reducible repeat (first|refine qN ?_ _|refine qW ?_|refine qL ?_ _));exact BK269.out));rintro e w11 ⟨rfl,hb⟩;refine ⟨_,rfl,?_⟩;have n0_:=qK (rB (by (with_reducible repeat (first|apply rL|apply rN|apply rW));exact HO272.out) hb);have n1_:=qK (qB (g:=gb268) (o:=_) (by (with_reducible repeat (first|refine qN ?_ _|refine qW ?_|refine qL ?_ _));exact BK268.out) hb);have n2_:=qK (qB (g:=gb269) (o:=_) (by (with_reducible repeat (first|refine qN ?_ _|refine qW ?_|refine qL ?_ _));exact BK269.out) hb);have n3_:=qK (qT (by repeat (with_reducible first|exact HB.out|apply qA|apply qD|apply qO|refine qS ?_ GE268.out|refine qS ?_ GE269.out)) hb);clear HO272;clear BK268;clear BK269;clear HB;have HO272:=n0_;have BK268:=n1_;have BK269:=n2_;have HB:=n3_;clear n0_ n1_ n2_ n3_;(try clear hb)))
 go_ret
 exact ⟨by first|rfl|(simp [errW_none,errW_some] <;> rfl)|(simp [*,errW_none,errW_some] <;> rfl),by repeat (first|(with_reducible first|exact HB.out|apply qA|apply qD|apply qO|refine qS ?_ GE268.out|refine qS ?_ GE269.out)|exact HB.out)⟩

/-! ### impl_setOf: function 26 -/
def impl_setOf.l0 : Nat→Int→List Int→Int→Int→Option (Int)
 | 0,_,_,_,_=>none
 | k + 1,x3,x6,x7,x8=>if x8 < x7 then (if 0≤x8 then (if x8 < (x6.length:Int) then (if 0≤(rd x6 x8) then (impl_setOf.l0 k (Go.bits .or .i64 x3 (shl .i64 1 (rd x6 x8))) x6 x7 (wrap64 (x8 + 1))) else (none)) else (none)) else (none)) else (some x3)
def impl_setOf.f (k:Nat) (l0:List Int):Option (Int):=impl_setOf.l0 k 0 l0 (l0.length:Int) 0
theorem impl_setOf.mono_l : ∀ k,(∀ y0 y1 y2 y3,LeO (impl_setOf.l0 k y0 y1 y2 y3) (impl_setOf.l0 (k + 1) y0 y1 y2 y3))
 | 0=>fun _ _ _ _ r h=>by simp [impl_setOf.l0] at h
 | k + 1=>by
  have ih0:=impl_setOf.mono_l k
  ·intro y0 y1 y2 y3;unfold impl_setOf.l0
   repeat' first
   | (with_reducible exact ih0 _ _ _ _)
   | (with_reducible exact LeO.refl _)
   | (with_reducible exact LeO.none _)
   | (with_reducible refine LeO.ite ?_ ?_)
   | (with_reducible refine LeO.bind ?_ (fun _=>?_))
   | exact ih0 _ _ _ _
   | exact LeO.none _
   | refine LeO.ite ?_ ?_
   | refine LeO.bind ?_ (fun _=>?_)
theorem impl_setOf.mono : ∀ a0 k,LeO (impl_setOf.f k a0) (impl_setOf.f (k + 1) a0):=by
 intro a0 k;have ih0:=impl_setOf.mono_l k;unfold impl_setOf.f
 repeat' first
   | (with_reducible exact ih0 _ _ _ _)
   | (with_reducible exact LeO.refl _)
   | (with_reducible exact LeO.none _)
   | (with_reducible refine LeO.ite ?_ ?_)
   | (with_reducible refine LeO.bind ?_ (fun _=>?_))
   | exact ih0 _ _ _ _
   | exact LeO.none _
   | refine LeO.ite ?_ ?_
   | refine LeO.bind ?_ (fun _=>?_)
set_option maxHeartbeats 8000000 in
set_option maxRecDepth 100000 in
theorem impl_setOf.calls (k:Nat) (A0:Option Addr) (c0:Nat) (l0:List Int) (r:Int) (w:World) (hr0:Kd.C (Kd.int .i64) w A0 l0.length l0) (hc0:l0.length≤c0) (h:impl_setOf.f k l0=some r) :
  Calls Try.prog 26 #[.slice A0 l0.length c0] w fun e w'=>e=.returned (.int .i64 r)∧Drawn0 w w':=by
 have HR0:=qK hr0;have HC0:=qK hc0;clear hr0 hc0;have H:(impl_setOf.l0 k 0 l0 (l0.length:Int) 0)=some r:=h;clear h;have H':=qK H;clear H;go_enter Try.func26,Try.ntmps26
 go_wp2
 go_loopg [3,8] k (fun kq v3 v8 w'=>∃ (x3_1:Int) (x8_1:Int),v3=.int .i64 x3_1∧v8=.int .i64 x8_1∧Aside0 (impl_setOf.l0 kq x3_1 l0 (l0.length:Int) x8_1=some r)∧Aside0 (kq≤k)∧Drawn0 w w')
 case atStart=>exact ⟨(0),(0),(by first|rfl|(simp;done)|(simp [*];done)),(by first|rfl|(simp;done)|(simp [*];done)),H',⟨Nat.le_refl _⟩,by repeat (first|exact Drawn0.refl _|apply Drawn0.step)⟩
 case round =>
  clear H';obtain ⟨x3_1,x8_1,rfl,rfl,HA,HK1,⟨m1,rfl⟩⟩:=hrel;cases gk with
  | zero=>exact absurd HA.out (by simp [impl_setOf.l0])
  | succ k1 =>
   have H:=HA.out;clear HA;simp only [impl_setOf.l0] at H;by_cases c2:x8_1 < (l0.length:Int)
   ·rw [if_pos c2] at H;have c2b0:decide (x8_1 < (l0.length:Int))=true:=decide_eq_true c2;clear c2;by_cases c3:0≤x8_1
    ·rw [if_pos c3] at H;have c3b0:decide (0≤x8_1)=true:=decide_eq_true c3;clear c3;by_cases c4:x8_1 < (l0.length:Int)
     ·rw [if_pos c4] at H;have c4b0:decide (x8_1 < (l0.length:Int))=true:=decide_eq_true c4;clear c4;by_cases c5:0≤(rd l0 x8_1)
      ·rw [if_pos c5] at H;have c5b0:=eq_true c5;have c5b1:decide (0≤(rd l0 x8_1))=true:=decide_eq_true c5;clear c5;obtain ⟨ji6,hji6⟩:∃ j_:Int,(shl .i64 1 (rd l0 x8_1))=j_:=⟨_,rfl⟩;replace H:(impl_setOf.l0 k1 (Go.bits .or .i64 x3_1 (ji6)) l0 (l0.length:Int) (wrap64 (x8_1 + 1)))=some r:=by first|(rw [hji6] at H;exact H)|(simp only [hji6] at H ⊢;exact H)
       have hji6_:(IntKind.i64.wrap (1 * 2 ^ min (rd l0 x8_1).toNat 64))=ji6:=hji6;have hji6z:(rd l0 x8_1)≤64→(IntKind.i64.wrap (1 * 2 ^ (rd l0 x8_1).toNat))=ji6:=shl_small hji6;have hji6u:(IntKind.i64.wrap (2 ^ min (rd l0 x8_1).toNat 64))=ji6:=by have h_:=hji6_;rw [Int.one_mul] at h_;exact h_
       have hji6v:(rd l0 x8_1)≤64→(IntKind.i64.wrap (2 ^ (rd l0 x8_1).toNat))=ji6:=fun hle_=>by have h_:=hji6z hle_;rw [Int.one_mul] at h_;exact h_
       have hji6y:(wrap64 (1 * 2 ^ min (rd l0 x8_1).toNat 64))=ji6:=(i64_w _).symm.trans hji6_;have hji6x:(rd l0 x8_1)≤64→(wrap64 (1 * 2 ^ (rd l0 x8_1).toNat))=ji6:=fun h_=>(i64_w _).symm.trans (hji6z h_)
       have H':=qK H;clear H;have p274:0≤(x8_1:Int):=of_decide_eq_true (by first|(with_reducible assumption)|assumption);have q274:x8_1 < (l0.length:Int):=of_decide_eq_true (by first|(with_reducible assumption)|assumption);obtain ⟨ad274,e274,hx274_0⟩:=Kd.at_int HR0.out x8_1 p274 q274;cases e274
       replace p274:=eq_true p274;replace q274:=eq_true q274;go_wp2
       go_roundg k1
       case measure=>have:=HK1.out;omega
       case rel=>exact ⟨(Go.bits .or .i64 x3_1 (ji6)),(wrap64 (x8_1 + 1)),(by first|rfl|(simp;done)|(simp only [← hji6] <;> (first|rfl|simp))|(simp [*];done)),(by first|rfl|(simp;done)|(simp [*];done)),H',⟨by have:=HK1.out;omega⟩,by repeat (first|exact Drawn0.refl _|apply Drawn0.step)⟩
      ·rw [if_neg c5] at H;exact absurd H (by simp)
     ·rw [if_neg c4] at H;exact absurd H (by simp)
    ·rw [if_neg c3] at H;exact absurd H (by simp)
   ·rw [if_neg c2] at H;have c2b0:decide (x8_1 < (l0.length:Int))=false:=decide_eq_false c2;clear c2;obtain rfl:=Option.some.inj H;go_wp2
    go_ret
    exact ⟨by first|rfl|(simp;done)|(simp [*];done),by repeat (first|exact Drawn0.refl _|apply Drawn0.step)⟩

/-! ### impl_rulesOf: function 25 -/
def impl_rulesOf.l0 : Nat→List (S72)→List (S45)→Int→Int→Option ((List (S72)))
 | 0,_,_,_,_=>none
 | k + 1,x3,x6,x7,x8=>if x8 < x7 then (if 0≤x8 then (if x8 < (x6.length:Int) then ((impl_setOf.f k ((rd_T45 x6 x8).f0)).bind fun t277=>((impl_setOf.f k ((rd_T45 x6 x8).f1)).bind fun t278=>(if x3.length < 8796093022208 then (impl_rulesOf.l0 k (x3 ++ [(⟨t277,t278⟩:S72)]) x6 x7 (wrap64 (x8 + 1))) else (none)))) else (none)) else (none)) else (some x3)
def impl_rulesOf.f (k:Nat) (l0:List (S45)):Option ((List (S72))):=impl_rulesOf.l0 k ([]:List (S72)) l0 (l0.length:Int) 0
theorem impl_rulesOf.mono_l : ∀ k,(∀ y0 y1 y2 y3,LeO (impl_rulesOf.l0 k y0 y1 y2 y3) (impl_rulesOf.l0 (k + 1) y0 y1 y2 y3))
 | 0=>fun _ _ _ _ r h=>by simp [impl_rulesOf.l0] at h
 | k + 1=>by
  have ih0:=impl_rulesOf.mono_l k
  ·intro y0 y1 y2 y3;unfold impl_rulesOf.l0
   repeat' first
   | (with_reducible exact ih0 _ _ _ _)
   | (with_reducible exact impl_setOf.mono _ _)
   | (with_reducible exact LeO.refl _)
   | (with_reducible exact LeO.none _)
   | (with_reducible refine LeO.ite ?_ ?_)
   | (with_reducible refine LeO.bind ?_ (fun _=>?_))
   | exact ih0 _ _ _ _
   | exact impl_setOf.mono _ _
   | exact LeO.none _
   | refine LeO.ite ?_ ?_
   | refine LeO.bind ?_ (fun _=>?_)
theorem impl_rulesOf.mono : ∀ a0 k,LeO (impl_rulesOf.f k a0) (impl_rulesOf.f (k + 1) a0):=by
 intro a0 k;have ih0:=impl_rulesOf.mono_l k;unfold impl_rulesOf.f
 repeat' first
   | (with_reducible exact ih0 _ _ _ _)
   | (with_reducible exact impl_setOf.mono _ _)
   | (with_reducible exact LeO.refl _)
   | (with_reducible exact LeO.none _)
   | (with_reducible refine LeO.ite ?_ ?_)
   | (with_reducible refine LeO.bind ?_ (fun _=>?_))
   | exact ih0 _ _ _ _
   | exact impl_setOf.mono _ _
   | exact LeO.none _
   | refine LeO.ite ?_ ?_
   | refine LeO.bind ?_ (fun _=>?_)
def impl_rulesOf.T5 : Bool × List (List Nat × List Nat):=(true,[([],[]),([],[]),([1],[1]),([2],[2]),([],[]),([4],[4]),([5,3],[5]),([3,6],[3,6]),([7],[7]),([0,8,6],[0,8]),([9,9,0,1,2,3,4,5,6,7,8,9],[0,9])])
def impl_rulesOf.B5 : List Nat:=[0,0,2,6,0,16,62,126,254,511,1023]
theorem impl_rulesOf.tab5 : rtab .any (opsOf Try.f25 5)=impl_rulesOf.T5:=by kernel_rfl
theorem impl_rulesOf.bits5 : waitsOk impl_rulesOf.T5.2 impl_rulesOf.B5=true:=by kernel_rfl
set_option maxHeartbeats 8000000 in
set_option maxRecDepth 100000 in
theorem impl_rulesOf.calls (k:Nat) (A0:Option Addr) (c0:Nat) (l0:List (S45)) (r:List (S72)) (w:World) (hr0:Kd.C k45 w A0 l0.length l0) (hc0:l0.length≤c0) (h:impl_rulesOf.f k l0=some r) :
  Calls Try.prog 25 #[.slice A0 l0.length c0] w fun e w'=>∃ v0_:Value,e=.returned (v0_)∧Kd.R k72 72 w' w.heap.size (fun _=>True) v0_ r∧Below w.heap.size w w':=by
 have hu45:=Try.underlying45;have hu72:=Try.underlying72;have HR0:=qK hr0;have HC0:=qK hc0;clear hr0 hc0;have HB:=qK (Below.refl w.heap.size w);have H:(impl_rulesOf.l0 k ([]:List (S72)) l0 (l0.length:Int) 0)=some r:=h;clear h;have H':=qK H;clear H;go_enter Try.func25,Try.ntmps25
 go_wp2
 go_loopg [3,8] k (fun kq v3 v8 w'=>∃ (x3_1:List (S72)) (x8_1:Int),v8=.int .i64 x8_1∧Aside0 (impl_rulesOf.l0 kq x3_1 l0 (l0.length:Int) x8_1=some r)∧Aside0 (kq≤k)∧Aside0 (Kd.R k72 72 w' w.heap.size (fun _=>True) v3 x3_1)∧Aside0 (Below w.heap.size w w'))
 case atStart=>exact ⟨(([]:List (S72))),(0),(by first|rfl|(simp;done)|(simp [*];done)),H',⟨Nat.le_refl _⟩,⟨by first|exact Kd.R_nil _ _ _ _ _|exact Kd.N_nil _ _ _ _ _|exact Kd.V_nil _ _ _ _ _|exact Kd.Q_nil _ _ _ _ _|exact Kd.S_nil _ _ _ _ _⟩,⟨by repeat (first|(with_reducible first|exact HB.out|apply qA|apply qD|apply qO)|exact HB.out)⟩⟩
 case round =>
  clear H';obtain ⟨x3_1,x8_1,rfl,HA,HK1,HO_3,HB⟩:=hrel;cases gk with
  | zero=>exact absurd HA.out (by simp [impl_rulesOf.l0])
  | succ k1 =>
   have H:=HA.out;clear HA;simp only [impl_rulesOf.l0] at H;by_cases c2:x8_1 < (l0.length:Int)
   ·rw [if_pos c2] at H;have c2b0:decide (x8_1 < (l0.length:Int))=true:=decide_eq_true c2;clear c2;by_cases c3:0≤x8_1
    ·rw [if_pos c3] at H;have c3b0:decide (0≤x8_1)=true:=decide_eq_true c3;clear c3;by_cases c4:x8_1 < (l0.length:Int)
     ·rw [if_pos c4] at H;have c4b0:decide (x8_1 < (l0.length:Int))=true:=decide_eq_true c4;clear c4;replace H:=Option.bind_eq_some_iff.mp H;obtain ⟨t277,A50,H⟩:=H;replace H:((impl_setOf.f k1 ((rd_T45 l0 x8_1).f1)).bind fun t278=>(if x3_1.length < 8796093022208 then (impl_rulesOf.l0 k1 (x3_1 ++ [(⟨t277,t278⟩:S72)]) l0 (l0.length:Int) (wrap64 (x8_1 + 1))) else (none)))=some r:=H;have A5:=qK A50;clear A50;replace H:=Option.bind_eq_some_iff.mp H;obtain ⟨t278,A60,H⟩:=H;replace H:(if x3_1.length < 8796093022208 then (impl_rulesOf.l0 k1 (x3_1 ++ [(⟨t277,t278⟩:S72)]) l0 (l0.length:Int) (wrap64 (x8_1 + 1))) else (none))=some r:=H;have A6:=qK A60;clear A60;by_cases c7:x3_1.length < 8796093022208
      ·rw [if_pos c7] at H;have LMc7:=qK c7;clear c7;obtain ⟨y279,hy279⟩:∃ y_:List (S72),y_=(x3_1 ++ [(⟨t277,t278⟩:S72)]):=⟨_,rfl⟩;replace H:(impl_rulesOf.l0 k1 y279 l0 (l0.length:Int) (wrap64 (x8_1 + 1)))=some r:=by first|(rw [hy279];with_reducible exact H)|(have H2_:=(Option.bind_some _ _).symm.trans H;rw [hy279];with_reducible exact H2_)|(have H2_:=(Option.bind_some _ _).symm.trans H;with_reducible exact H2_)|with_reducible exact H|(rw [hy279];exact H)|exact H
       have Ny279:=qK hy279;clear hy279;have H':=qK H;clear H;have p275:0≤(x8_1:Int):=of_decide_eq_true (by first|(with_reducible assumption)|assumption);have q275:x8_1 < (l0.length:Int):=of_decide_eq_true (by first|(with_reducible assumption)|assumption);obtain ⟨ad275,A275_0,c275_0,A275_1,c275_1,e275,hx275_0,hx275_1,hl275_0,hi275_0,hl275_1,hi275_1⟩:=at_T45 HR0.out x8_1 p275 q275;cases e275
       replace hx275_0:=(HB.out.cell (World.block_lt_of_cell? w _ hx275_0)).trans hx275_0;replace hx275_1:=(HB.out.cell (World.block_lt_of_cell? w _ hx275_1)).trans hx275_1;have HR275_0:=qK hi275_0;have HC275_0:=qK hl275_0;clear hi275_0 hl275_0;have HR275_1:=qK hi275_1;have HC275_1:=qK hl275_1;clear hi275_1 hl275_1;replace p275:=eq_true p275;replace q275:=eq_true q275;try go_wp2_with (first|((with_reducible refine gate_dst (N:=5) rfl ?_);refine box_event ?hg (N:=5) ?hd (cs:=#[.slice none 0 0,.slice none 0 0]) (t:=45) ?hr ?_;(case hd=>rfl);(case hg=>rfl);(case hr=>(go_simp;try rfl));intro gb276 hg w8 hbox hb;have n0_:=qK (rB (by (with_reducible repeat (first|apply rL|apply rN|apply rW));exact HO_3.out) hb);have n1_:=qK (qT (by repeat (with_reducible first|exact HB.out|apply qA|apply qD|apply qO)) hb);have n2_:=qK (hbox);have n3_:=qK ((by rw [hg];exact (qZ (by repeat (with_reducible first|exact HB.out|apply qA|apply qD|apply qO))):w.heap.size≤gb276));have n4_:=qK ((by rw [hg];exact (qZ (by repeat (with_reducible first|exact HB.out|apply qA|apply qD|apply qO))):w.heap.size≤gb276));clear HO_3;clear HB;have HO_3:=n0_;have HB:=n1_;have BK276:=n2_;have GW276:=n3_;have GE276:=n4_;clear n0_ n1_ n2_ n3_ n4_;clear hb hbox hg;have hcz9_0:w8.cell? ⟨gb276,0,none⟩=some (.slice none 0 0):=(qC BK276.out 0).trans rfl;have hcz9_1:w8.cell? ⟨gb276,1,none⟩=some (.slice none 0 0):=(qC BK276.out 1).trans rfl;have hfz9_0:=qF BK276.out 0;have hfz9_1:=qF BK276.out 1))
       have n0_:Aside0 (Kd.R k72 72 ((w8.setCell ⟨gb276,0,none⟩ (.slice A275_0 ((rd_T45 l0 x8_1).f0).length c275_0)).setCell ⟨gb276,1,none⟩ (.slice A275_1 ((rd_T45 l0 x8_1).f1).length c275_1)) w.heap.size (fun _=>True) u3 x3_1):=⟨by (with_reducible repeat (first|apply rL|apply rN|apply rW));exact Kd.R_mono (Kd.R_far (p:=⟨gb276,1,none⟩) (Kd.R_far (p:=⟨gb276,0,none⟩) (Kd.R_types HO_3.out BK276.out (by decide)) (fun _ hk=>hk.2) (.slice A275_0 ((rd_T45 l0 x8_1).f0).length c275_0)) (fun _ hk=>hk.2) (.slice A275_1 ((rd_T45 l0 x8_1).f1).length c275_1)) (fun _ hk=>trivial)⟩;have n1_:Aside0 (((w8.setCell ⟨gb276,0,none⟩ (.slice A275_0 ((rd_T45 l0 x8_1).f0).length c275_0)).setCell ⟨gb276,1,none⟩ (.slice A275_1 ((rd_T45 l0 x8_1).f1).length c275_1)).heap[gb276]?=some (.cells #[.slice A275_0 ((rd_T45 l0 x8_1).f0).length c275_0,.slice A275_1 ((rd_T45 l0 x8_1).f1).length c275_1] 45 (0,0))):=⟨by (with_reducible repeat (first|refine qN ?_ _|refine qW ?_|refine qL ?_ _));refine qP (cs:=#[.slice A275_0 ((rd_T45 l0 x8_1).f0).length c275_0,.slice none 0 0]) ?_ 1 _ rfl;(with_reducible repeat (first|refine qN ?_ _|refine qW ?_|refine qL ?_ _));refine qP (cs:=#[.slice none 0 0,.slice none 0 0]) ?_ 0 _ rfl;(with_reducible repeat (first|refine qN ?_ _|refine qW ?_|refine qL ?_ _));exact BK276.out⟩;have n2_:Aside0 (Below w.heap.size w ((w8.setCell ⟨gb276,0,none⟩ (.slice A275_0 ((rd_T45 l0 x8_1).f0).length c275_0)).setCell ⟨gb276,1,none⟩ (.slice A275_1 ((rd_T45 l0 x8_1).f1).length c275_1))):=⟨by repeat (first|(with_reducible first|exact HB.out|apply qA|apply qD|apply qO|refine qS ?_ GE276.out)|exact HB.out)⟩;(try clear HO_3);(try clear BK276);(try clear HB);generalize ((w8.setCell ⟨gb276,0,none⟩ (.slice A275_0 ((rd_T45 l0 x8_1).f0).length c275_0)).setCell ⟨gb276,1,none⟩ (.slice A275_1 ((rd_T45 l0 x8_1).f1).length c275_1))=w10 at n0_ n1_ n2_ ⊢
       have HO_3:=n0_;have BK276:=n1_;have HB:=n2_;clear n0_ n1_ n2_;have n0_:=qK (rW HO_3.out);have n1_:=qK (qW BK276.out);have n2_:=qK (qO HB.out);clear HO_3;clear BK276;clear HB;have HO_3:=n0_;have BK276:=n1_;have HB:=n2_;clear n0_ n1_ n2_;refine start_ (n:=11) (S:=fun w'=>w'.cell? ⟨gb276,0,none⟩=some (.slice A275_0 ((rd_T45 l0 x8_1).f0).length c275_0)∧w'.cell? ⟨gb276,1,none⟩=some (.slice A275_1 ((rd_T45 l0 x8_1).f1).length c275_1)) (ds:=[]) #[Z,Z,Z,Z,Z,Z,Z,Z,Z,Z,Z] (by kernel_rfl) rfl rfl ⟨(qC BK276.out 0).trans rfl,(qC BK276.out 1).trans rfl⟩ (fun hHeld=>?_);refine with_tabW impl_rulesOf.tab5 impl_rulesOf.bits5 (fun HT_ HW_=>?_);generalize w10.drew=w11 at HO_3 BK276 HB hHeld ⊢
       refine pure_ (i:=0) (N:=some 12) (v:=?_) (a':=?_) #[Y,Z,Z,Z,Z,Z,Z,Z,Z,Z,Z] rfl rfl (any_of HT_.out (by kernel_rfl)) (fun _ _ _ h=>h) (Or.inl ⟨by rfl,?_⟩) ?_ ?_;rotate_left
       ·intro w';go_simp;with_reducible rfl
       rotate_left
       ·simp only [Act.put,sIb,sZ,sS,i64_w,i32_w];rfl
       refine pure_ (i:=1) (N:=some 13) (v:=?_) (a':=?_) #[Y,Y,Z,Z,Z,Z,Z,Z,Z,Z,Z] rfl rfl (any_of HT_.out (by kernel_rfl)) (fun _ _ _ h=>h) (Or.inl ⟨by rfl,?_⟩) ?_ ?_;rotate_left
       ·intro w';go_simp;with_reducible rfl
       rotate_left
       ·simp only [Act.put,sIb,sZ,sS,i64_w,i32_w];rfl
       refine pure_ (i:=4) (N:=some 16) (v:=?_) (a':=?_) #[Y,Y,Z,Z,Y,Z,Z,Z,Z,Z,Z] rfl rfl (any_of HT_.out (by kernel_rfl)) (fun _ _ _ h=>h) (Or.inl ⟨by rfl,?_⟩) ?_ ?_;rotate_left
       ·intro w';go_simp;with_reducible rfl
       rotate_left
       ·simp only [Act.put,sIb,sZ,sS,i64_w,i32_w];rfl
       refine take_ (i:=2) (N:=some 14) (v:=?_) (a':=?_) #[Y,Y,Y,Z,Y,Z,Z,Z,Z,Z,Z] rfl rfl (take_ofW HT_.out HW_.out (by kernel_rfl)) (fun _ _ _ h=>h) (Or.inl ⟨by rfl,?_⟩) hHeld ?_ ?_;rotate_left
       ·rintro w' ⟨s0,s1⟩;go_simp;with_reducible rfl
       rotate_left
       ·simp only [Act.put,sIb,sZ,sS,i64_w,i32_w];rfl
       refine take_ (i:=5) (N:=some 17) (v:=?_) (a':=?_) #[Y,Y,Y,Z,Y,Y,Z,Z,Z,Z,Z] rfl rfl (take_ofW HT_.out HW_.out (by kernel_rfl)) (fun _ _ _ h=>h) (Or.inl ⟨by rfl,?_⟩) hHeld ?_ ?_;rotate_left
       ·rintro w' ⟨s0,s1⟩;go_simp;with_reducible rfl
       rotate_left
       ·simp only [Act.put,sIb,sZ,sS,i64_w,i32_w];rfl
       refine one_ (i:=3) (N:=some 15) #[Y,Y,Y,Y,Y,Y,Z,Z,Z,Z,Z] rfl rfl (one_of HT_.out (by kernel_rfl)) (by decide) (fun K hK=>?_);refine goes_ Try.func26 (by kernel_rfl) rfl #[.slice A275_0 ((rd_T45 l0 x8_1).f0).length c275_0] (by rfl) rfl rfl (by (try simp only [mT,mC,mN]);first|done|rfl|(simp only [lD,lT];rfl)) ?_;with_reducible refine (impl_setOf.calls k1 _ _ ((rd_T45 l0 x8_1).f0) t277 _ ?side1 ?side2 A5.out).mono ?_
       (case side1=>repeat (first|exact (cB HR275_0.out HB.out)|(with_reducible first|refine cL ?_ _|refine cN ?_ _|refine cW ?_)));(case side2=>exact HC275_0.out);rintro e w' ⟨rfl,⟨nd,rfl⟩⟩;refine ⟨_,rfl,?_⟩;refine hK.out _ _ ⟨(qC BK276.out 0).trans rfl,(qC BK276.out 1).trans rfl⟩ (fun hHeld=>?_);clear hK K;refine norm_ (a':=?_) ?_ ?_;rotate_left
       ·show Act.put _ (some 15) _=_
        simp only [Act.put,sIb,sZ,sS,i64_w,i32_w];rfl
       refine one_ (i:=6) (N:=some 18) #[Y,Y,Y,Y,Y,Y,Y,Z,Z,Z,Z] rfl rfl (one_of HT_.out (by kernel_rfl)) (by decide) (fun K hK=>?_);refine goes_ Try.func26 (by kernel_rfl) rfl #[.slice A275_1 ((rd_T45 l0 x8_1).f1).length c275_1] (by rfl) rfl rfl (by (try simp only [mT,mC,mN]);first|done|rfl|(simp only [lD,lT];rfl)) ?_;with_reducible refine (impl_setOf.calls k1 _ _ ((rd_T45 l0 x8_1).f1) t278 _ ?side1 ?side2 A6.out).mono ?_
       (case side1=>repeat (first|exact (cB HR275_1.out (by repeat (with_reducible first|exact HB.out|apply qA|apply qD|apply qO|refine qS ?_ GE276.out)))|(with_reducible first|refine cL ?_ _|refine cN ?_ _|refine cW ?_)));(case side2=>exact HC275_1.out);rintro e w' ⟨rfl,⟨nd,rfl⟩⟩;refine ⟨_,rfl,?_⟩;refine hK.out _ _ ⟨(qC BK276.out 0).trans rfl,(qC BK276.out 1).trans rfl⟩ (fun hHeld=>?_);clear hK K;refine norm_ (a':=?_) ?_ ?_;rotate_left
       ·show Act.put _ (some 18) _=_
        simp only [Act.put,sIb,sZ,sS,i64_w,i32_w];rfl
       refine pure_ (i:=7) (N:=some 19) (v:=?_) (a':=?_) #[Y,Y,Y,Y,Y,Y,Y,Y,Z,Z,Z] rfl rfl (any_of HT_.out (by kernel_rfl)) (fun _ _ _ h=>h) (Or.inl ⟨by rfl,?_⟩) ?_ ?_;rotate_left
       ·intro w';go_simp;with_reducible rfl
       rotate_left
       ·simp only [Act.put,sIb,sZ,sS,i64_w,i32_w];rfl
       refine one_ (i:=8) (N:=some 20) #[Y,Y,Y,Y,Y,Y,Y,Y,Y,Z,Z] rfl rfl (one_of HT_.out (by kernel_rfl)) (by decide) (fun K hK=>?_);refine value_ (w1:=?_) (v:=?_) (by rfl) rfl ?_ ?_;rotate_left 2
       ·go_simp;constructor
        ·rfl
        ·rfl
       refine hK.out _ _ ⟨(qC (qL BK276.out _) 0).trans rfl,(qC (qL BK276.out _) 1).trans rfl⟩ (fun hHeld=>?_);clear hK K;refine norm_ (a':=?_) ?_ ?_;rotate_left
       ·show Act.put _ (some 20) _=_
        simp only [Act.put,sIb,sZ,sS,i64_w,i32_w];rfl
       refine one_ (i:=9) (N:=some 21) #[Y,Y,Y,Y,Y,Y,Y,Y,Y,Y,Z] rfl rfl (one_of HT_.out (by kernel_rfl)) (by decide) (fun K hK=>?_);refine Kd.R_append_step k72 (w0:=w) w.heap.size (by rfl) (.tmp 12) (.tmp 20) 50 72 (.agg #[(.int .i64 0),(.int .i64 0)]) 16 rfl Try.underlying50 info72 rfl (by decide) (by omega) u3 x3_1 (⟨t277,t278⟩:S72) [.int .i64 t277,.int .i64 t278] (fun _=>True) (fun _=>False) rfl rfl ?aP (fun _ hk=>hk.elim) ?aF ?aO ?aB ?aS ?aL ?_;(case aP=>exact k72_mkM _ _ _ (⟨t277,t278⟩:S72));(case aB=>exact (by repeat (with_reducible first|exact HB.out|apply qA|apply qD|apply qO|refine qS ?_ GE276.out)));(case aF=>exact (fun _ _=>trivial));(case aO=>exact (by (with_reducible repeat (first|apply rL|apply rN|apply rW));exact HO_3.out));(case aS=>exact (qZ (by repeat (with_reducible first|exact HB.out|apply qA|apply qD|apply qO|refine qS ?_ GE276.out))));(case aL=>have:=LMc7.out;omega);intro v280 w12 ho hb hg hat;rw [← Ny279.out] at ho;have n0_:=qK (blk_grown (g:=gb276) (o:=_) (by (with_reducible repeat (first|refine qN ?_ _|refine qW ?_|refine qL ?_ _));exact BK276.out) hg (Kd.R_ne HO_3.out BK276.out (by decide)));have n1_:=qK (hb);have n2_:=qK (ho);clear BK276;clear HB;clear HO_3;have BK276:=n0_;have HB:=n1_;have HO281:=n2_;clear n0_ n1_ n2_;clear ho hb hg hat;refine hK.out _ _ ⟨(qC BK276.out 0).trans rfl,(qC BK276.out 1).trans rfl⟩ (fun hHeld=>?_);clear hK K;refine norm_ (a':=?_) ?_ ?_;rotate_left
       ·show Act.put _ (some 21) _=_
        simp only [Act.put,sIb,sZ,sS,i64_w,i32_w];rfl
       refine pure_ (i:=10) (N:=some 3) (v:=?_) (a':=?_) #[Y,Y,Y,Y,Y,Y,Y,Y,Y,Y,Y] rfl rfl (any_of HT_.out (by kernel_rfl)) (fun _ _ _ h=>h) (Or.inl ⟨by rfl,?_⟩) ?_ ?_;rotate_left
       ·intro w';go_simp;with_reducible rfl
       rotate_left
       ·simp only [Act.put,sIb,sZ,sS,i64_w,i32_w];rfl
       refine done_ (done_of HT_.out (by kernel_rfl)) ?_;try go_wp2
       go_roundg k1
       case measure=>have:=HK1.out;omega
       case rel=>exact ⟨(y279),(wrap64 (x8_1 + 1)),(by first|rfl|(simp;done)|(simp [*];done)),H',⟨by have:=HK1.out;omega⟩,⟨by (with_reducible repeat (first|apply rL|apply rN|apply rW));exact HO281.out⟩,⟨by repeat (first|(with_reducible first|exact HB.out|apply qA|apply qD|apply qO|refine qS ?_ GE276.out)|exact HB.out)⟩⟩
      ·rw [if_neg c7] at H;exact absurd H (by simp)
     ·rw [if_neg c4] at H;exact absurd H (by simp)
    ·rw [if_neg c3] at H;exact absurd H (by simp)
   ·rw [if_neg c2] at H;have c2b0:decide (x8_1 < (l0.length:Int))=false:=decide_eq_false c2;clear c2;obtain rfl:=Option.some.inj H;go_wp2
    go_ret
    exact ⟨_,by first|rfl|(simp [errW_none,errW_some] <;> rfl)|(simp [*,errW_none,errW_some] <;> rfl),by (with_reducible repeat (first|apply rL|apply rN|apply rW));exact HO_3.out,by repeat (first|(with_reducible first|exact HB.out|apply qA|apply qD|apply qO)|exact HB.out)⟩

/-! ### impl_IsNormal: function 9 -/
def impl_IsNormal.j0 : Nat→List (S45)→List Int→Bool→Option (Bool × Bool)
 | 0,_,_,_=>none
 | k + 1,x0,x2,x17=>if x17=true then (some (false,false)) else ((impl_rulesOf.f k x0).bind fun t284=>((impl_setOf.f k x2).bind fun t287=>((impl_isNormal.f k t284 t287).bind fun t288=>(some (t288,true)))))
def impl_IsNormal.f (k:Nat) (l0:List (S45)) (a1:Int) (l2:List Int):Option (Bool × Bool):=(impl_GoodDepends.f k l0 a1).bind fun t282=>(if t282=true then ((impl_areRising.f k l2 a1).bind fun t283=>(impl_IsNormal.j0 k l0 l2 (!t283))) else (impl_IsNormal.j0 k l0 l2 true))
theorem impl_IsNormal.mono_l : ∀ k,(∀ y0 y1 y2,LeO (impl_IsNormal.j0 k y0 y1 y2) (impl_IsNormal.j0 (k + 1) y0 y1 y2))
 | 0=>fun _ _ _ r h=>by simp [impl_IsNormal.j0] at h
 | k + 1=>by
  have ih0:=impl_IsNormal.mono_l k
  ·intro y0 y1 y2;unfold impl_IsNormal.j0
   repeat' first
   | (with_reducible exact ih0 _ _ _)
   | (with_reducible exact impl_GoodDepends.mono _ _ _)
   | (with_reducible exact impl_areRising.mono _ _ _)
   | (with_reducible exact impl_isNormal.mono _ _ _)
   | (with_reducible exact impl_rulesOf.mono _ _)
   | (with_reducible exact impl_setOf.mono _ _)
   | (with_reducible exact LeO.refl _)
   | (with_reducible exact LeO.none _)
   | (with_reducible refine LeO.ite ?_ ?_)
   | (with_reducible refine LeO.bind ?_ (fun _=>?_))
   | exact ih0 _ _ _
   | exact impl_GoodDepends.mono _ _ _
   | exact impl_areRising.mono _ _ _
   | exact impl_isNormal.mono _ _ _
   | exact impl_rulesOf.mono _ _
   | exact impl_setOf.mono _ _
   | exact LeO.none _
   | refine LeO.ite ?_ ?_
   | refine LeO.bind ?_ (fun _=>?_)
theorem impl_IsNormal.mono : ∀ a0 a1 a2 k,LeO (impl_IsNormal.f k a0 a1 a2) (impl_IsNormal.f (k + 1) a0 a1 a2):=by
 intro a0 a1 a2 k;have ih0:=impl_IsNormal.mono_l k;unfold impl_IsNormal.f
 repeat' first
   | (with_reducible exact ih0 _ _ _)
   | (with_reducible exact impl_GoodDepends.mono _ _ _)
   | (with_reducible exact impl_areRising.mono _ _ _)
   | (with_reducible exact impl_isNormal.mono _ _ _)
   | (with_reducible exact impl_rulesOf.mono _ _)
   | (with_reducible exact impl_setOf.mono _ _)
   | (with_reducible exact LeO.refl _)
   | (with_reducible exact LeO.none _)
   | (with_reducible refine LeO.ite ?_ ?_)
   | (with_reducible refine LeO.bind ?_ (fun _=>?_))
   | exact ih0 _ _ _
   | exact impl_GoodDepends.mono _ _ _
   | exact impl_areRising.mono _ _ _
   | exact impl_isNormal.mono _ _ _
   | exact impl_rulesOf.mono _ _
   | exact impl_setOf.mono _ _
   | exact LeO.none _
   | refine LeO.ite ?_ ?_
   | refine LeO.bind ?_ (fun _=>?_)
set_option maxHeartbeats 8000000 in
set_option maxRecDepth 100000 in
theorem impl_IsNormal.calls (k:Nat) (A0:Option Addr) (c0:Nat) (l0:List (S45)) (a1:Int) (A2:Option Addr) (c2:Nat) (l2:List Int) (r1:Bool) (r2:Bool) (w:World) (hr0:Kd.C k45 w A0 l0.length l0) (hc0:l0.length≤c0) (hr2:Kd.C (Kd.int .i64) w A2 l2.length l2) (hc2:l2.length≤c2) (h:impl_IsNormal.f k l0 a1 l2=some (r1,r2)) :
  Calls Try.prog 9 #[.slice A0 l0.length c0,.int .i64 a1,.slice A2 l2.length c2] w fun e w'=>e=.returned (.tuple #[.bool r1,.bool r2])∧Below w.heap.size w w':=by
 have HR0:=qK hr0;have HC0:=qK hc0;clear hr0 hc0;have HR2:=qK hr2;have HC2:=qK hc2;clear hr2 hc2;have HB:=qK (Below.refl w.heap.size w);have H:((impl_GoodDepends.f k l0 a1).bind fun t282=>(if t282=true then ((impl_areRising.f k l2 a1).bind fun t283=>(impl_IsNormal.j0 k l0 l2 (!t283))) else (impl_IsNormal.j0 k l0 l2 true)))=some (r1,r2):=h;clear h;have HC4:=qK H;clear H;go_enter Try.func9,Try.ntmps9
 go_upto_region 1 with (fail)
 go_cut [17] (fun v17 wc=>∃ (kq:Nat) (x17_3:Bool),v17=.bool x17_3∧Aside0 (impl_IsNormal.j0 kq l0 l2 x17_3=some (r1,r2))∧Aside0 (kq≤k)∧Aside0 (Below w.heap.size w wc))
 case first =>
  have H:=HC4.out;clear HC4;replace H:=Option.bind_eq_some_iff.mp H;obtain ⟨t282,A50,H⟩:=H;replace H:(if t282=true then ((impl_areRising.f k l2 a1).bind fun t283=>(impl_IsNormal.j0 k l0 l2 (!t283))) else (impl_IsNormal.j0 k l0 l2 true))=some (r1,r2):=H;have A5:=qK A50;clear A50;by_cases c6:t282=true
  ·subst c6;have H1:((impl_areRising.f k l2 a1).bind fun t283=>(impl_IsNormal.j0 k l0 l2 (!t283)))=some (r1,r2):=by rw [if_pos rfl] at H;exact H
   clear H;have H:=H1;clear H1;replace H:=Option.bind_eq_some_iff.mp H;obtain ⟨t283,A70,H⟩:=H;replace H:(impl_IsNormal.j0 k l0 l2 (!t283))=some (r1,r2):=H;have A7:=qK A70;clear A70;have H':=qK H;clear H;go_wp2_with (first|((with_reducible refine gate_callee (f:=22) rfl ?_);refine goesL_ (some 10) rfl rfl Try.func22 (by kernel_rfl) rfl #[.slice A0 l0.length c0,.int .i64 a1] rfl (by (try simp only [mT,mC,mN]);first|done|rfl|(simp only [lD,lT];rfl)) ?_;(with_reducible refine (impl_GoodDepends.calls k _ _ l0 a1 true _ ?side1 ?side2 A5.out).mono ?_);(case side1=>repeat (first|exact (cB HR0.out HB.out)|(with_reducible first|refine cL ?_ _|refine cN ?_ _|refine cW ?_)));(case side2=>exact HC0.out);rintro e w8 ⟨rfl,hb⟩;refine ⟨_,rfl,?_⟩;have n0_:=qK (qT (by repeat (with_reducible first|exact HB.out|apply qA|apply qD|apply qO)) hb);clear HB;have HB:=n0_;clear n0_;(try clear hb))|(go_at_call 23;(with_reducible refine (impl_areRising.calls k _ _ l2 a1 t283 _ ?side1 ?side2 A7.out).mono ?_);(case side1=>repeat (first|exact (cB HR2.out HB.out)|(with_reducible first|refine cL ?_ _|refine cN ?_ _|refine cW ?_)));(case side2=>exact HC2.out);rintro e w' ⟨rfl,⟨nd,rfl⟩⟩))
   go_meet
   case rel=>exact ⟨_,(!t283),(by first|rfl|(simp;done)|(simp [*];done)),H',⟨by first|omega|exact Nat.le_refl _⟩,⟨by repeat (first|(with_reducible first|exact HB.out|apply qA|apply qD|apply qO)|exact HB.out)⟩⟩
  ·replace c6:=Bool.eq_false_iff.mpr c6;subst c6;have H1:(impl_IsNormal.j0 k l0 l2 true)=some (r1,r2):=by rw [if_neg (show ¬ (false=true) by decide)] at H;exact H
   clear H;have H:=H1;clear H1;have H':=qK H;clear H;go_wp2_with (first|((with_reducible refine gate_callee (f:=22) rfl ?_);refine goesL_ (some 10) rfl rfl Try.func22 (by kernel_rfl) rfl #[.slice A0 l0.length c0,.int .i64 a1] rfl (by (try simp only [mT,mC,mN]);first|done|rfl|(simp only [lD,lT];rfl)) ?_;(with_reducible refine (impl_GoodDepends.calls k _ _ l0 a1 false _ ?side1 ?side2 A5.out).mono ?_);(case side1=>repeat (first|exact (cB HR0.out HB.out)|(with_reducible first|refine cL ?_ _|refine cN ?_ _|refine cW ?_)));(case side2=>exact HC0.out);rintro e w9 ⟨rfl,hb⟩;refine ⟨_,rfl,?_⟩;have n0_:=qK (qT (by repeat (with_reducible first|exact HB.out|apply qA|apply qD|apply qO)) hb);clear HB;have HB:=n0_;clear n0_;(try clear hb)))
   go_meet
   case rel=>exact ⟨_,(true),(by first|rfl|(simp;done)|(simp [*];done)),H',⟨by first|omega|exact Nat.le_refl _⟩,⟨by repeat (first|(with_reducible first|exact HB.out|apply qA|apply qD|apply qO)|exact HB.out)⟩⟩
 case rest =>
  clear HC4;try clear c2
  try clear p2
  try clear c6
  try clear c9
  obtain ⟨kq,x17_3,rfl,HA,HJ3,HB⟩:=hcut;cases kq with
  | zero=>exact absurd HA.out (by simp [impl_IsNormal.j0])
  | succ kj3 =>
   have H:=HA.out;clear HA;simp only [impl_IsNormal.j0] at H;by_cases c10:x17_3=true
   ·subst c10;have H1:(some (false,false))=some (r1,r2):=by rw [if_pos rfl] at H;exact H
    clear H;have H:=H1;clear H1;simp only [Option.some.injEq,Prod.mk.injEq] at H;obtain ⟨rfl,rfl⟩:=H;go_wp2
    go_ret2
    exact ⟨by first|rfl|(simp [errW_none,errW_some] <;> rfl)|(simp [*,errW_none,errW_some] <;> rfl),by repeat (first|(with_reducible first|exact HB.out|apply qA|apply qD|apply qO)|exact HB.out)⟩
   ·replace c10:=Bool.eq_false_iff.mpr c10;subst c10;have H1:((impl_rulesOf.f kj3 l0).bind fun t284=>((impl_setOf.f kj3 l2).bind fun t287=>((impl_isNormal.f kj3 t284 t287).bind fun t288=>(some (t288,true)))))=some (r1,r2):=by rw [if_neg (show ¬ (false=true) by decide)] at H;exact H
    clear H;have H:=H1;clear H1;replace H:=Option.bind_eq_some_iff.mp H;obtain ⟨t284,A110,H⟩:=H;replace H:((impl_setOf.f kj3 l2).bind fun t287=>((impl_isNormal.f kj3 t284 t287).bind fun t288=>(some (t288,true))))=some (r1,r2):=H;have A11:=qK A110;clear A110;replace H:=Option.bind_eq_some_iff.mp H;obtain ⟨t287,A120,H⟩:=H;replace H:((impl_isNormal.f kj3 t284 t287).bind fun t288=>(some (t288,true)))=some (r1,r2):=H;have A12:=qK A120;clear A120;replace H:=Option.bind_eq_some_iff.mp H;obtain ⟨t288,A130,H⟩:=H;replace H:(some (t288,true))=some (r1,r2):=H;have A13:=qK A130;clear A130;simp only [Option.some.injEq,Prod.mk.injEq] at H;obtain ⟨rfl,rfl⟩:=H;go_wp2_with (first|((with_reducible refine gate_callee (f:=25) rfl ?_);refine goesL_ (some 19) rfl rfl Try.func25 (by kernel_rfl) rfl #[.slice A0 l0.length c0] rfl (by (try simp only [mT,mC,mN]);first|done|rfl|(simp only [lD,lT];rfl)) ?_;(with_reducible refine (impl_rulesOf.calls kj3 _ _ l0 t284 _ ?side1 ?side2 A11.out).mono ?_);(case side1=>repeat (first|exact (cB HR0.out HB.out)|(with_reducible first|refine cL ?_ _|refine cN ?_ _|refine cW ?_)));(case side2=>exact HC0.out);rintro e w14 ⟨v285,rfl,ho0,hb⟩;refine ⟨_,rfl,?_⟩;have n0_:=qK (Kd.R_lower ho0 (qZ (by repeat (with_reducible first|exact HB.out|apply qA|apply qD|apply qO))));have n1_:=qK (qT (by repeat (with_reducible first|exact HB.out|apply qA|apply qD|apply qO)) hb);clear HB;have HO286:=n0_;have HB:=n1_;clear n0_ n1_;(try clear hb);(try clear ho0))|((with_reducible refine gate_callee (f:=26) rfl ?_);refine goesL_ (some 21) rfl rfl Try.func26 (by kernel_rfl) rfl #[.slice A2 l2.length c2] rfl (by (try simp only [mT,mC,mN]);first|done|rfl|(simp only [lD,lT];rfl)) ?_;(with_reducible refine (impl_setOf.calls kj3 _ _ l2 t287 _ ?side1 ?side2 A12.out).mono ?_);(case side1=>repeat (first|exact (cB HR2.out HB.out)|(with_reducible first|refine cL ?_ _|refine cN ?_ _|refine cW ?_)));(case side2=>exact HC2.out);rintro e w' ⟨rfl,⟨nd,rfl⟩⟩;refine ⟨_,rfl,?_⟩;obtain ⟨Ao15,co15,eo15⟩:=Kd.R_slice HO286.out;subst eo15)|((with_reducible refine gate_callee (f:=24) rfl ?_);refine goesL_ (some 22) rfl rfl Try.func24 (by kernel_rfl) rfl #[.slice Ao15 t284.length co15,.int .i64 t287] rfl (by (try simp only [mT,mC,mN]);first|done|rfl|(simp only [lD,lT];rfl)) ?_;(with_reducible refine (impl_isNormal.calls kj3 _ _ t284 t287 t288 _ ?side1 ?side2 A13.out).mono ?_);(case side1=>repeat (first|exact (Kd.R_reads' HO286.out).2.2|(with_reducible first|refine cL ?_ _|refine cN ?_ _|refine cW ?_)));(case side2=>exact (Kd.R_reads' HO286.out).2.1);rintro e w16 ⟨rfl,hb⟩;refine ⟨_,rfl,?_⟩;have n0_:=qK (rB (by (with_reducible repeat (first|apply rL|apply rN|apply rW));exact HO286.out) hb);have n1_:=qK (qT (by repeat (with_reducible first|exact HB.out|apply qA|apply qD|apply qO)) hb);clear HO286;clear HB;have HO286:=n0_;have HB:=n1_;clear n0_ n1_;(try clear hb)))
    go_ret2
    exact ⟨by first|rfl|(simp [errW_none,errW_some] <;> rfl)|(simp [*,errW_none,errW_some] <;> rfl),by repeat (first|(with_reducible first|exact HB.out|apply qA|apply qD|apply qO)|exact HB.out)⟩

/-! ### laws_eqIntS: function 11 -/
def laws_eqIntS.l0 : Nat→List Int→List Int→Int→Option (Bool)
 | 0,_,_,_=>none
 | k + 1,x0,x1,x5=>if x5 < (x0.length:Int) then (if 0≤x5 then (if x5 < (x1.length:Int) then (if (rd x0 x5)=(rd x1 x5) then (laws_eqIntS.l0 k x0 x1 (wrap64 (x5 + 1))) else (none)) else (none)) else (none)) else (some true)
def laws_eqIntS.f (k:Nat) (l0:List Int) (l1:List Int):Option (Bool):=if (l0.length:Int)=(l1.length:Int) then (laws_eqIntS.l0 k l0 l1 0) else (none)
theorem laws_eqIntS.mono_l : ∀ k,(∀ y0 y1 y2,LeO (laws_eqIntS.l0 k y0 y1 y2) (laws_eqIntS.l0 (k + 1) y0 y1 y2))
 | 0=>fun _ _ _ r h=>by simp [laws_eqIntS.l0] at h
 | k + 1=>by
  have ih0:=laws_eqIntS.mono_l k
  ·intro y0 y1 y2;unfold laws_eqIntS.l0
   repeat' first
   | (with_reducible exact ih0 _ _ _)
   | (with_reducible exact LeO.refl _)
   | (with_reducible exact LeO.none _)
   | (with_reducible refine LeO.ite ?_ ?_)
   | (with_reducible refine LeO.bind ?_ (fun _=>?_))
   | exact ih0 _ _ _
   | exact LeO.none _
   | refine LeO.ite ?_ ?_
   | refine LeO.bind ?_ (fun _=>?_)
theorem laws_eqIntS.mono : ∀ a0 a1 k,LeO (laws_eqIntS.f k a0 a1) (laws_eqIntS.f (k + 1) a0 a1):=by
 intro a0 a1 k;have ih0:=laws_eqIntS.mono_l k;unfold laws_eqIntS.f
 repeat' first
   | (with_reducible exact ih0 _ _ _)
   | (with_reducible exact LeO.refl _)
   | (with_reducible exact LeO.none _)
   | (with_reducible refine LeO.ite ?_ ?_)
   | (with_reducible refine LeO.bind ?_ (fun _=>?_))
   | exact ih0 _ _ _
   | exact LeO.none _
   | refine LeO.ite ?_ ?_
   | refine LeO.bind ?_ (fun _=>?_)
set_option maxHeartbeats 8000000 in
set_option maxRecDepth 100000 in
theorem laws_eqIntS.calls (k:Nat) (A0:Option Addr) (c0:Nat) (l0:List Int) (A1:Option Addr) (c1:Nat) (l1:List Int) (r:Bool) (w:World) (hr0:Kd.C (Kd.int .i64) w A0 l0.length l0) (hc0:l0.length≤c0) (hr1:Kd.C (Kd.int .i64) w A1 l1.length l1) (hc1:l1.length≤c1) (h:laws_eqIntS.f k l0 l1=some r) :
  Calls Try.prog 11 #[.slice A0 l0.length c0,.slice A1 l1.length c1] w fun e w'=>e=.returned (.bool r)∧Drawn0 w w':=by
 have HR0:=qK hr0;have HC0:=qK hc0;clear hr0 hc0;have HR1:=qK hr1;have HC1:=qK hc1;clear hr1 hc1;have H:(if (l0.length:Int)=(l1.length:Int) then (laws_eqIntS.l0 k l0 l1 0) else (none))=some r:=h;clear h;by_cases c3:(l0.length:Int)=(l1.length:Int)
 ·rw [if_pos c3] at H;have c3b0:((l0.length:Int) == (l1.length:Int))=true:=beq_iff_eq.mpr c3;have c3b1:((l0.length:Int) != (l1.length:Int))=false:=bne_eq_false_iff_eq.mpr c3;have c3b2:(l0.length == l1.length)=true:=by first|simpa using c3|(simp at c3 ⊢;omega)
  clear c3;have H':=qK H;clear H;go_enter Try.func11,Try.ntmps11
  go_wp2
  repeat (go_quiet (fail);try go_wp2)
  go_loopg [5] k (fun kq v5 w'=>∃ (x5_1:Int),v5=.int .i64 x5_1∧Aside0 (laws_eqIntS.l0 kq l0 l1 x5_1=some r)∧Aside0 (kq≤k)∧Drawn0 w w')
  case atStart=>exact ⟨(0),(by first|rfl|(simp;done)|(simp [*];done)),H',⟨Nat.le_refl _⟩,by repeat (first|exact Drawn0.refl _|apply Drawn0.step)⟩
  case round =>
   clear H';try clear c1
   try clear p2
   try clear c3
   try clear c3b0
   try clear c3b1
   try clear c3b2
   obtain ⟨x5_1,rfl,HA,HK1,⟨m1,rfl⟩⟩:=hrel;cases gk with
   | zero=>exact absurd HA.out (by simp [laws_eqIntS.l0])
   | succ k1 =>
    have H:=HA.out;clear HA;simp only [laws_eqIntS.l0] at H;by_cases c4:x5_1 < (l0.length:Int)
    ·rw [if_pos c4] at H;have c4b0:decide (x5_1 < (l0.length:Int))=true:=decide_eq_true c4;clear c4;by_cases c5:0≤x5_1
     ·rw [if_pos c5] at H;have c5b0:decide (0≤x5_1)=true:=decide_eq_true c5;clear c5;by_cases c6:x5_1 < (l1.length:Int)
      ·rw [if_pos c6] at H;have c6b0:decide (x5_1 < (l1.length:Int))=true:=decide_eq_true c6;clear c6;by_cases c7:(rd l0 x5_1)=(rd l1 x5_1)
       ·rw [if_pos c7] at H;have c7b0:((rd l0 x5_1) == (rd l1 x5_1))=true:=beq_iff_eq.mpr c7;have c7b1:((rd l0 x5_1) != (rd l1 x5_1))=false:=bne_eq_false_iff_eq.mpr c7;clear c7;have H':=qK H;clear H;have p289:0≤(x5_1:Int):=of_decide_eq_true (by first|(with_reducible assumption)|assumption);have q289:x5_1 < (l0.length:Int):=of_decide_eq_true (by first|(with_reducible assumption)|assumption);obtain ⟨ad289,e289,hx289_0⟩:=Kd.at_int HR0.out x5_1 p289 q289;cases e289
        replace p289:=eq_true p289;replace q289:=eq_true q289;have p290:0≤(x5_1:Int):=of_decide_eq_true (by first|(with_reducible assumption)|assumption);have q290:x5_1 < (l1.length:Int):=of_decide_eq_true (by first|(with_reducible assumption)|assumption);obtain ⟨ad290,e290,hx290_0⟩:=Kd.at_int HR1.out x5_1 p290 q290;cases e290
        replace p290:=eq_true p290;replace q290:=eq_true q290;go_wp2
        repeat (go_quiet (fail);try go_wp2)
        go_roundg k1
        case measure=>have:=HK1.out;omega
        case rel=>exact ⟨(wrap64 (x5_1 + 1)),(by first|rfl|(simp;done)|(simp [*];done)),H',⟨by have:=HK1.out;omega⟩,by repeat (first|exact Drawn0.refl _|apply Drawn0.step)⟩
       ·rw [if_neg c7] at H;exact absurd H (by simp)
      ·rw [if_neg c6] at H;exact absurd H (by simp)
     ·rw [if_neg c5] at H;exact absurd H (by simp)
    ·rw [if_neg c4] at H;have c4b0:decide (x5_1 < (l0.length:Int))=false:=decide_eq_false c4;clear c4;obtain rfl:=Option.some.inj H;go_wp2
     repeat (go_quiet (fail);try go_wp2)
     go_ret
     exact ⟨by first|rfl|(simp;done)|(simp [*];done),by repeat (first|exact Drawn0.refl _|apply Drawn0.step)⟩
 ·rw [if_neg c3] at H;exact absurd H (by simp)

/-! ### laws_eqDepend: function 27 -/
def laws_eqDepend.f (k:Nat) (l0_0:List Int) (l0_1:List Int) (l1_0:List Int) (l1_1:List Int):Option (Bool):=(laws_eqIntS.f k l0_0 l1_0).bind fun t293=>(if t293=true then ((laws_eqIntS.f k l0_1 l1_1).bind fun t294=>(if t294=true then (some true) else (none))) else (none))
theorem laws_eqDepend.mono : ∀ a0 a1 a2 a3 k,LeO (laws_eqDepend.f k a0 a1 a2 a3) (laws_eqDepend.f (k + 1) a0 a1 a2 a3):=by
 intro a0 a1 a2 a3 k;unfold laws_eqDepend.f
 repeat' first
   | (with_reducible exact laws_eqIntS.mono _ _ _)
   | (with_reducible exact LeO.refl _)
   | (with_reducible exact LeO.none _)
   | (with_reducible refine LeO.ite ?_ ?_)
   | (with_reducible refine LeO.bind ?_ (fun _=>?_))
   | exact laws_eqIntS.mono _ _ _
   | exact LeO.none _
   | refine LeO.ite ?_ ?_
   | refine LeO.bind ?_ (fun _=>?_)
set_option maxHeartbeats 8000000 in
set_option maxRecDepth 100000 in
theorem laws_eqDepend.calls (k:Nat) (A0_0:Option Addr) (c0_0:Nat) (l0_0:List Int) (A0_1:Option Addr) (c0_1:Nat) (l0_1:List Int) (A1_0:Option Addr) (c1_0:Nat) (l1_0:List Int) (A1_1:Option Addr) (c1_1:Nat) (l1_1:List Int) (r:Bool) (w:World) (hr0_0:Kd.C (Kd.int .i64) w A0_0 l0_0.length l0_0) (hc0_0:l0_0.length≤c0_0) (hr0_1:Kd.C (Kd.int .i64) w A0_1 l0_1.length l0_1) (hc0_1:l0_1.length≤c0_1) (hr1_0:Kd.C (Kd.int .i64) w A1_0 l1_0.length l1_0) (hc1_0:l1_0.length≤c1_0) (hr1_1:Kd.C (Kd.int .i64) w A1_1 l1_1.length l1_1) (hc1_1:l1_1.length≤c1_1) (h:laws_eqDepend.f k l0_0 l0_1 l1_0 l1_1=some r) :
  Calls Try.prog 27 #[.agg #[.slice A0_0 l0_0.length c0_0,.slice A0_1 l0_1.length c0_1],.agg #[.slice A1_0 l1_0.length c1_0,.slice A1_1 l1_1.length c1_1]] w fun e w'=>e=.returned (.bool r)∧Below w.heap.size w w':=by
 have hu45:=Try.underlying45;have HR0_0:=qK hr0_0;have HC0_0:=qK hc0_0;clear hr0_0 hc0_0;have HR0_1:=qK hr0_1;have HC0_1:=qK hc0_1;clear hr0_1 hc0_1;have HR1_0:=qK hr1_0;have HC1_0:=qK hc1_0;clear hr1_0 hc1_0;have HR1_1:=qK hr1_1;have HC1_1:=qK hc1_1;clear hr1_1 hc1_1;have HB:=qK (Below.refl w.heap.size w);have H:((laws_eqIntS.f k l0_0 l1_0).bind fun t293=>(if t293=true then ((laws_eqIntS.f k l0_1 l1_1).bind fun t294=>(if t294=true then (some true) else (none))) else (none)))=some r:=h;clear h;replace H:=Option.bind_eq_some_iff.mp H;obtain ⟨t293,A30,H⟩:=H;replace H:(if t293=true then ((laws_eqIntS.f k l0_1 l1_1).bind fun t294=>(if t294=true then (some true) else (none))) else (none))=some r:=H;have A3:=qK A30;clear A30;by_cases c4:t293=true
 ·subst c4;have H1:((laws_eqIntS.f k l0_1 l1_1).bind fun t294=>(if t294=true then (some true) else (none)))=some r:=by rw [if_pos rfl] at H;exact H
  clear H;have H:=H1;clear H1;replace H:=Option.bind_eq_some_iff.mp H;obtain ⟨t294,A50,H⟩:=H;replace H:(if t294=true then (some true) else (none))=some r:=H;have A5:=qK A50;clear A50;by_cases c6:t294=true
  ·subst c6;have H1:(some true)=some r:=by rw [if_pos rfl] at H;exact H
   clear H;have H:=H1;clear H1;obtain rfl:=Option.some.inj H;go_enter Try.func27,Try.ntmps27
   go_wp2_with (first|((with_reducible refine gate_dst (N:=2) rfl ?_);refine box_event ?hg (N:=2) ?hd (cs:=#[.slice A0_0 l0_0.length c0_0,.slice A0_1 l0_1.length c0_1]) (t:=45) ?hr ?_;(case hd=>rfl);(case hg=>rfl);(case hr=>(go_simp;try rfl));intro gb291 hg w7 hbox hb;have n0_:=qK (qT (by repeat (with_reducible first|exact HB.out|apply qA|apply qD|apply qO)) hb);have n1_:=qK (hbox);have n2_:=qK ((by rw [hg];exact (qZ (by repeat (with_reducible first|exact HB.out|apply qA|apply qD|apply qO))):w.heap.size≤gb291));have n3_:=qK ((by rw [hg];exact (qZ (by repeat (with_reducible first|exact HB.out|apply qA|apply qD|apply qO))):w.heap.size≤gb291));clear HB;have HB:=n0_;have BK291:=n1_;have GW291:=n2_;have GE291:=n3_;clear n0_ n1_ n2_ n3_;clear hb hbox hg)|((with_reducible refine gate_dst (N:=3) rfl ?_);refine box_event ?hg (N:=3) ?hd (cs:=#[.slice A1_0 l1_0.length c1_0,.slice A1_1 l1_1.length c1_1]) (t:=45) ?hr ?_;(case hd=>rfl);(case hg=>rfl);(case hr=>(go_simp;try rfl));intro gb292 hg w8 hbox hb;have n0_:=qK (qB (g:=gb291) (o:=_) (by (with_reducible repeat (first|refine qN ?_ _|refine qW ?_|refine qL ?_ _));exact BK291.out) hb);have n1_:=qK (qT (by repeat (with_reducible first|exact HB.out|apply qA|apply qD|apply qO|refine qS ?_ GE291.out)) hb);have n2_:=qK (hbox);have n3_:=qK ((by rw [hg];exact (qZ (by repeat (with_reducible first|exact HB.out|apply qA|apply qD|apply qO|refine qS ?_ GE291.out))):w.heap.size≤gb292));have n4_:=qK ((by rw [hg];exact (qZ (by repeat (with_reducible first|exact HB.out|apply qA|apply qD|apply qO|refine qS ?_ GE291.out))):w.heap.size≤gb292));have n5_:=qK ((by rw [hg];exact Nat.ne_of_lt (blk_lt (g:=gb291) (o:=_) (by (with_reducible repeat (first|refine qN ?_ _|refine qW ?_|refine qL ?_ _));exact BK291.out)):gb291 ≠ gb292));have n6_:=qK ((by rw [hg];exact Nat.ne_of_gt (blk_lt (g:=gb291) (o:=_) (by (with_reducible repeat (first|refine qN ?_ _|refine qW ?_|refine qL ?_ _));exact BK291.out)):gb292 ≠ gb291));clear BK291;clear HB;have BK291:=n0_;have HB:=n1_;have BK292:=n2_;have GW292:=n3_;have GE292:=n4_;have NB291_292:=n5_;have NB292_291:=n6_;clear n0_ n1_ n2_ n3_ n4_ n5_ n6_;clear hb hbox hg;have hnb9:=NB291_292.out;have hnc9:=NB292_291.out;have hcz10_0:w8.cell? ⟨gb291,0,none⟩=some (.slice A0_0 l0_0.length c0_0):=(qC BK291.out 0).trans rfl;have hcz10_1:w8.cell? ⟨gb291,1,none⟩=some (.slice A0_1 l0_1.length c0_1):=(qC BK291.out 1).trans rfl;have hfz10_0:=qF BK291.out 0;have hfz10_1:=qF BK291.out 1;have hcz11_0:w8.cell? ⟨gb292,0,none⟩=some (.slice A1_0 l1_0.length c1_0):=(qC BK292.out 0).trans rfl;have hcz11_1:w8.cell? ⟨gb292,1,none⟩=some (.slice A1_1 l1_1.length c1_1):=(qC BK292.out 1).trans rfl;have hfz11_0:=qF BK292.out 0;have hfz11_1:=qF BK292.out 1)|((with_reducible refine gate_callee (f:=11) rfl ?_);refine goesL_ (some 9) rfl rfl Try.func11 (by kernel_rfl) rfl #[.slice A0_0 l0_0.length c0_0,.slice A1_0 l1_0.length c1_0] rfl (by (try simp only [mT,mC,mN]);first|done|rfl|(simp only [lD,lT];rfl)) ?_;(with_reducible refine (laws_eqIntS.calls k _ _ l0_0 _ _ l1_0 true _ ?side1 ?side2 ?side3 ?side4 A3.out).mono ?_);(case side1=>repeat (first|exact (cB HR0_0.out HB.out)|(with_reducible first|refine cL ?_ _|refine cN ?_ _|refine cW ?_)));(case side2=>exact HC0_0.out);(case side3=>repeat (first|exact (cB HR1_0.out HB.out)|(with_reducible first|refine cL ?_ _|refine cN ?_ _|refine cW ?_)));(case side4=>exact HC1_0.out);rintro e w' ⟨rfl,⟨nd,rfl⟩⟩;refine ⟨_,rfl,?_⟩)|((with_reducible refine gate_callee (f:=11) rfl ?_);refine goesL_ (some 15) rfl rfl Try.func11 (by kernel_rfl) rfl #[.slice A0_1 l0_1.length c0_1,.slice A1_1 l1_1.length c1_1] rfl (by (try simp only [mT,mC,mN]);first|done|rfl|(simp only [lD,lT];rfl)) ?_;(with_reducible refine (laws_eqIntS.calls k _ _ l0_1 _ _ l1_1 true _ ?side1 ?side2 ?side3 ?side4 A5.out).mono ?_);(case side1=>repeat (first|exact (cB HR0_1.out (by repeat (with_reducible first|exact HB.out|apply qA|apply qD|apply qO|refine qS ?_ GE291.out|refine qS ?_ GE292.out)))|(with_reducible first|refine cL ?_ _|refine cN ?_ _|refine cW ?_)));(case side2=>exact HC0_1.out);(case side3=>repeat (first|exact (cB HR1_1.out (by repeat (with_reducible first|exact HB.out|apply qA|apply qD|apply qO|refine qS ?_ GE291.out|refine qS ?_ GE292.out)))|(with_reducible first|refine cL ?_ _|refine cN ?_ _|refine cW ?_)));(case side4=>exact HC1_1.out);rintro e w' ⟨rfl,⟨nd,rfl⟩⟩;refine ⟨_,rfl,?_⟩))
   go_ret
   exact ⟨by first|rfl|(simp [errW_none,errW_some] <;> rfl)|(simp [*,errW_none,errW_some] <;> rfl),by repeat (first|(with_reducible first|exact HB.out|apply qA|apply qD|apply qO|refine qS ?_ GE291.out|refine qS ?_ GE292.out)|exact HB.out)⟩
  ·replace c6:=Bool.eq_false_iff.mpr c6;subst c6;have H1:(none)=some r:=by rw [if_neg (show ¬ (false=true) by decide)] at H;exact H
   clear H;have H:=H1;clear H1;exact absurd H (by simp)
 ·replace c4:=Bool.eq_false_iff.mpr c4;subst c4;have H1:(none)=some r:=by rw [if_neg (show ¬ (false=true) by decide)] at H;exact H
  clear H;have H:=H1;clear H1;exact absurd H (by simp)

/-! ### laws_eqDependS: function 10 -/
def laws_eqDependS.l0 : Nat→List (S45)→List (S45)→Int→Option (Bool)
 | 0,_,_,_=>none
 | k + 1,x0,x1,x5=>if x5 < (x0.length:Int) then (if 0≤x5 then (if x5 < (x1.length:Int) then ((laws_eqDepend.f k ((rd_T45 x0 x5).f0) ((rd_T45 x0 x5).f1) ((rd_T45 x1 x5).f0) ((rd_T45 x1 x5).f1)).bind fun t297=>(if t297=true then (laws_eqDependS.l0 k x0 x1 (wrap64 (x5 + 1))) else (none))) else (none)) else (none)) else (some true)
def laws_eqDependS.f (k:Nat) (l0:List (S45)) (l1:List (S45)):Option (Bool):=if (l0.length:Int)=(l1.length:Int) then (laws_eqDependS.l0 k l0 l1 0) else (none)
theorem laws_eqDependS.mono_l : ∀ k,(∀ y0 y1 y2,LeO (laws_eqDependS.l0 k y0 y1 y2) (laws_eqDependS.l0 (k + 1) y0 y1 y2))
 | 0=>fun _ _ _ r h=>by simp [laws_eqDependS.l0] at h
 | k + 1=>by
  have ih0:=laws_eqDependS.mono_l k
  ·intro y0 y1 y2;unfold laws_eqDependS.l0
   repeat' first
   | (with_reducible exact ih0 _ _ _)
   | (with_reducible exact laws_eqDepend.mono _ _ _ _ _)
   | (with_reducible exact LeO.refl _)
   | (with_reducible exact LeO.none _)
   | (with_reducible refine LeO.ite ?_ ?_)
   | (with_reducible refine LeO.bind ?_ (fun _=>?_))
   | exact ih0 _ _ _
   | exact laws_eqDepend.mono _ _ _ _ _
   | exact LeO.none _
   | refine LeO.ite ?_ ?_
   | refine LeO.bind ?_ (fun _=>?_)
theorem laws_eqDependS.mono : ∀ a0 a1 k,LeO (laws_eqDependS.f k a0 a1) (laws_eqDependS.f (k + 1) a0 a1):=by
 intro a0 a1 k;have ih0:=laws_eqDependS.mono_l k;unfold laws_eqDependS.f
 repeat' first
   | (with_reducible exact ih0 _ _ _)
   | (with_reducible exact laws_eqDepend.mono _ _ _ _ _)
   | (with_reducible exact LeO.refl _)
   | (with_reducible exact LeO.none _)
   | (with_reducible refine LeO.ite ?_ ?_)
   | (with_reducible refine LeO.bind ?_ (fun _=>?_))
   | exact ih0 _ _ _
   | exact laws_eqDepend.mono _ _ _ _ _
   | exact LeO.none _
   | refine LeO.ite ?_ ?_
   | refine LeO.bind ?_ (fun _=>?_)
def laws_eqDependS.T6 : Bool × List (List Nat × List Nat):=(true,[([],[]),([],[]),([0,1],[0,1]),([2],[2]),([],[]),([],[]),([4,5],[4,5]),([6],[6]),([3,7],[3,7]),([8],[8])])
def laws_eqDependS.B6 : List Nat:=[0,0,3,7,0,0,48,112,255,511]
theorem laws_eqDependS.tab6 : rtab .any (opsOf Try.f10 6)=laws_eqDependS.T6:=by kernel_rfl
theorem laws_eqDependS.bits6 : waitsOk laws_eqDependS.T6.2 laws_eqDependS.B6=true:=by kernel_rfl
set_option maxHeartbeats 8000000 in
set_option maxRecDepth 100000 in
theorem laws_eqDependS.calls (k:Nat) (A0:Option Addr) (c0:Nat) (l0:List (S45)) (A1:Option Addr) (c1:Nat) (l1:List (S45)) (r:Bool) (w:World) (hr0:Kd.C k45 w A0 l0.length l0) (hc0:l0.length≤c0) (hr1:Kd.C k45 w A1 l1.length l1) (hc1:l1.length≤c1) (h:laws_eqDependS.f k l0 l1=some r) :
  Calls Try.prog 10 #[.slice A0 l0.length c0,.slice A1 l1.length c1] w fun e w'=>e=.returned (.bool r)∧Below w.heap.size w w':=by
 have hu45:=Try.underlying45;have HR0:=qK hr0;have HC0:=qK hc0;clear hr0 hc0;have HR1:=qK hr1;have HC1:=qK hc1;clear hr1 hc1;have HB:=qK (Below.refl w.heap.size w);have H:(if (l0.length:Int)=(l1.length:Int) then (laws_eqDependS.l0 k l0 l1 0) else (none))=some r:=h;clear h;by_cases c3:(l0.length:Int)=(l1.length:Int)
 ·rw [if_pos c3] at H;have c3b0:((l0.length:Int) == (l1.length:Int))=true:=beq_iff_eq.mpr c3;have c3b1:((l0.length:Int) != (l1.length:Int))=false:=bne_eq_false_iff_eq.mpr c3;have c3b2:(l0.length == l1.length)=true:=by first|simpa using c3|(simp at c3 ⊢;omega)
  clear c3;have H':=qK H;clear H;go_enter Try.func10,Try.ntmps10
  go_wp2
  go_loopg [5] k (fun kq v5 w'=>∃ (x5_1:Int),v5=.int .i64 x5_1∧Aside0 (laws_eqDependS.l0 kq l0 l1 x5_1=some r)∧Aside0 (kq≤k)∧Aside0 (Below w.heap.size w w'))
  case atStart=>exact ⟨(0),(by first|rfl|(simp;done)|(simp [*];done)),H',⟨Nat.le_refl _⟩,⟨by repeat (first|(with_reducible first|exact HB.out|apply qA|apply qD|apply qO)|exact HB.out)⟩⟩
  case round =>
   clear H';try clear c1
   try clear p2
   try clear c3
   try clear c3b0
   try clear c3b1
   try clear c3b2
   obtain ⟨x5_1,rfl,HA,HK1,HB⟩:=hrel;cases gk with
   | zero=>exact absurd HA.out (by simp [laws_eqDependS.l0])
   | succ k1 =>
    have H:=HA.out;clear HA;simp only [laws_eqDependS.l0] at H;by_cases c4:x5_1 < (l0.length:Int)
    ·rw [if_pos c4] at H;have c4b0:decide (x5_1 < (l0.length:Int))=true:=decide_eq_true c4;clear c4;by_cases c5:0≤x5_1
     ·rw [if_pos c5] at H;have c5b0:decide (0≤x5_1)=true:=decide_eq_true c5;clear c5;by_cases c6:x5_1 < (l1.length:Int)
      ·rw [if_pos c6] at H;have c6b0:decide (x5_1 < (l1.length:Int))=true:=decide_eq_true c6;clear c6;replace H:=Option.bind_eq_some_iff.mp H;obtain ⟨t297,A70,H⟩:=H;replace H:(if t297=true then (laws_eqDependS.l0 k1 l0 l1 (wrap64 (x5_1 + 1))) else (none))=some r:=H;have A7:=qK A70;clear A70;by_cases c8:t297=true
       ·subst c8;have H1:(laws_eqDependS.l0 k1 l0 l1 (wrap64 (x5_1 + 1)))=some r:=by rw [if_pos rfl] at H;exact H
        clear H;have H:=H1;clear H1;have H':=qK H;clear H;try go_wp2
        (try (rw [drewN_self wr];generalize hq_:World.drewN wr _=wr;have n0_:Aside0 (Below w.heap.size w wr):=⟨by rw [← hq_];exact (by repeat (with_reducible first|exact HB.out|apply qA|apply qD|apply qO))⟩;clear HB hq_;have HB:=n0_;clear n0_));have n0_:=qK (qO HB.out);clear HB;have HB:=n0_;clear n0_;have p295:0≤(x5_1:Int):=of_decide_eq_true (by first|(with_reducible assumption)|assumption);have q295:x5_1 < (l0.length:Int):=of_decide_eq_true (by first|(with_reducible assumption)|assumption);obtain ⟨ad295,A295_0,c295_0,A295_1,c295_1,e295,hx295_0,hx295_1,hl295_0,hi295_0,hl295_1,hi295_1⟩:=at_T45 HR0.out x5_1 p295 q295;have hw295_1:=hx295_1;have hw295_0:=hx295_0;cases e295
        replace hx295_0:=(HB.out.cell (World.block_lt_of_cell? w _ hx295_0)).trans hx295_0;replace hx295_1:=(HB.out.cell (World.block_lt_of_cell? w _ hx295_1)).trans hx295_1;have HR295_0:=qK hi295_0;have HC295_0:=qK hl295_0;clear hi295_0 hl295_0;have HR295_1:=qK hi295_1;have HC295_1:=qK hl295_1;clear hi295_1 hl295_1;replace p295:=eq_true p295;replace q295:=eq_true q295;have p296:0≤(x5_1:Int):=of_decide_eq_true (by first|(with_reducible assumption)|assumption);have q296:x5_1 < (l1.length:Int):=of_decide_eq_true (by first|(with_reducible assumption)|assumption);obtain ⟨ad296,A296_0,c296_0,A296_1,c296_1,e296,hx296_0,hx296_1,hl296_0,hi296_0,hl296_1,hi296_1⟩:=at_T45 HR1.out x5_1 p296 q296;have hw296_1:=hx296_1;have hw296_0:=hx296_0;cases e296
        replace hx296_0:=(HB.out.cell (World.block_lt_of_cell? w _ hx296_0)).trans hx296_0;replace hx296_1:=(HB.out.cell (World.block_lt_of_cell? w _ hx296_1)).trans hx296_1;have HR296_0:=qK hi296_0;have HC296_0:=qK hl296_0;clear hi296_0 hl296_0;have HR296_1:=qK hi296_1;have HC296_1:=qK hl296_1;clear hi296_1 hl296_1;replace p296:=eq_true p296;replace q296:=eq_true q296;refine start_ (n:=10) (S:=fun w'=>w'.cell? (ad295.add ((x5_1).toNat * 2))=some (.slice A295_0 ((rd_T45 l0 x5_1).f0).length c295_0)∧w'.cell? ⟨(ad295.add ((x5_1).toNat * 2)).block,(ad295.add ((x5_1).toNat * 2)).off + 1,none⟩=some (.slice A295_1 ((rd_T45 l0 x5_1).f1).length c295_1)∧w'.cell? (ad296.add ((x5_1).toNat * 2))=some (.slice A296_0 ((rd_T45 l1 x5_1).f0).length c296_0)∧w'.cell? ⟨(ad296.add ((x5_1).toNat * 2)).block,(ad296.add ((x5_1).toNat * 2)).off + 1,none⟩=some (.slice A296_1 ((rd_T45 l1 x5_1).f1).length c296_1)) (ds:=[]) #[Z,Z,Z,Z,Z,Z,Z,Z,Z,Z] (by kernel_rfl) rfl rfl ⟨((HB.out.cell (World.block_lt_of_cell? w _ hw295_0)).trans hw295_0),((HB.out.cell (World.block_lt_of_cell? w _ hw295_1)).trans hw295_1),((HB.out.cell (World.block_lt_of_cell? w _ hw296_0)).trans hw296_0),((HB.out.cell (World.block_lt_of_cell? w _ hw296_1)).trans hw296_1)⟩ (fun hHeld=>?_);refine with_tabW laws_eqDependS.tab6 laws_eqDependS.bits6 (fun HT_ HW_=>?_);generalize wr.drew=w9 at HB HR295_0 HR295_1 HR296_0 HR296_1 hx295_0 hx295_1 hx296_0 hx296_1 hHeld ⊢
        refine pure_ (i:=0) (N:=some 17) (v:=?_) (a':=?_) #[Y,Z,Z,Z,Z,Z,Z,Z,Z,Z] rfl rfl (any_of HT_.out (by kernel_rfl)) (fun _ _ _ h=>h) (Or.inl ⟨by rfl,?_⟩) ?_ ?_;rotate_left
        ·intro w';go_simp;with_reducible rfl
        rotate_left
        ·simp only [Act.put,sIb,sZ,sS,i64_w,i32_w];rfl
        refine pure_ (i:=1) (N:=some 18) (v:=?_) (a':=?_) #[Y,Y,Z,Z,Z,Z,Z,Z,Z,Z] rfl rfl (any_of HT_.out (by kernel_rfl)) (fun _ _ _ h=>h) (Or.inl ⟨by rfl,?_⟩) ?_ ?_;rotate_left
        ·intro w';go_simp;with_reducible rfl
        rotate_left
        ·simp only [Act.put,sIb,sZ,sS,i64_w,i32_w];rfl
        refine pure_ (i:=2) (N:=some 19) (v:=?_) (a':=?_) #[Y,Y,Y,Z,Z,Z,Z,Z,Z,Z] rfl rfl (any_of HT_.out (by kernel_rfl)) (fun _ _ _ h=>h) (Or.inl ⟨by rfl,?_⟩) ?_ ?_;rotate_left
        ·intro w';go_simp;with_reducible rfl
        rotate_left
        ·simp only [Act.put,sIb,sZ,sS,i64_w,i32_w];rfl
        refine pure_ (i:=4) (N:=some 21) (v:=?_) (a':=?_) #[Y,Y,Y,Z,Y,Z,Z,Z,Z,Z] rfl rfl (any_of HT_.out (by kernel_rfl)) (fun _ _ _ h=>h) (Or.inl ⟨by rfl,?_⟩) ?_ ?_;rotate_left
        ·intro w';go_simp;with_reducible rfl
        rotate_left
        ·simp only [Act.put,sIb,sZ,sS,i64_w,i32_w];rfl
        refine pure_ (i:=5) (N:=some 22) (v:=?_) (a':=?_) #[Y,Y,Y,Z,Y,Y,Z,Z,Z,Z] rfl rfl (any_of HT_.out (by kernel_rfl)) (fun _ _ _ h=>h) (Or.inl ⟨by rfl,?_⟩) ?_ ?_;rotate_left
        ·intro w';go_simp;with_reducible rfl
        rotate_left
        ·simp only [Act.put,sIb,sZ,sS,i64_w,i32_w];rfl
        refine pure_ (i:=6) (N:=some 23) (v:=?_) (a':=?_) #[Y,Y,Y,Z,Y,Y,Y,Z,Z,Z] rfl rfl (any_of HT_.out (by kernel_rfl)) (fun _ _ _ h=>h) (Or.inl ⟨by rfl,?_⟩) ?_ ?_;rotate_left
        ·intro w';go_simp;with_reducible rfl
        rotate_left
        ·simp only [Act.put,sIb,sZ,sS,i64_w,i32_w];rfl
        refine take_ (i:=3) (N:=some 20) (v:=?_) (a':=?_) #[Y,Y,Y,Y,Y,Y,Y,Z,Z,Z] rfl rfl (take_ofW HT_.out HW_.out (by kernel_rfl)) (fun _ _ _ h=>h) (Or.inl ⟨by rfl,?_⟩) hHeld ?_ ?_;rotate_left
        ·rintro w' ⟨s0,s1,s2,s3⟩;go_simp;with_reducible rfl
        rotate_left
        ·simp only [Act.put,sIb,sZ,sS,i64_w,i32_w];rfl
        refine take_ (i:=7) (N:=some 24) (v:=?_) (a':=?_) #[Y,Y,Y,Y,Y,Y,Y,Y,Z,Z] rfl rfl (take_ofW HT_.out HW_.out (by kernel_rfl)) (fun _ _ _ h=>h) (Or.inl ⟨by rfl,?_⟩) hHeld ?_ ?_;rotate_left
        ·rintro w' ⟨s0,s1,s2,s3⟩;go_simp;with_reducible rfl
        rotate_left
        ·simp only [Act.put,sIb,sZ,sS,i64_w,i32_w];rfl
        refine one_ (i:=8) (N:=some 25) #[Y,Y,Y,Y,Y,Y,Y,Y,Y,Z] rfl rfl (one_of HT_.out (by kernel_rfl)) (by decide) (fun K hK=>?_);refine goes_ Try.func27 (by kernel_rfl) rfl #[.agg #[.slice A295_0 ((rd_T45 l0 x5_1).f0).length c295_0,.slice A295_1 ((rd_T45 l0 x5_1).f1).length c295_1],.agg #[.slice A296_0 ((rd_T45 l1 x5_1).f0).length c296_0,.slice A296_1 ((rd_T45 l1 x5_1).f1).length c296_1]] (by rfl) rfl rfl (by (try simp only [mT,mC,mN]);first|done|rfl|(simp only [lD,lT];rfl)) ?_;with_reducible refine (laws_eqDepend.calls k1 _ _ ((rd_T45 l0 x5_1).f0) _ _ ((rd_T45 l0 x5_1).f1) _ _ ((rd_T45 l1 x5_1).f0) _ _ ((rd_T45 l1 x5_1).f1) true _ ?side1 ?side2 ?side3 ?side4 ?side5 ?side6 ?side7 ?side8 A7.out).mono ?_
        (case side1=>repeat (first|exact (cB HR295_0.out HB.out)|(with_reducible first|refine cL ?_ _|refine cN ?_ _|refine cW ?_)));(case side2=>exact HC295_0.out);(case side3=>repeat (first|exact (cB HR295_1.out HB.out)|(with_reducible first|refine cL ?_ _|refine cN ?_ _|refine cW ?_)));(case side4=>exact HC295_1.out);(case side5=>repeat (first|exact (cB HR296_0.out HB.out)|(with_reducible first|refine cL ?_ _|refine cN ?_ _|refine cW ?_)));(case side6=>exact HC296_0.out);(case side7=>repeat (first|exact (cB HR296_1.out HB.out)|(with_reducible first|refine cL ?_ _|refine cN ?_ _|refine cW ?_)));(case side8=>exact HC296_1.out);rintro e w10 ⟨rfl,hb⟩;refine ⟨_,rfl,?_⟩;have n0_:=qK (qT (by repeat (with_reducible first|exact HB.out|apply qA|apply qD|apply qO)) hb);clear HB;have HB:=n0_;clear n0_;(try clear hb);refine hK.out _ _ ⟨((HB.out.cell (World.block_lt_of_cell? w _ hw295_0)).trans hw295_0),((HB.out.cell (World.block_lt_of_cell? w _ hw295_1)).trans hw295_1),((HB.out.cell (World.block_lt_of_cell? w _ hw296_0)).trans hw296_0),((HB.out.cell (World.block_lt_of_cell? w _ hw296_1)).trans hw296_1)⟩ (fun hHeld=>?_);clear hK K;refine norm_ (a':=?_) ?_ ?_;rotate_left
        ·show Act.put _ (some 25) _=_
         simp only [Act.put,sIb,sZ,sS,i64_w,i32_w];rfl
        refine pure_ (i:=9) (N:=some 26) (v:=?_) (a':=?_) #[Y,Y,Y,Y,Y,Y,Y,Y,Y,Y] rfl rfl (any_of HT_.out (by kernel_rfl)) (fun _ _ _ h=>h) (Or.inl ⟨by rfl,?_⟩) ?_ ?_;rotate_left
        ·intro w';go_simp;with_reducible rfl
        rotate_left
        ·simp only [Act.put,sIb,sZ,sS,i64_w,i32_w];rfl
        refine done_ (done_of HT_.out (by kernel_rfl)) ?_;try go_wp2
        go_roundg k1
        case measure=>have:=HK1.out;omega
        case rel=>exact ⟨(wrap64 (x5_1 + 1)),(by first|rfl|(simp;done)|(simp [*];done)),H',⟨by have:=HK1.out;omega⟩,⟨by repeat (first|(with_reducible first|exact HB.out|apply qA|apply qD|apply qO)|exact HB.out)⟩⟩
       ·replace c8:=Bool.eq_false_iff.mpr c8;subst c8;have H1:(none)=some r:=by rw [if_neg (show ¬ (false=true) by decide)] at H;exact H
        clear H;have H:=H1;clear H1;exact absurd H (by simp)
      ·rw [if_neg c6] at H;exact absurd H (by simp)
     ·rw [if_neg c5] at H;exact absurd H (by simp)
    ·rw [if_neg c4] at H;have c4b0:decide (x5_1 < (l0.length:Int))=false:=decide_eq_false c4;clear c4;obtain rfl:=Option.some.inj H;go_wp2
     go_ret
     exact ⟨by first|rfl|(simp [errW_none,errW_some] <;> rfl)|(simp [*,errW_none,errW_some] <;> rfl),by repeat (first|(with_reducible first|exact HB.out|apply qA|apply qD|apply qO)|exact HB.out)⟩
 ·rw [if_neg c3] at H;exact absurd H (by simp)

/-! ### laws_FnExactIsNormal: function 3 -/
theorem laws_szIntS_some (l : List Int) (a : Int) (h0 : 0 ≤ a) (h1 : a ≤ 1048576) (hl : l.length ≤ maxLen) : laws_szIntS.f l a = some (if a < (l.length : Int) then -1 else a - (l.length : Int)) := by
  unfold maxLen at hl
  unfold laws_szIntS.f
  rw [wrap_id (by omega) (by omega)]
  by_cases h : a < (l.length : Int)
  · rw [if_pos (by omega), if_pos h]
  · rw [if_neg (by omega), if_neg h]
theorem toIntS_ev (l : List Int) (hl : l.length ≤ 1048576) : Ev (fun k => laws_toIntS.f k l) l := by
  have loop := loop_up (n := l.length) (P := fun i => ∀ x : List Int, x.length = l.length → x.take i = l.take i → Ev (fun k => laws_toIntS.l0 k l x (i : Int)) l) ?_ ?_
  · unfold laws_toIntS.f
    refine Ev.pos (by omega) (Ev.pos (by omega) ?_)
    exact loop 0 (Nat.zero_le _) (List.replicate _ 0) (by simp) (by simp)
  · intro x hx ht
    refine Ev.succ ?_
    simp only [laws_toIntS.l0]
    refine Ev.neg (by omega) (Ev.const ?_)
    rw [List.take_of_length_le (by omega), List.take_of_length_le (by omega)] at ht
    rw [ht]
  · intro i hi ih x hx ht
    refine Ev.succ ?_
    simp only [laws_toIntS.l0]
    refine Ev.pos (by omega) (Ev.pos (by omega) (Ev.pos (by omega) ?_))
    rw [wrap_add (by omega) (by omega), rd_nat hi]
    refine ih _ (by simp [hx]) ?_
    rw [List.take_succ_eq_append_getElem (by simp [hx]; omega), List.take_succ_eq_append_getElem hi]
    simp only [Int.toNat_natCast, List.getElem_set_self]
    rw [List.take_set_of_le (by omega), ht]
theorem laws_toIntS_x (l : List Int) (hl : l.length ≤ 1048576) : ∃ k, laws_toIntS.f k l = some l := (toIntS_ev l hl).rounds
theorem eqIntS_ev (l : List Int) (hl : l.length ≤ 1048576) : Ev (fun k => laws_eqIntS.f k l l) true := by
  have loop := loop_up (n := l.length) (P := fun i => Ev (fun k => laws_eqIntS.l0 k l l (i : Int)) true) ?_ ?_
  · unfold laws_eqIntS.f
    exact Ev.pos rfl (loop 0 (Nat.zero_le _))
  · refine Ev.succ ?_
    simp only [laws_eqIntS.l0]
    exact Ev.neg (by omega) (Ev.const rfl)
  · intro i hi ih
    refine Ev.succ ?_
    simp only [laws_eqIntS.l0]
    refine Ev.pos (by omega) (Ev.pos (by omega) (Ev.pos (by omega) (Ev.pos trivial ?_)))
    rw [wrap_add (by omega) (by omega)]
    exact ih
theorem laws_eqIntS_x (l : List Int) (hl : l.length ≤ 1048576) : ∃ k, laws_eqIntS.f k l l = some true := (eqIntS_ev l hl).rounds
def wtD (x : S42) : Nat := x.f0.length + x.f1.length
theorem sum_ge : ∀ {l : List Nat} {x : Nat}, x ∈ l → x ≤ l.sum
  | a :: l, x, h => by
    rw [List.sum_cons]
    rcases List.mem_cons.1 h with rfl | h
    · omega
    · have := sum_ge h; omega
def szOk_laws_szDependS (l : List S42) : Prop := l.length + (l.map wtD).sum ≤ 1048576
theorem laws_szDependS_x (l : List S42) (a : Int) (h0 : 0 ≤ a) (h1 : a ≤ 1048576) (hl : l.length ≤ maxLen ∧ ∀ x, x ∈ l → (x.f0.length ≤ maxLen ∧ ∀ y, y ∈ x.f0 → (Lit.int .i64 y).wf = true) ∧ (x.f1.length ≤ maxLen ∧ ∀ y, y ∈ x.f1 → (Lit.int .i64 y).wf = true)) :
    ∃ s, (∃ k, laws_szDependS.f k l a = some s) ∧ (s < 0 ∨ szOk_laws_szDependS l ∧ 0 ≤ s ∧ s ≤ 1048576) := by
  have hm : l.length ≤ 9223372036854775807 := by have := hl.1; unfold maxLen at this; omega
  have loop := loop_up (n := l.length) (P := fun i => ∀ b : Int, 0 ≤ b → b ≤ 1048576 → ∃ s, Ev (fun k => laws_szDependS.l0 k l b (i : Int)) s ∧ (s < 0 ∨ (((l.drop i).map wtD).sum : Nat) ≤ b ∧ 0 ≤ s ∧ s ≤ b)) ?_ ?_
  · unfold laws_szDependS.f
    rw [wrap_id (by omega) (by omega)]
    by_cases h : a - (l.length : Int) < 0
    · exact ⟨-1, (Ev.pos h (Ev.const rfl)).rounds, .inl (by omega)⟩
    · obtain ⟨s, hs, hq⟩ := loop 0 (Nat.zero_le _) (a - (l.length : Int)) (by omega) (by omega)
      refine ⟨s, (Ev.neg h hs).rounds, ?_⟩
      rcases hq with hq | ⟨q1, q2, q3⟩
      · exact .inl hq
      · refine .inr ⟨?_, q2, by omega⟩
        unfold szOk_laws_szDependS
        simp only [List.drop_zero] at q1
        omega
  · intro b b0 b1
    refine ⟨b, Ev.succ ?_, .inr ⟨by simp; omega, b0, by omega⟩⟩
    simp only [laws_szDependS.l0]
    exact Ev.neg (by omega) (Ev.const rfl)
  · intro i hi ih b b0 b1
    have hx := hl.2 l[i] (List.getElem_mem hi)
    have hr : rd_T42 l (i : Int) = l[i] := by simp [rd_T42, hi]
    have hd : ((l.drop i).map wtD).sum = wtD l[i] + ((l.drop (i + 1)).map wtD).sum := by rw [List.drop_eq_getElem_cons hi, List.map_cons, List.sum_cons]
    have e1 := laws_szIntS_some l[i].f0 b b0 b1 hx.1.1
    by_cases c1 : b < (l[i].f0.length : Int)
    · rw [if_pos c1] at e1
      refine ⟨-1, Ev.succ ?_, .inl (by omega)⟩
      simp only [laws_szDependS.l0]
      rw [hr]
      refine Ev.pos (by omega) (Ev.pos (by omega) (Ev.bind (Ev.const (by unfold laws_szDepend.f; rw [e1]; simp; rfl)) (Ev.pos (by omega) (Ev.const rfl))))
    rw [if_neg c1] at e1
    have e2 := laws_szIntS_some l[i].f1 (b - (l[i].f0.length : Int)) (by omega) (by omega) hx.2.1
    by_cases c2 : b - (l[i].f0.length : Int) < (l[i].f1.length : Int)
    · rw [if_pos c2] at e2
      refine ⟨-1, Ev.succ ?_, .inl (by omega)⟩
      simp only [laws_szDependS.l0]
      rw [hr]
      refine Ev.pos (by omega) (Ev.pos (by omega) (Ev.bind (Ev.const (by unfold laws_szDepend.f; rw [e1]; simp only [Option.bind_some]; rw [if_neg (by omega), e2]; simp; rfl)) (Ev.pos (by omega) (Ev.const rfl))))
    rw [if_neg c2] at e2
    obtain ⟨s, hs, hq⟩ := ih (b - (l[i].f0.length : Int) - (l[i].f1.length : Int)) (by omega) (by omega)
    refine ⟨s, Ev.succ ?_, ?_⟩
    · simp only [laws_szDependS.l0]
      rw [hr, wrap_add (by omega) (by omega)]
      exact Ev.pos (by omega) (Ev.pos (by omega) (Ev.bind (Ev.const (by unfold laws_szDepend.f; rw [e1]; simp only [Option.bind_some]; rw [if_neg (by omega), e2]; simp only [Option.bind_some]; rw [if_neg (by omega)])) (Ev.neg (by omega) hs)))
    · rcases hq with hq | ⟨q1, q2, q3⟩
      · exact .inl hq
      · rw [hd]; unfold wtD at *; exact .inr ⟨by omega, q2, by omega⟩
def cvD (x : S42) : S45 := ⟨x.f0, x.f1⟩
def cvDependS (l : List S42) : List S45 := l.map cvD
theorem wtD_le {l : List S42} (h : szOk_laws_szDependS l) : l.length ≤ 1048576 ∧ ∀ x ∈ l, x.f0.length ≤ 1048576 ∧ x.f1.length ≤ 1048576 := by
  unfold szOk_laws_szDependS at h
  refine ⟨by omega, fun x hx => ?_⟩
  have := sum_ge (List.mem_map_of_mem (f := wtD) hx)
  unfold wtD at *
  omega
theorem laws_toDependS_x (l : List S42) (h : szOk_laws_szDependS l) : ∃ k, laws_toDependS.f k l = some (cvDependS l) := by
  obtain ⟨hl, hx⟩ := wtD_le h
  unfold cvDependS
  have loop := loop_up (n := l.length) (P := fun i => ∀ x : List S45, x.length = l.length → x.take i = (l.map cvD).take i → Ev (fun k => laws_toDependS.l0 k l x (i : Int)) (l.map cvD)) ?_ ?_
  · refine Ev.rounds ?_
    unfold laws_toDependS.f
    refine Ev.pos (by omega) (Ev.pos (by omega) ?_)
    exact loop 0 (Nat.zero_le _) (List.replicate _ z45) (by simp) (by simp)
  · intro x hx2 ht
    refine Ev.succ ?_
    simp only [laws_toDependS.l0]
    refine Ev.neg (by omega) (Ev.const ?_)
    rw [List.take_of_length_le (by omega), List.take_of_length_le (by simp)] at ht
    rw [ht]
  · intro i hi ih x hx2 ht
    have hr : rd_T42 l (i : Int) = l[i] := by simp [rd_T42, hi]
    obtain ⟨b0, b1⟩ := hx l[i] (List.getElem_mem hi)
    refine Ev.succ ?_
    simp only [laws_toDependS.l0]
    rw [hr]
    refine Ev.pos (by omega) (Ev.pos (by omega) (Ev.bind (a := (l[i].f0, l[i].f1)) ?_ (Ev.pos (by omega) ?_)))
    · unfold laws_toDepend.f
      exact Ev.bind (toIntS_ev _ b0) (Ev.bind (toIntS_ev _ b1) (Ev.const rfl))
    rw [wrap_add (by omega) (by omega)]
    refine ih _ (by simp [hx2]) ?_
    rw [List.take_succ_eq_append_getElem (by simp [hx2]; omega), List.take_succ_eq_append_getElem (by simpa using hi)]
    simp only [Int.toNat_natCast, List.getElem_set_self, List.getElem_map]
    rw [List.take_set_of_le (by omega), ht]
    rfl
def okDependS (l : List S45) : Prop := l.length ≤ 1048576 ∧ ∀ x ∈ l, x.f0.length ≤ 1048576 ∧ x.f1.length ≤ 1048576
theorem okDependS_cv {l : List S42} (h : szOk_laws_szDependS l) : okDependS (cvDependS l) := by
  obtain ⟨hl, hx⟩ := wtD_le h
  refine ⟨by unfold cvDependS; simpa using hl, fun x hx2 => ?_⟩
  obtain ⟨y, hy, rfl⟩ := List.mem_map.1 hx2
  exact hx y hy
theorem laws_eqDependS_x (l : List S45) (h : okDependS l) : ∃ k, laws_eqDependS.f k l l = some true := by
  obtain ⟨hl, hx⟩ := h
  have loop := loop_up (n := l.length) (P := fun i => Ev (fun k => laws_eqDependS.l0 k l l (i : Int)) true) ?_ ?_
  · refine Ev.rounds ?_
    unfold laws_eqDependS.f
    exact Ev.pos rfl (loop 0 (Nat.zero_le _))
  · refine Ev.succ ?_
    simp only [laws_eqDependS.l0]
    exact Ev.neg (by omega) (Ev.const rfl)
  · intro i hi ih
    have hr : rd_T45 l (i : Int) = l[i] := by simp [rd_T45, hi]
    obtain ⟨b0, b1⟩ := hx l[i] (List.getElem_mem hi)
    refine Ev.succ ?_
    simp only [laws_eqDependS.l0]
    rw [hr, wrap_add (by omega) (by omega)]
    refine Ev.pos (by omega) (Ev.pos (by omega) (Ev.pos (by omega) (Ev.bind (a := true) ?_ (Ev.pos rfl ih))))
    unfold laws_eqDepend.f
    exact Ev.bind (eqIntS_ev _ b0) (Ev.pos rfl (Ev.bind (eqIntS_ev _ b1) (Ev.pos rfl (Ev.const rfl))))
/-- THE ONE PURE STATEMENT of laws_FnExactIsNormal: what the reference tells, the program tells. -/
def laws_FnExactIsNormal.Pure : Prop := ∀ (l0 : List (S42)) (a1 : Int) (l2 : List Int), (l0.length ≤ maxLen ∧ ∀ x_, x_ ∈ l0 → (x_.f0.length ≤ maxLen ∧ ∀ x__, x__ ∈ x_.f0 → (Lit.int .i64 x__).wf = true) ∧ (x_.f1.length ≤ maxLen ∧ ∀ x__, x__ ∈ x_.f1 → (Lit.int .i64 x__).wf = true)) → ((Lit.int .i64 a1).wf = true) → (l2.length ≤ maxLen ∧ ∀ x_, x_ ∈ l2 → (Lit.int .i64 x_).wf = true) → l2.length ≤ 1048576 → szOk_laws_szDependS l0 → ∃ (k : Nat) (r : Bool × Bool), spec_IsNormal.f k (cvDependS l0) a1 l2 = some r ∧ impl_IsNormal.f k (cvDependS l0) a1 l2 = some r
set_option maxHeartbeats 16000000 in
set_option maxRecDepth 100000 in
theorem laws_FnExactIsNormal.walk (P:laws_FnExactIsNormal.Pure) (A0:Option Addr) (c0:Nat) (l0:List (S42)) (a1:Int) (A2:Option Addr) (c2:Nat) (l2:List Int) (w:World) (hr0:Kd.C k42 w A0 l0.length l0) (hc0:l0.length≤c0) (hr2:Kd.C (Kd.int .i64) w A2 l2.length l2) (hc2:l2.length≤c2) (wq0:l0.length≤maxLen∧∀ x_,x_ ∈ l0→(x_.f0.length≤maxLen∧∀ x__,x__ ∈ x_.f0→(Lit.int .i64 x__).wf=true)∧(x_.f1.length≤maxLen∧∀ x__,x__ ∈ x_.f1→(Lit.int .i64 x__).wf=true)) (wq1:(Lit.int .i64 a1).wf=true) (wq2:l2.length≤maxLen∧∀ x_,x_ ∈ l2→(Lit.int .i64 x_).wf=true) :
  Calls Try.prog 3 #[.slice A0 l0.length c0,.int .i64 a1,.slice A2 l2.length c2] w fun e w'=>e=.returned (.bool true)∧Below w.heap.size w w':=by
 have HR0:=qK hr0;have HC0:=qK hc0;clear hr0 hc0;have HR2:=qK hr2;have HC2:=qK hc2;clear hr2 hc2;have HB:=qK (Below.refl w.heap.size w);by_cases g0_:(l2.length:Int) > 1048576
 ·have g0_b:decide ((l2.length:Int) > 1048576)=true:=decide_eq_true g0_;clear g0_;go_enter Try.func3,Try.ntmps3
  go_wp2
  go_ret
  exact ⟨rfl,HB.out⟩
 have g0_b:decide ((l2.length:Int) > 1048576)=false:=decide_eq_false g0_;obtain ⟨s1_,Nr1_,q1_⟩:=laws_szDependS_x l0 1048576 (by omega) (by omega) wq0;obtain ⟨kz1_,Nr1_⟩:=Nr1_;have N1:=qK Nr1_;clear Nr1_;by_cases g1_:s1_ < 0
 ·have g1_b:decide (s1_ < 0)=true:=decide_eq_true g1_;clear g1_ q1_;go_enter Try.func3,Try.ntmps3
  go_wp2_with (first|((with_reducible refine gate_callee (f:=5) rfl ?_);refine goesL_ (some 19) rfl rfl Try.func5 (by kernel_rfl) rfl #[.slice A0 l0.length c0,.int .i64 1048576] rfl (by (try simp only [mT,mC,mN]);first|done|rfl|(simp only [lD,lT];rfl)) ?_;(with_reducible refine (laws_szDependS.calls (hr0:=cB HR0.out HB.out) (hc0:=HC0.out) (h:=N1.out)).mono ?_);rintro e w1 ⟨rfl,hb⟩;have HST:=qK (hb);have HB1:=qK (qT HB.out HST.out);have HS1:=qK (show w.heap.size≤w1.heap.size from HST.out.size);clear hb HST;refine ⟨_,rfl,?_⟩))
  go_ret
  exact ⟨rfl,HB1.out⟩
 have g1_b:decide (s1_ < 0)=false:=decide_eq_false g1_;have hz1_:szOk_laws_szDependS l0:=by rcases q1_ with h_|h_;exact absurd h_ g1_;exact h_.1
 have hs1_:0≤s1_∧s1_≤1048576:=by rcases q1_ with h_|h_;exact absurd h_ g1_;exact h_.2
 clear q1_;obtain ⟨k_,⟨o0_,o1_⟩,P1,P2⟩:=P l0 a1 l2 wq0 wq1 wq2 (by omega) hz1_;obtain ⟨k2_,Nr2_⟩:=laws_toDependS_x l0 hz1_;obtain ⟨k3_,Nr3_⟩:=laws_toIntS_x l2 (show l2.length≤1048576 by omega);have Nr4_:=P1;obtain ⟨k5_,Nr5_⟩:=laws_toDependS_x l0 hz1_;obtain ⟨k6_,Nr6_⟩:=laws_toIntS_x l2 (show l2.length≤1048576 by omega);have Nr7_:=P2;obtain ⟨k8_,Nr8_⟩:=laws_toDependS_x l0 hz1_;obtain ⟨k9_,Nr9_⟩:=laws_eqDependS_x (cvDependS l0) (okDependS_cv hz1_);obtain ⟨k10_,Nr10_⟩:=laws_toIntS_x l2 (show l2.length≤1048576 by omega);obtain ⟨k11_,Nr11_⟩:=laws_eqIntS_x l2 (show l2.length≤1048576 by omega);have N2:=qK Nr2_;have N3:=qK Nr3_;have N4:=qK Nr4_;have N5:=qK Nr5_;have N6:=qK Nr6_;have N7:=qK Nr7_;have N8:=qK Nr8_;have N9:=qK Nr9_;have N10:=qK Nr10_;have N11:=qK Nr11_;have cno0_:(o0_ != o0_)=false:=bne_self_eq_false _;have cno1_:(o1_ != o1_)=false:=bne_self_eq_false _;clear P1 P2 Nr2_ Nr3_ Nr4_ Nr5_ Nr6_ Nr7_ Nr8_ Nr9_ Nr10_ Nr11_;clear P g0_ g1_ hz1_ hs1_ wq0 wq1 wq2;go_enter Try.func3,Try.ntmps3
 go_upto_region 5 with (first|((with_reducible refine gate_callee (f:=5) rfl ?_);refine goesL_ (some 19) rfl rfl Try.func5 (by kernel_rfl) rfl #[.slice A0 l0.length c0,.int .i64 1048576] rfl (by (try simp only [mT,mC,mN]);first|done|rfl|(simp only [lD,lT];rfl)) ?_;(with_reducible refine (laws_szDependS.calls (hr0:=cB HR0.out HB.out) (hc0:=HC0.out) (h:=N1.out)).mono ?_);rintro e w1 ⟨rfl,hb⟩;have HST:=qK (hb);have HB1:=qK (qT HB.out HST.out);have HS1:=qK (show w.heap.size≤w1.heap.size from HST.out.size);clear hb HST;refine ⟨_,rfl,?_⟩))
 go_upto_region 8 with (first|((with_reducible refine gate_callee (f:=7) rfl ?_);refine goesL_ (some 24) rfl rfl Try.func7 (by kernel_rfl) rfl #[.slice A0 l0.length c0] rfl (by (try simp only [mT,mC,mN]);first|done|rfl|(simp only [lD,lT];rfl)) ?_;(with_reducible refine (laws_toDependS.calls (hr0:=cB HR0.out HB1.out) (hc0:=HC0.out) (h:=N2.out)).mono ?_);rintro e w2 ⟨v0_,rfl,ho0,hb⟩;have HST:=qK (hb);have HB2:=qK (qT HB1.out HST.out);have HS2:=qK (show w1.heap.size≤w2.heap.size from HST.out.size);obtain ⟨Af1,cf1,ef1⟩:=Kd.S_slice ho0;subst ef1;have F1:=qK (show Kd.S k45 45 w2 w.heap.size (fun k_=>w1.heap.size≤k_∧k_ < w2.heap.size) (.slice Af1 (cvDependS l0).length cf1) (cvDependS l0) from Kd.S_lower (Kd.S_mono (Kd.S_bound ho0) (fun k_ hk_=>⟨hk_.2.1,hk_.2.2.1⟩)) (qZ HB1.out));clear hb HST ho0;clear HB1;refine ⟨_,rfl,?_⟩)|((with_reducible refine gate_callee (f:=8) rfl ?_);refine goesL_ (some 27) rfl rfl Try.func8 (by kernel_rfl) rfl #[.slice A2 l2.length c2] rfl (by (try simp only [mT,mC,mN]);first|done|rfl|(simp only [lD,lT];rfl)) ?_;(with_reducible refine (laws_toIntS.calls (hr0:=cB HR2.out HB2.out) (hc0:=HC2.out) (h:=N3.out)).mono ?_);rintro e w3 ⟨v0_,rfl,ho0,hb⟩;have HST:=qK (hb);have HB3:=qK (qT HB2.out HST.out);have HS3:=qK (show w2.heap.size≤w3.heap.size from HST.out.size);obtain ⟨Af2,cf2,ef2⟩:=Kd.R_slice ho0;subst ef2;have F2:=qK (show Kd.R (Kd.int .i64) 3 w3 w.heap.size (fun k_=>w2.heap.size≤k_∧k_ < w3.heap.size) (.slice Af2 l2.length cf2) l2 from Kd.R_lower (Kd.R_mono (Kd.R_bound ho0) (fun k_ hk_=>⟨hk_.2.1,hk_.2.2.1⟩)) (qZ HB2.out));have F1_:=qK (Kd.S_below F1.out HST.out);clear F1;have F1:=F1_;clear F1_;clear hb HST ho0;clear HB2;refine ⟨_,rfl,?_⟩)|((with_reducible refine gate_callee (f:=6) rfl ?_);refine goesL_ (some 28) rfl rfl Try.func6 (by kernel_rfl) rfl #[.slice Af1 (cvDependS l0).length cf1,.int .i64 a1,.slice Af2 l2.length cf2] rfl (by (try simp only [mT,mC,mN]);first|done|rfl|(simp only [lD,lT];rfl)) ?_;(with_reducible refine (spec_IsNormal.calls (hr0:=(Kd.S_reads' F1.out).2.2) (hc0:=(Kd.S_reads' F1.out).2.1) (hr2:=(Kd.R_reads' F2.out).2.2) (hc2:=(Kd.R_reads' F2.out).2.1) (h:=N4.out)).mono ?_);rintro e w4 ⟨rfl,hb⟩;have HST:=qK (hb);have HB4:=qK (qT HB3.out HST.out);have HS4:=qK (show w3.heap.size≤w4.heap.size from HST.out.size);clear F1;clear F2;clear hb HST;clear HB3;refine ⟨_,rfl,?_⟩))
 go_upto_region 9 with (first|((with_reducible refine gate_callee (f:=7) rfl ?_);refine goesL_ (some 32) rfl rfl Try.func7 (by kernel_rfl) rfl #[.slice A0 l0.length c0] rfl (by (try simp only [mT,mC,mN]);first|done|rfl|(simp only [lD,lT];rfl)) ?_;(with_reducible refine (laws_toDependS.calls (hr0:=cB HR0.out HB4.out) (hc0:=HC0.out) (h:=N5.out)).mono ?_);rintro e w5 ⟨v0_,rfl,ho0,hb⟩;have HST:=qK (hb);have HB5:=qK (qT HB4.out HST.out);have HS5:=qK (show w4.heap.size≤w5.heap.size from HST.out.size);obtain ⟨Af3,cf3,ef3⟩:=Kd.S_slice ho0;subst ef3;have F3:=qK (show Kd.S k45 45 w5 w.heap.size (fun k_=>w4.heap.size≤k_∧k_ < w5.heap.size) (.slice Af3 (cvDependS l0).length cf3) (cvDependS l0) from Kd.S_lower (Kd.S_mono (Kd.S_bound ho0) (fun k_ hk_=>⟨hk_.2.1,hk_.2.2.1⟩)) (qZ HB4.out));clear hb HST ho0;clear HB4;refine ⟨_,rfl,?_⟩))
 go_upto_region 10 with (first|((with_reducible refine gate_callee (f:=8) rfl ?_);refine goesL_ (some 34) rfl rfl Try.func8 (by kernel_rfl) rfl #[.slice A2 l2.length c2] rfl (by (try simp only [mT,mC,mN]);first|done|rfl|(simp only [lD,lT];rfl)) ?_;(with_reducible refine (laws_toIntS.calls (hr0:=cB HR2.out HB5.out) (hc0:=HC2.out) (h:=N6.out)).mono ?_);rintro e w6 ⟨v0_,rfl,ho0,hb⟩;have HST:=qK (hb);have HB6:=qK (qT HB5.out HST.out);have HS6:=qK (show w5.heap.size≤w6.heap.size from HST.out.size);obtain ⟨Af4,cf4,ef4⟩:=Kd.R_slice ho0;subst ef4;have F4:=qK (show Kd.R (Kd.int .i64) 3 w6 w.heap.size (fun k_=>w5.heap.size≤k_∧k_ < w6.heap.size) (.slice Af4 l2.length cf4) l2 from Kd.R_lower (Kd.R_mono (Kd.R_bound ho0) (fun k_ hk_=>⟨hk_.2.1,hk_.2.2.1⟩)) (qZ HB5.out));have F3_:=qK (Kd.S_below F3.out HST.out);clear F3;have F3:=F3_;clear F3_;clear hb HST ho0;clear HB5;refine ⟨_,rfl,?_⟩))
 go_upto_region 11 with (first|((with_reducible refine gate_callee (f:=9) rfl ?_);refine goesL_ (some 39) rfl rfl Try.func9 (by kernel_rfl) rfl #[.slice Af3 (cvDependS l0).length cf3,.int .i64 a1,.slice Af4 l2.length cf4] rfl (by (try simp only [mT,mC,mN]);first|done|rfl|(simp only [lD,lT];rfl)) ?_;(with_reducible refine (impl_IsNormal.calls (hr0:=(Kd.S_reads' F3.out).2.2) (hc0:=(Kd.S_reads' F3.out).2.1) (hr2:=(Kd.R_reads' F4.out).2.2) (hc2:=(Kd.R_reads' F4.out).2.1) (h:=N7.out)).mono ?_);rintro e w7 ⟨rfl,hb⟩;have HST:=qK (hb);have HB7:=qK (qT HB6.out HST.out);have HS7:=qK (show w6.heap.size≤w7.heap.size from HST.out.size);have F3_:=qK (Kd.S_below F3.out HST.out);clear F3;have F3:=F3_;clear F3_;have F4_:=qK (rB F4.out HST.out);clear F4;have F4:=F4_;clear F4_;clear hb HST;clear HB6;refine ⟨_,rfl,?_⟩))
 go_upto_region 15 with (first|((with_reducible refine gate_callee (f:=7) rfl ?_);refine goesL_ (some 52) rfl rfl Try.func7 (by kernel_rfl) rfl #[.slice A0 l0.length c0] rfl (by (try simp only [mT,mC,mN]);first|done|rfl|(simp only [lD,lT];rfl)) ?_;(with_reducible refine (laws_toDependS.calls (hr0:=cB HR0.out HB7.out) (hc0:=HC0.out) (h:=N8.out)).mono ?_);rintro e w8 ⟨v0_,rfl,ho0,hb⟩;have HST:=qK (hb);have HB8:=qK (qT HB7.out HST.out);have HS8:=qK (show w7.heap.size≤w8.heap.size from HST.out.size);obtain ⟨Af5,cf5,ef5⟩:=Kd.S_slice ho0;subst ef5;have F5:=qK (show Kd.S k45 45 w8 w.heap.size (fun k_=>w7.heap.size≤k_∧k_ < w8.heap.size) (.slice Af5 (cvDependS l0).length cf5) (cvDependS l0) from Kd.S_lower (Kd.S_mono (Kd.S_bound ho0) (fun k_ hk_=>⟨hk_.2.1,hk_.2.2.1⟩)) (qZ HB7.out));have F3_:=qK (Kd.S_below F3.out HST.out);clear F3;have F3:=F3_;clear F3_;have F4_:=qK (rB F4.out HST.out);clear F4;have F4:=F4_;clear F4_;clear hb HST ho0;clear HB7;refine ⟨_,rfl,?_⟩)|((with_reducible refine gate_callee (f:=10) rfl ?_);refine goesL_ (some 53) rfl rfl Try.func10 (by kernel_rfl) rfl #[.slice Af3 (cvDependS l0).length cf3,.slice Af5 (cvDependS l0).length cf5] rfl (by (try simp only [mT,mC,mN]);first|done|rfl|(simp only [lD,lT];rfl)) ?_;(with_reducible refine (laws_eqDependS.calls (hr0:=(Kd.S_reads' F3.out).2.2) (hc0:=(Kd.S_reads' F3.out).2.1) (hr1:=(Kd.S_reads' F5.out).2.2) (hc1:=(Kd.S_reads' F5.out).2.1) (h:=N9.out)).mono ?_);rintro e w9 ⟨rfl,hb⟩;have HST:=qK (hb);have HB9:=qK (qT HB8.out HST.out);have HS9:=qK (show w8.heap.size≤w9.heap.size from HST.out.size);clear F3;have F4_:=qK (rB F4.out HST.out);clear F4;have F4:=F4_;clear F4_;clear F5;clear hb HST;clear HB8;refine ⟨_,rfl,?_⟩))
 go_upto_region 17 with (first|((with_reducible refine gate_callee (f:=8) rfl ?_);refine goesL_ (some 57) rfl rfl Try.func8 (by kernel_rfl) rfl #[.slice A2 l2.length c2] rfl (by (try simp only [mT,mC,mN]);first|done|rfl|(simp only [lD,lT];rfl)) ?_;(with_reducible refine (laws_toIntS.calls (hr0:=cB HR2.out HB9.out) (hc0:=HC2.out) (h:=N10.out)).mono ?_);rintro e w10 ⟨v0_,rfl,ho0,hb⟩;have HST:=qK (hb);have HB10:=qK (qT HB9.out HST.out);have HS10:=qK (show w9.heap.size≤w10.heap.size from HST.out.size);obtain ⟨Af6,cf6,ef6⟩:=Kd.R_slice ho0;subst ef6;have F6:=qK (show Kd.R (Kd.int .i64) 3 w10 w.heap.size (fun k_=>w9.heap.size≤k_∧k_ < w10.heap.size) (.slice Af6 l2.length cf6) l2 from Kd.R_lower (Kd.R_mono (Kd.R_bound ho0) (fun k_ hk_=>⟨hk_.2.1,hk_.2.2.1⟩)) (qZ HB9.out));have F4_:=qK (rB F4.out HST.out);clear F4;have F4:=F4_;clear F4_;clear hb HST ho0;clear HB9;refine ⟨_,rfl,?_⟩)|((with_reducible refine gate_callee (f:=11) rfl ?_);refine goesL_ (some 58) rfl rfl Try.func11 (by kernel_rfl) rfl #[.slice Af4 l2.length cf4,.slice Af6 l2.length cf6] rfl (by (try simp only [mT,mC,mN]);first|done|rfl|(simp only [lD,lT];rfl)) ?_;(with_reducible refine (laws_eqIntS.calls (hr0:=(Kd.R_reads' F4.out).2.2) (hc0:=(Kd.R_reads' F4.out).2.1) (hr1:=(Kd.R_reads' F6.out).2.2) (hc1:=(Kd.R_reads' F6.out).2.1) (h:=N11.out)).mono ?_);rintro e w11 ⟨rfl,hdr⟩;have HST:=qK (hdr.below);have HB11:=qK (qT HB10.out HST.out);have HS11:=qK (show w10.heap.size≤w11.heap.size from HST.out.size);clear F4;clear F6;clear hdr HST;clear HB10;refine ⟨_,rfl,?_⟩))
 go_wp2
 go_ret
 exact ⟨rfl,HB11.out⟩

end Go.Proofs.Ytnkdpagkmljbnaa.PFnExactIsNormal
