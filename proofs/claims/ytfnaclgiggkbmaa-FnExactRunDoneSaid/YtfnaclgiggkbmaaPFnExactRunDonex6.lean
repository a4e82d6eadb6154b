/-
  A text of this claim's own, printed by a program of the session (wip/tools/xprint.py): functions of the program as Lean functions, each with what its call comes to.
-/
import Derived.Test.YtfnaclgiggkbmaaPFnExactRunDonex0
import Derived.Test.YtfnaclgiggkbmaaPFnExactRunDonex3
import Derived.Test.YtfnaclgiggkbmaaPFnExactRunDonex5
namespace Go.Proofs.Ytfnaclgiggkbmaa.PFnExactRunDone
open Go.Proofs.YtfnaclgiggkbmaaW.PrintWords renaming pw_below_drewN → qD, blk_cell → qC, below_drew1 → qO, below_alloc → qA, blk_frozen → qF, below_set → qS, blk_drewN → qN, blk_alloc → qL, blk_drew → qW, below_size → qZ, below_step → qT, blk_below → qB, blk_far → qR, blk_put → qP
open Go.Proofs.YtfnaclgiggkbmaaW.PrintWords.Aside0 renaming mk → qK
open Bool renaming true → Y, false → Z
open List renaming setIfInBounds_toArray → sIb, set_cons_zero → sZ, set_cons_succ → sS, map_toArray → mT, map_cons → mC, map_nil → mN, length_drop → lD, length_take → lT
open Go.Proofs.YtfnaclgiggkbmaaW.PrintWords.Kd renaming C_alloc → cL, C_drewN → cN, C_drew → cW, C_below → cB, R_alloc → rL, R_drewN → rN, R_drew → rW, R_below → rB
open Go.RowKit Go.Proofs.YtfnaclgiggkbmaaW.PrintWords Go.Proofs.YtfnaclgiggkbmaaW.PrintLast Go.Proofs.YtfnaclgiggkbmaaW.PrintMore
attribute [local go_sem] max2_int min2_int max_two min_two max_three min_three max_four min_four   -- for this text's walks alone
set_option linter.unusedVariables false
set_option linter.unusedSimpArgs false

/-! ### clone_Step: function 27 -/
def cloneSL_ren : Go.Shelf.Ren := ⟨fun | 41 => 27 | n => n, fun | 22 => 27 | 23 => 47 | 4 => 4 | n => n, fun | n => n⟩
theorem cloneSL : Go.Proofs.SlLaysE0.n41 Try.prog cloneSL_ren := {
  mixed := by kernel_rfl
  f41 := ⟨Try.f27.name, by decide, Try.func27.trans (congrArg some (by kernel_rfl))⟩
  t4 := Try.underlying4
  a4 := Try.isAgg4
  z4 := Try.sizeOf4
  v4 := Try.zeroValue4
  t22 := Try.underlying27
  a22 := Try.isAgg27
  z22 := Try.sizeOf27
  v22 := Try.zeroValue27 }
theorem flatStep {w W : World} {base : Nat} {ok : Nat → Prop} {x : S47} {cs : List Value} (h : Kd.K k47 w x cs) : Kd.M k47 W base ok x cs := by
  rw [k47_open h]
  exact k47_mkM W base ok x
def clone_Step.f (l0 : List S47) : Option (List S47) := if l0.length ≤ 1099511627776 then some l0 else none
set_option maxHeartbeats 1000000 in
set_option maxRecDepth 100000 in
/-- At no step at all: a row of none, nil or not. -/
theorem clone_Step.none (A : Option Addr) (c : Nat) (w : World) : Calls Try.prog 27 #[.slice A 0 c] w fun e w' => ∃ v0_ : Value, e = .returned (v0_) ∧ Kd.R k47 47 w' w.heap.size (fun _ => True) v0_ [] ∧ Below w.heap.size w w' := by
  cases A with
  | none =>
    refine (Go.Proofs.AnyE.slices_Clone_nil cloneSL 0 c w).mono ?_
    rintro e w' ⟨rfl, rfl⟩
    exact ⟨_, rfl, Kd.R_nil _ _ _ _ _, Below.refl _ _⟩
  | some ad =>
    obtain ⟨i0, hi0, hz0, hz1, hz2⟩ := info_parts info47
    go_enter Try.func27, Try.ntmps27
    have q22 := Lib.run_eql_slice_nil (P := Try.prog) w 27 47 (some ad) 0 c 0 0 Try.underlying27
    go_wp2_with (at_builtin; refine wpList_append_own _ rfl _ _ 27 rfl w.heap.size 47 i0 _ 3 24 Try.underlying27 hi0 hz0 hz1 hz2 rfl (by decide) _ _ _ rfl (World.ownsRow_made w #[] 0 (Nat.le_refl _) (Nat.zero_le _) (by simp)) ad 0 c [] rfl ?qc1 ?qc2 ?qc3 ?qc4 ?qc5 ?qc6 ?_)
    case qc1 => rfl
    case qc2 => intro j u hj; simp at hj
    case qc3 => intro u hu; cases hu
    case qc4 => simp [maxLen]
    case qc5 => simp
    case qc6 => simp
    intro v' w1 hown hgrow hnil
    go_wp2
    go_ret
    refine ⟨v', rfl, ⟨fun _ _ => trivial, [], by show w1.ownsRow w.heap.size 47 3 v' 0 []; simpa using hown, ⟨rfl, fun j p hj => by simp at hj⟩⟩, ?_⟩
    exact ((Below.refl _ w).alloc (Nat.le_refl _) _).grown hgrow (by simp) (by intro k hk; simp [Value.ownBlock] at hk; omega)
theorem clone_Step.calls (A0 : Option Addr) (c0 : Nat) (l0 : List S47) (r : List S47) (w : World) (hr0 : Kd.C k47 w A0 l0.length l0) (hc0 : l0.length ≤ c0) (h : clone_Step.f l0 = some r) :
    Calls Try.prog 27 #[.slice A0 l0.length c0] w fun e w' => ∃ v0_ : Value, e = .returned (v0_) ∧ Kd.R k47 47 w' w.heap.size (fun _ => True) v0_ r ∧ Below w.heap.size w w' := by
  unfold clone_Step.f at h
  by_cases hl : l0.length ≤ 1099511627776
  · rw [if_pos hl] at h
    obtain rfl := Option.some.inj h
    obtain ⟨i0, hi0, hz0, hz1, hz2⟩ := info_parts info47
    by_cases hp : 0 < l0.length
    · exact clone_R k47 (fun h => flatStep h) cloneSL i0 _ 24 hi0 hz0 hz1 hz2 rfl (by decide) (by decide) Try.sizeOf47 hr0 hp (by omega)
    · obtain rfl : l0 = [] := List.eq_nil_of_length_eq_zero (by omega)
      exact clone_Step.none A0 c0 w
  · rw [if_neg hl] at h
    cases h

/-! ### slices_Index_int_int: function 53 -/
def slices_Index_int_int.l0 : Nat→List Int→Int→Int→Int→Option (Int)
 | 0,_,_,_,_=>none
 | k + 1,x0,x1,x7,x8=>if x8 < x7 then (if 0≤x8 then (if x8 < (x0.length:Int) then (if x1=(rd x0 x8) then (some x8) else (slices_Index_int_int.l0 k x0 x1 x7 (wrap64 (x8 + 1)))) else (none)) else (none)) else (some (-1))
def slices_Index_int_int.f (k:Nat) (l0:List Int) (a1:Int):Option (Int):=slices_Index_int_int.l0 k l0 a1 (l0.length:Int) 0
theorem slices_Index_int_int.mono_l : ∀ k,(∀ y0 y1 y2 y3,LeO (slices_Index_int_int.l0 k y0 y1 y2 y3) (slices_Index_int_int.l0 (k + 1) y0 y1 y2 y3))
 | 0=>fun _ _ _ _ r h=>by simp [slices_Index_int_int.l0] at h
 | k + 1=>by
  have ih0:=slices_Index_int_int.mono_l k
  ·intro y0 y1 y2 y3;unfold slices_Index_int_int.l0
   repeat' first
   | (with_reducible exact ih0 _ _ _ _)
   | (with_reducible exact LeO.refl _)
   | (with_reducible exact LeO.none _)
   | (with_reducible refine LeO.ite ?_ ?_)
   | (with_reducible refine LeO.bind ?_ (fun _=>?_))
   | exact ih0 _ _ _ _
   | exact LeO.none _
   | refine LeO.ite ?_ ?_
   | refine LeO.bind ?_ (fun _=>?_)
theorem slices_Index_int_int.mono : ∀ a0 a1 k,LeO (slices_Index_int_int.f k a0 a1) (slices_Index_int_int.f (k + 1) a0 a1):=by
 intro a0 a1 k;have ih0:=slices_Index_int_int.mono_l k;unfold slices_Index_int_int.f
 repeat' first
   | (with_reducible exact ih0 _ _ _ _)
   | (with_reducible exact LeO.refl _)
   | (with_reducible exact LeO.none _)
   | (with_reducible refine LeO.ite ?_ ?_)
   | (with_reducible refine LeO.bind ?_ (fun _=>?_))
   | exact ih0 _ _ _ _
   | exact LeO.none _
   | refine LeO.ite ?_ ?_
   | refine LeO.bind ?_ (fun _=>?_)
set_option maxHeartbeats 8000000 in
set_option maxRecDepth 100000 in
theorem slices_Index_int_int.calls (k:Nat) (A0:Option Addr) (c0:Nat) (l0:List Int) (a1:Int) (r:Int) (w:World) (hr0:Kd.C (Kd.int .i64) w A0 l0.length l0) (hc0:l0.length≤c0) (h:slices_Index_int_int.f k l0 a1=some r) :
  Calls Try.prog 53 #[.slice A0 l0.length c0,.int .i64 a1] w fun e w'=>e=.returned (.int .i64 r)∧Drawn0 w w':=by
 have HR0:=qK hr0;have HC0:=qK hc0;clear hr0 hc0;have H:(slices_Index_int_int.l0 k l0 a1 (l0.length:Int) 0)=some r:=h;clear h;have H':=qK H;clear H;go_enter Try.func53,Try.ntmps53
 go_wp2
 go_loopg [8] k (fun kq v8 w'=>∃ (x8_1:Int),v8=.int .i64 x8_1∧Aside0 (slices_Index_int_int.l0 kq l0 a1 (l0.length:Int) x8_1=some r)∧Aside0 (kq≤k)∧Drawn0 w w')
 case atStart=>exact ⟨(0),(by first|rfl|(simp;done)|(simp [*];done)),H',⟨Nat.le_refl _⟩,by repeat (first|exact Drawn0.refl _|apply Drawn0.step)⟩
 case round =>
  clear H';try clear p2
  obtain ⟨x8_1,rfl,HA,HK1,⟨m1,rfl⟩⟩:=hrel;cases gk with
  | zero=>exact absurd HA.out (by simp [slices_Index_int_int.l0])
  | succ k1 =>
   have H:=HA.out;clear HA;simp only [slices_Index_int_int.l0] at H;by_cases c3:x8_1 < (l0.length:Int)
   ·rw [if_pos c3] at H;have c3b0:decide (x8_1 < (l0.length:Int))=true:=decide_eq_true c3;clear c3;by_cases c4:0≤x8_1
    ·rw [if_pos c4] at H;have c4b0:decide (0≤x8_1)=true:=decide_eq_true c4;clear c4;by_cases c5:x8_1 < (l0.length:Int)
     ·rw [if_pos c5] at H;have c5b0:decide (x8_1 < (l0.length:Int))=true:=decide_eq_true c5;clear c5;by_cases c6:a1=(rd l0 x8_1)
      ·rw [if_pos c6] at H;have c6b0:(a1 == (rd l0 x8_1))=true:=beq_iff_eq.mpr c6;have c6b1:(a1 != (rd l0 x8_1))=false:=bne_eq_false_iff_eq.mpr c6;clear c6;obtain rfl:=Option.some.inj H;have p281:0≤(x8_1:Int):=of_decide_eq_true (by first|(with_reducible assumption)|assumption);have q281:x8_1 < (l0.length:Int):=of_decide_eq_true (by first|(with_reducible assumption)|assumption);obtain ⟨ad281,e281,hx281_0⟩:=Kd.at_int HR0.out x8_1 p281 q281;cases e281
       replace p281:=eq_true p281;replace q281:=eq_true q281;go_wp2
       go_ret
       exact ⟨by first|rfl|(simp;done)|(simp [*];done),by repeat (first|exact Drawn0.refl _|apply Drawn0.step)⟩
      ·rw [if_neg c6] at H;have c6b0:(a1 == (rd l0 x8_1))=false:=beq_eq_false_iff_ne.mpr c6;have c6b1:(a1 != (rd l0 x8_1))=true:=bne_iff_ne.mpr c6;have H':=qK H;clear H;have p281:0≤(x8_1:Int):=of_decide_eq_true (by first|(with_reducible assumption)|assumption);have q281:x8_1 < (l0.length:Int):=of_decide_eq_true (by first|(with_reducible assumption)|assumption);obtain ⟨ad281,e281,hx281_0⟩:=Kd.at_int HR0.out x8_1 p281 q281;cases e281
       replace p281:=eq_true p281;replace q281:=eq_true q281;go_wp2
       go_roundg k1
       case measure=>have:=HK1.out;omega
       case rel=>exact ⟨(wrap64 (x8_1 + 1)),(by first|rfl|(simp;done)|(simp [*];done)),H',⟨by have:=HK1.out;omega⟩,by repeat (first|exact Drawn0.refl _|apply Drawn0.step)⟩
     ·rw [if_neg c5] at H;exact absurd H (by simp)
    ·rw [if_neg c4] at H;exact absurd H (by simp)
   ·rw [if_neg c3] at H;have c3b0:decide (x8_1 < (l0.length:Int))=false:=decide_eq_false c3;clear c3;obtain rfl:=Option.some.inj H;go_wp2
    go_ret
    exact ⟨by first|rfl|(simp;done)|(simp [*];done),by repeat (first|exact Drawn0.refl _|apply Drawn0.step)⟩

/-! ### slices_Contains_int_int: function 29 -/
def slices_Contains_int_int.f (k:Nat) (l0:List Int) (a1:Int):Option (Bool):=(slices_Index_int_int.f k l0 a1).bind fun t282=>(some (decide (t282 ≥ 0)))
theorem slices_Contains_int_int.mono : ∀ a0 a1 k,LeO (slices_Contains_int_int.f k a0 a1) (slices_Contains_int_int.f (k + 1) a0 a1):=by
 intro a0 a1 k;unfold slices_Contains_int_int.f
 repeat' first
   | (with_reducible exact slices_Index_int_int.mono _ _ _)
   | (with_reducible exact LeO.refl _)
   | (with_reducible exact LeO.none _)
   | (with_reducible refine LeO.ite ?_ ?_)
   | (with_reducible refine LeO.bind ?_ (fun _=>?_))
   | exact slices_Index_int_int.mono _ _ _
   | exact LeO.none _
   | refine LeO.ite ?_ ?_
   | refine LeO.bind ?_ (fun _=>?_)
set_option maxHeartbeats 8000000 in
set_option maxRecDepth 100000 in
theorem slices_Contains_int_int.calls (k:Nat) (A0:Option Addr) (c0:Nat) (l0:List Int) (a1:Int) (r:Bool) (w:World) (hr0:Kd.C (Kd.int .i64) w A0 l0.length l0) (hc0:l0.length≤c0) (h:slices_Contains_int_int.f k l0 a1=some r) :
  Calls Try.prog 29 #[.slice A0 l0.length c0,.int .i64 a1] w fun e w'=>e=.returned (.bool r)∧Drawn0 w w':=by
 have HR0:=qK hr0;have HC0:=qK hc0;clear hr0 hc0;have H:((slices_Index_int_int.f k l0 a1).bind fun t282=>(some (decide (t282 ≥ 0))))=some r:=h;clear h;replace H:=Option.bind_eq_some_iff.mp H;obtain ⟨t282,A30,H⟩:=H;replace H:(some (decide (t282 ≥ 0)))=some r:=H;have A3:=qK A30;clear A30;obtain rfl:=Option.some.inj H;go_enter Try.func29,Try.ntmps29
 go_wp2_with (first|((with_reducible refine gate_callee (f:=53) rfl ?_);refine goesL_ (some 7) rfl rfl Try.func53 (by kernel_rfl) rfl #[.slice A0 l0.length c0,.int .i64 a1] rfl (by (try simp only [mT,mC,mN]);first|done|rfl|(simp only [lD,lT];rfl)) ?_;(with_reducible refine (slices_Index_int_int.calls k _ _ l0 a1 t282 _ ?side1 ?side2 A3.out).mono ?_);(case side1=>repeat (first|exact HR0.out|(with_reducible first|refine cL ?_ _|refine cN ?_ _|refine cW ?_)));(case side2=>exact HC0.out);rintro e w' ⟨rfl,⟨nd,rfl⟩⟩;refine ⟨_,rfl,?_⟩))
 go_ret
 exact ⟨by first|rfl|(simp;done)|(simp [*];done),by repeat (first|exact Drawn0.refl _|apply Drawn0.step)⟩

/-! ### impl_RunDone_1: function 28 -/
def impl_RunDone_1.f (k:Nat) (a0_0:Int) (a0_1:Int) (a0_2:Int) (l90_0:List (S47)) (l90_1:List (S47)) (l90_2:List (S47)) (l90_3:List Int) (l90_4:List Int):Option (Bool):=(slices_Contains_int_int.f k l90_3 a0_0).bind fun t285=>(some (!t285))
theorem impl_RunDone_1.mono : ∀ a0 a1 a2 a3 a4 a5 a6 a7 k,LeO (impl_RunDone_1.f k a0 a1 a2 a3 a4 a5 a6 a7) (impl_RunDone_1.f (k + 1) a0 a1 a2 a3 a4 a5 a6 a7):=by
 intro a0 a1 a2 a3 a4 a5 a6 a7 k;unfold impl_RunDone_1.f
 repeat' first
   | (with_reducible exact slices_Contains_int_int.mono _ _ _)
   | (with_reducible exact LeO.refl _)
   | (with_reducible exact LeO.none _)
   | (with_reducible refine LeO.ite ?_ ?_)
   | (with_reducible refine LeO.bind ?_ (fun _=>?_))
   | exact slices_Contains_int_int.mono _ _ _
   | exact LeO.none _
   | refine LeO.ite ?_ ?_
   | refine LeO.bind ?_ (fun _=>?_)
set_option maxHeartbeats 8000000 in
set_option maxRecDepth 100000 in
theorem impl_RunDone_1.calls (k:Nat) (a0_0:Int) (a0_1:Int) (a0_2:Int) (B0:Nat) (A90_0:Option Addr) (c90_0:Nat) (l90_0:List (S47)) (A90_1:Option Addr) (c90_1:Nat) (l90_1:List (S47)) (A90_2:Option Addr) (c90_2:Nat) (l90_2:List (S47)) (A90_3:Option Addr) (c90_3:Nat) (l90_3:List Int) (A90_4:Option Addr) (c90_4:Nat) (l90_4:List Int) (r:Bool) (w:World) (hr90_0:Kd.C k47 w A90_0 l90_0.length l90_0) (hc90_0:l90_0.length≤c90_0) (hr90_1:Kd.C k47 w A90_1 l90_1.length l90_1) (hc90_1:l90_1.length≤c90_1) (hr90_2:Kd.C k47 w A90_2 l90_2.length l90_2) (hc90_2:l90_2.length≤c90_2) (hr90_3:Kd.C (Kd.int .i64) w A90_3 l90_3.length l90_3) (hc90_3:l90_3.length≤c90_3) (hr90_4:Kd.C (Kd.int .i64) w A90_4 l90_4.length l90_4) (hc90_4:l90_4.length≤c90_4) (hq0:w.heap[B0]?=some (.cells #[.slice A90_0 l90_0.length c90_0,.slice A90_1 l90_1.length c90_1,.slice A90_2 l90_2.length c90_2,.slice A90_3 l90_3.length c90_3,.slice A90_4 l90_4.length c90_4] 31 (0,0))) (h:impl_RunDone_1.f k a0_0 a0_1 a0_2 l90_0 l90_1 l90_2 l90_3 l90_4=some r) :
  Calls Try.prog 28 #[.agg #[.int .i64 a0_0,.int .i64 a0_1,.int .i64 a0_2],.pointer (some ⟨B0,0,none⟩)] w fun e w'=>e=.returned (.bool r)∧Below w.heap.size w w':=by
 have hu47:=Try.underlying47;have HR90_0:=qK hr90_0;have HC90_0:=qK hc90_0;clear hr90_0 hc90_0;have HR90_1:=qK hr90_1;have HC90_1:=qK hc90_1;clear hr90_1 hc90_1;have HR90_2:=qK hr90_2;have HC90_2:=qK hc90_2;clear hr90_2 hc90_2;have HR90_3:=qK hr90_3;have HC90_3:=qK hc90_3;clear hr90_3 hc90_3;have HR90_4:=qK hr90_4;have HC90_4:=qK hc90_4;clear hr90_4 hc90_4;have BK283:=qK hq0;clear hq0;have HB:=qK (Below.refl w.heap.size w);have H:((slices_Contains_int_int.f k l90_3 a0_0).bind fun t285=>(some (!t285)))=some r:=h;clear h;replace H:=Option.bind_eq_some_iff.mp H;obtain ⟨t285,A20,H⟩:=H;replace H:(some (!t285))=some r:=H;have A2:=qK A20;clear A20;obtain rfl:=Option.some.inj H;go_enter Try.func28,Try.ntmps28
 go_wp2_with (first|((with_reducible refine gate_dst (N:=2) rfl ?_);refine box_event ?hg (N:=2) ?hd (cs:=#[.int .i64 a0_0,.int .i64 a0_1,.int .i64 a0_2]) (t:=47) ?hr ?_;(case hd=>rfl);(case hg=>rfl);(case hr=>(go_simp;try rfl));intro gb284 hg w3 hbox hb;have n0_:=qK (qB (g:=B0) (o:=_) (by (with_reducible repeat (first|refine qN ?_ _|refine qW ?_|refine qL ?_ _));exact BK283.out) hb);have n1_:=qK (qT (by repeat (with_reducible first|exact HB.out|apply qA|apply qD|apply qO|refine qS ?_ GE283.out)) hb);have n2_:=qK (hbox);have n3_:=qK ((by rw [hg];exact (qZ (by repeat (with_reducible first|exact HB.out|apply qA|apply qD|apply qO|refine qS ?_ GE283.out))):w.heap.size≤gb284));have n4_:=qK ((by rw [hg];exact (qZ (by repeat (with_reducible first|exact HB.out|apply qA|apply qD|apply qO|refine qS ?_ GE283.out))):w.heap.size≤gb284));have n5_:=qK ((by rw [hg];exact Nat.ne_of_lt (blk_lt (g:=B0) (o:=_) (by (with_reducible repeat (first|refine qN ?_ _|refine qW ?_|refine qL ?_ _));exact BK283.out)):B0 ≠ gb284));have n6_:=qK ((by rw [hg];exact Nat.ne_of_gt (blk_lt (g:=B0) (o:=_) (by (with_reducible repeat (first|refine qN ?_ _|refine qW ?_|refine qL ?_ _));exact BK283.out)):gb284 ≠ B0));clear BK283;clear HB;have BK283:=n0_;have HB:=n1_;have BK284:=n2_;have GW284:=n3_;have GE284:=n4_;have NB283_284:=n5_;have NB284_283:=n6_;clear n0_ n1_ n2_ n3_ n4_ n5_ n6_;clear hb hbox hg;have hnb4:=NB283_284.out;have hnc4:=NB284_283.out;have hcz5_0:w3.cell? ⟨B0,0,none⟩=some (.slice A90_0 l90_0.length c90_0):=(qC BK283.out 0).trans rfl;have hcz5_1:w3.cell? ⟨B0,1,none⟩=some (.slice A90_1 l90_1.length c90_1):=(qC BK283.out 1).trans rfl;have hcz5_2:w3.cell? ⟨B0,2,none⟩=some (.slice A90_2 l90_2.length c90_2):=(qC BK283.out 2).trans rfl;have hcz5_3:w3.cell? ⟨B0,3,none⟩=some (.slice A90_3 l90_3.length c90_3):=(qC BK283.out 3).trans rfl;have hcz5_4:w3.cell? ⟨B0,4,none⟩=some (.slice A90_4 l90_4.length c90_4):=(qC BK283.out 4).trans rfl;have hfz5_0:=qF BK283.out 0;have hfz5_1:=qF BK283.out 1;have hfz5_2:=qF BK283.out 2;have hfz5_3:=qF BK283.out 3;have hfz5_4:=qF BK283.out 4;have hcz6_0:w3.cell? ⟨gb284,0,none⟩=some (.int .i64 a0_0):=(qC BK284.out 0).trans rfl;have hcz6_1:w3.cell? ⟨gb284,1,none⟩=some (.int .i64 a0_1):=(qC BK284.out 1).trans rfl;have hcz6_2:w3.cell? ⟨gb284,2,none⟩=some (.int .i64 a0_2):=(qC BK284.out 2).trans rfl;have hfz6_0:=qF BK284.out 0;have hfz6_1:=qF BK284.out 1;have hfz6_2:=qF BK284.out 2)|((with_reducible refine gate_callee (f:=29) rfl ?_);refine goesL_ (some 8) rfl rfl Try.func29 (by kernel_rfl) rfl #[.slice A90_3 l90_3.length c90_3,.int .i64 a0_0] rfl (by (try simp only [mT,mC,mN]);first|done|rfl|(simp only [lD,lT];rfl)) ?_;(with_reducible refine (slices_Contains_int_int.calls k _ _ l90_3 a0_0 t285 _ ?side1 ?side2 A2.out).mono ?_);(case side1=>repeat (first|exact (cB HR90_3.out HB.out)|(with_reducible first|refine cL ?_ _|refine cN ?_ _|refine cW ?_)));(case side2=>exact HC90_3.out);rintro e w' ⟨rfl,⟨nd,rfl⟩⟩;refine ⟨_,rfl,?_⟩))
 go_ret
 exact ⟨by first|rfl|(simp [errW_none,errW_some] <;> rfl)|(simp [*,errW_none,errW_some] <;> rfl),by repeat (first|(with_reducible first|exact HB.out|apply qA|apply qD|apply qO|refine qS ?_ GE283.out|refine qS ?_ GE284.out)|exact HB.out)⟩

/-! ### slices.DeleteFunc at steps: function 26 -/
/-- The end of a row of steps is cut. -/
theorem delf_Step.raw (g : Nat) (lb : Array Value) (eg : ∀ args w, (callFunc g args).run Try.prog w = .ok (.enter g args) w) (p : S47 → Bool) (P0_ : Nat → Prop) (A : Option Addr) (cap : Nat) (l0 : List S47) (w0 w : World) (hB : Below w0.heap.size w0 w)
    (ho0 : Kd.R k47 47 w w0.heap.size P0_ (.slice A l0.length cap) l0)
    (hp : ∀ W x v, x ∈ l0 → Below w0.heap.size w0 W → Kept w W (fun k_ => P0_ k_) → Agg k47 W x v → Calls Try.prog g (#[v] ++ lb) W fun e W' => e = .returned (.bool (p x)) ∧ Below W.heap.size W W') :
    Calls Try.prog 26 #[.slice A l0.length cap, .func (.func g) #[] lb] w fun e w' => ∃ v0_ : Value, e = .returned (v0_) ∧ Kd.R k47 47 w' w0.heap.size (fun k_ => (P0_ k_ ∨ w.heap.size ≤ k_)) v0_ (l0.filter fun x => !p x) ∧ Below w0.heap.size w0 w' ∧ Kept w w' (fun k_ => P0_ k_) := by
  have hu47 := Try.underlying47
  have hix := idxf_Step.calls A cap l0 g lb p w eg (Kd.R_reads' ho0).2.2 (fun W x v hx hW hv => hp W x v hx (below_step hB hW) (Kept.below (Kept.refl w (fun k_ => P0_ k_)) hW) hv)
  by_cases hall : ∀ x ∈ l0, p x = false
  · rw [idxf_miss (fun j hj => hall _ (List.getElem_mem hj))] at hix
    have HI := Aside0.mk hix
    have HO := Aside0.mk ho0
    have HB := Aside0.mk hB
    clear hix ho0 hB hp
    go_enter Try.func26, Try.ntmps26
    go_wp2_with (go_at_call 52; refine HI.out.mono ?_; rintro e w' ⟨rfl, hb'⟩)
    go_ret
    refine ⟨_, rfl, ?_, below_step HB.out hb', Kept.below (Kept.refl w (fun k_ => P0_ k_)) hb'⟩
    rw [List.filter_eq_self.2 (fun x hx => by rw [hall x hx]; rfl)]
    exact Kd.R_mono (Kd.R_below HO.out hb') (fun k_ hk => .inl hk)
  · obtain ⟨i, hi, hpi, hlo⟩ : ∃ i, ∃ hi : i < l0.length, p l0[i] = true ∧ ∀ j, (hj : j < i) → p (l0[j]'(by omega)) = false := by
      cases hf : l0.findIdx? p with
      | none =>
        rw [List.findIdx?_eq_none_iff] at hf
        exact absurd (fun x hx => by simpa using hf x hx) hall
      | some i =>
        obtain ⟨hi, h1, h2⟩ := List.findIdx?_eq_some_iff_getElem.1 hf
        exact ⟨i, hi, h1, fun j hj => by simpa using h2 j hj⟩
    rw [idxf_hit hi hpi (fun j hj => hlo j hj)] at hix
    obtain ⟨b, cap', e, hbase, hblt, _⟩ := Kd.R_form ho0 (by omega)
    cases e
    have hP : P0_ b := ho0.1 b rfl
    have hcap : l0.length ≤ cap := (Kd.R_reads' ho0).2.1
    have hmax : l0.length ≤ 9223372036854775807 := (Kd.R_reads' ho0).2.2.2.1
    obtain ⟨i0, hi0, _, hsz0, _⟩ := info_parts info47
    have HS := Aside0.mk hbase
    have HI := Aside0.mk hix
    have HO := Aside0.mk (Kd.R_mono ho0 (fun k_ hk => (.inl hk : P0_ k_ ∨ w.heap.size ≤ k_)))
    have HB := Aside0.mk hB
    have HP := Aside0.mk hp
    have HF := Aside0.mk hi0
    have HZ := Aside0.mk hsz0
    have HPB := Aside0.mk hP
    have hstart : (l0.take (i + 1)).filter (fun x => !p x) = l0.take i := by
      rw [List.take_succ_eq_append_getElem hi, List.filter_append, List.filter_eq_self.2 (fun x hx => ?_)]
      · simp [hpi]
      · obtain ⟨j, hj, rfl⟩ := List.getElem_of_mem hx
        rw [List.getElem_take, hlo j (by simp at hj; omega)]; rfl
    have HST := Aside0.mk hstart
    have hne : ((i : Int) == -1) = false := by rw [beq_eq_false_iff_ne]; omega
    clear hix ho0 hB hp hi0 hsz0 hP hall hpi hlo hblt hstart hbase
    go_enter Try.func26, Try.ntmps26
    go_wp2_with (go_at_call 52; refine HI.out.mono ?_; rintro e w1 ⟨rfl, hb1⟩)
    have HB1 := Aside0.mk (below_step HB.out hb1)
    have HK1 := Aside0.mk (Kept.below (Kept.refl w (fun k_ => P0_ k_)) hb1)
    have HO1 := Aside0.mk (Kd.R_below HO.out hb1)
    clear hb1 HO HI HB
    go_loopg [5, 6] l0.length (fun gg v5 v6 wr => ∃ (ys : List S47) (x5 x6 : Int), v5 = .int .i64 x5 ∧ v6 = .int .i64 x6 ∧ 0 ≤ x5 ∧ x5 < x6 ∧ x6 ≤ l0.length ∧ l0.length - x6.toNat ≤ gg ∧ Aside0 (ys.drop x6.toNat = l0.drop x6.toNat) ∧ Aside0 (ys.take x5.toNat = (l0.take x6.toNat).filter fun x => !p x) ∧ Aside0 (Kd.R k47 47 wr w0.heap.size (fun k_ => (P0_ k_ ∨ w.heap.size ≤ k_)) (.slice (some ⟨b, 0, none⟩) l0.length cap) ys) ∧ Aside0 (Kept w wr (fun k_ => P0_ k_)) ∧ Aside0 (Below w0.heap.size w0 wr))
    case atStart =>
      have hw : ((i : Int) + 1).toNat = i + 1 := by omega
      exact ⟨l0, i, (i : Int) + 1, rfl, rfl, by omega, by omega, by omega, by omega, ⟨rfl⟩, ⟨by rw [hw, Int.toNat_natCast]; exact HST.out.symm⟩, HO1, HK1, HB1⟩
    case round =>
      clear HO1 HK1 HB1 HST
      obtain ⟨ys, x5, x6, rfl, rfl, h05, h56, h6n, hg, HD, HT, HO, HK, HB⟩ := hrel
      have hyl : l0.length = ys.length := (Kd.R_reads' HO.out).1
      by_cases hlt : x6 < (l0.length : Int)
      · have hw : wrap64 (x6 + 1) = x6 + 1 := by unfold wrap64; omega
        have hw5 : wrap64 (x5 + 1) = x5 + 1 := by unfold wrap64; omega
        have hn6 : x6.toNat < ys.length := by omega
        have hn6' : x6.toNat < l0.length := by omega
        obtain ⟨ad, ead, h0, h1, h2⟩ := at_T47 (Kd.R_reads' HO.out).2.2 x6 (by omega) (by omega)
        cases ead
        simp only [add_plain] at h0 h1 h2
        obtain ⟨a, ha⟩ : ∃ a, a = rd_T47 ys x6 := ⟨_, rfl⟩
        rw [← ha] at h0 h1 h2
        have hal : a = l0[x6.toNat] := by
          have e1 : (ys.drop x6.toNat)[0]? = (l0.drop x6.toNat)[0]? := by rw [HD.out]
          simp only [List.getElem?_drop, Nat.add_zero, List.getElem?_eq_getElem hn6, List.getElem?_eq_getElem hn6', Option.some.injEq] at e1
          rw [ha, ← e1]
          simp [rd_T47, hn6]
        have HA := Aside0.mk hal
        have hcall := HP.out (wr.alloc (.cells #[.int .i64 a.f0, .int .i64 a.f1, .int .i64 a.f2] 47)) a (.agg #[.int .i64 a.f0, .int .i64 a.f1, .int .i64 a.f2]) (by rw [hal]; exact List.getElem_mem hn6') (below_alloc HB.out _) (Kept.alloc HK.out _) ⟨_, rfl, k47_mk _ a⟩
        have HD1 : Aside0 (ys.drop (x6 + 1).toNat = l0.drop (x6 + 1).toNat) := ⟨by
          have e1 := congrArg (List.drop 1) HD.out
          rw [List.drop_drop, List.drop_drop] at e1
          rw [show (x6 + 1).toNat = x6.toNat + 1 by omega]
          exact e1⟩
        have hft : (l0.take (x6 + 1).toNat).filter (fun x => !p x) = (l0.take x6.toNat).filter (fun x => !p x) ++ [a].filter (fun x => !p x) := by
          rw [show (x6 + 1).toNat = x6.toNat + 1 by omega, List.take_succ_eq_append_getElem hn6', List.filter_append, hal]
        have HFT := Aside0.mk hft
        have HYL := Aside0.mk hyl
        clear ha hal hft hyl
        have HO' := Aside0.mk (Kd.R_alloc HO.out (.cells #[.int .i64 a.f0, .int .i64 a.f1, .int .i64 a.f2] 47))
        have HK' := Aside0.mk (Kept.alloc HK.out (.cells #[.int .i64 a.f0, .int .i64 a.f1, .int .i64 a.f2] 47))
        have HB' := Aside0.mk (below_alloc HB.out (.cells #[.int .i64 a.f0, .int .i64 a.f1, .int .i64 a.f2] 47))
        have HX := Aside0.mk (blk_new wr (.cells #[.int .i64 a.f0, .int .i64 a.f1, .int .i64 a.f2] 47))
        cases hq : p a with
        | true =>
          rw [hq] at hcall
          have HQ := Aside0.mk hq
          clear hq
          go_wp2_with (go_at_fn g; refine hcall.mono ?_; rintro e w' ⟨rfl, hb'⟩)
          go_roundg (l0.length - (x6 + 1).toNat)
          case measure => omega
          case rel =>
            refine ⟨ys, x5, x6 + 1, rfl, rfl, h05, by omega, by omega, by omega, HD1, ?_, ⟨Kd.R_below HO'.out hb'⟩, ⟨Kept.below HK'.out hb'⟩, ⟨below_step HB'.out hb'⟩⟩
            exact ⟨by rw [HFT.out, HT.out]; simp [HQ.out]⟩
        | false =>
          rw [hq] at hcall
          have HQ := Aside0.mk hq
          clear hq
          have h5n : x5 < (l0.length : Int) := by omega
          go_wp2_with (first | (go_at_fn g; refine hcall.mono ?_; rintro e w2 ⟨rfl, hb'⟩; have HO2 := Aside0.mk (Kd.R_below HO'.out hb'); have HK2 := Aside0.mk (Kept.below HK'.out hb'); have HB2 := Aside0.mk (below_step HB'.out hb'); have HX2 := Aside0.mk (blk_below HX.out hb'); obtain ⟨ce, hcl, hM, hcc, hfr⟩ := Kd.R_elem HO2.out z47 x5 h05 h5n; obtain rfl := k47_openM hM; have g0 : w2.cell? ⟨b, x5.toNat * 3, none⟩ = some (.int .i64 (ys.getD x5.toNat z47).f0) := hcc 0 _ rfl; have g1 : w2.cell? ⟨b, x5.toNat * 3 + 1, none⟩ = some (.int .i64 (ys.getD x5.toNat z47).f1) := hcc 1 _ rfl; have g2 : w2.cell? ⟨b, x5.toNat * 3 + 2, none⟩ = some (.int .i64 (ys.getD x5.toNat z47).f2) := hcc 2 _ rfl; have f0 : w2.frozen? ⟨b, x5.toNat * 3, none⟩ = false := hfr 0; have f1 : w2.frozen? ⟨b, x5.toNat * 3 + 1, none⟩ = false := hfr 1; have f2 : w2.frozen? ⟨b, x5.toNat * 3 + 2, none⟩ = false := hfr 2; have HS2 := Aside0.mk (Kd.R_seg HO2.out x5 h05 h5n (seg := [.int .i64 a.f0, .int .i64 a.f1, .int .i64 a.f2]) (j := 0) hcl hcc (show 3 ≤ 3 from by decide) (x' := a) (k47_mkM _ _ _ a) (fun _ hk => hk)); have k0 : w2.cell? ⟨wr.heap.size, 0, none⟩ = some (.int .i64 a.f0) := (blk_cell HX2.out 0).trans rfl; have k1 : w2.cell? ⟨wr.heap.size, 1, none⟩ = some (.int .i64 a.f1) := (blk_cell HX2.out 1).trans rfl; have k2 : w2.cell? ⟨wr.heap.size, 2, none⟩ = some (.int .i64 a.f2) := (blk_cell HX2.out 2).trans rfl; clear hcl hcc hfr hM hb') | ((with_reducible refine gate_store (t := 47) (p := 33) rfl ?_); refine store_event (t := 47) (p := 33) (v := ?vo) (w1 := (((w2.setCell ⟨b, x5.toNat * 3, none⟩ (.int .i64 a.f0)).setCell ⟨b, x5.toNat * 3 + 1, none⟩ (.int .i64 a.f1)).setCell ⟨b, x5.toNat * 3 + 2, none⟩ (.int .i64 a.f2))) ?hg ?ho ?hn ?hr ?_; (case ho => rfl); (case hg => rfl); (case hn => rfl); (case hr => first | (go_simp; done) | (go_simp; rfl)); intro w3 hw3; have HO3 : Aside0 (Kd.R k47 47 w3 w0.heap.size (fun k_ => (P0_ k_ ∨ w.heap.size ≤ k_)) (.slice (some ⟨b, 0, none⟩) l0.length cap) (ys.set x5.toNat a)) := ⟨by rw [hw3]; exact HS2.out.1⟩; have HG3 : Aside0 (w2.grownBy w3 (some b)) := ⟨by rw [hw3]; exact HS2.out.2⟩; clear hw3))
          go_roundg (l0.length - (x6 + 1).toNat)
          case measure => omega
          case rel =>
            have hyl := HYL.out
            refine ⟨ys.set x5.toNat a, x5 + 1, x6 + 1, rfl, rfl, by omega, by omega, by omega, by omega, ⟨?_⟩, ⟨?_⟩, HO3, ⟨Kept.of_grown HG3.out HK2.out (fun k_ e_ => .inl (by cases e_; exact HPB.out))⟩, ⟨HB2.out.grown HG3.out HB2.out.size (fun k_ e_ => by cases e_; exact HS.out)⟩⟩
            · rw [List.drop_set_of_lt (by omega)]; exact HD1.out
            · rw [HFT.out, ← HT.out, show (x5 + 1).toNat = x5.toNat + 1 by omega, List.take_succ_eq_append_getElem (by simp; omega), List.take_set_of_le (Nat.le_refl _), List.getElem_set_self]
              simp [HQ.out]
      · have h5n : x5.toNat < l0.length := by omega
        have hcut : ∀ W, (Instr.slice 27 (.slice (some ⟨b, 0, none⟩) l0.length cap) (some (.int .i64 x5)) none none).run Try.prog W = .ok (.slice (some ⟨b, x5.toNat * 3, none⟩) (l0.length - x5.toNat) (cap - x5.toNat)) W := by
          intro W
          rw [cut_from (P := Try.prog) 27 47 .i64 Try.underlying27 HF.out 3 HZ.out (some ⟨b, 0, none⟩) l0.length cap x5 h05 (by omega) W, if_neg (by omega)]
          simp [Addr.add]
          try omega
        have hcut2 := cut_to (P := Try.prog) 27 47 .i64 Try.underlying27 HF.out (some ⟨b, 0, none⟩) l0.length cap x5 h05 (by omega) hcap
        obtain ⟨w2, hrun, hR2, hg2⟩ := clear_R (P := Try.prog) (d := k47) (t := 27) (e := 47) (ty := 0) Try.underlying27 Try.zeroValue47 rfl (by intro u hu; simp [Value.cells] at hu; rcases hu with rfl | rfl | rfl <;> rfl) (by decide) (fun h => by rw [k47_openM h]; exact k47_mkM _ _ _ _) HO.out (i := x5.toNat) h5n hyl
        have hrun2 : (Builtin.clear_ #[27] 0 #[.slice (some ⟨b, x5.toNat * 3, none⟩) (l0.length - x5.toNat) (cap - x5.toNat)]).run Try.prog wr = .ok (.tuple #[]) w2 := hrun
        have HR2 := Aside0.mk hR2
        have HG2 := Aside0.mk hg2
        have HLT := Aside0.mk (show x6.toNat = l0.length by omega)
        clear hrun hR2 hg2 hyl
        go_wp2
        go_ret
        refine ⟨_, rfl, ?_, HB.out.grown HG2.out HB.out.size (fun k_ e_ => by cases e_; exact HS.out), Kept.of_grown HG2.out HK.out (fun k_ e_ => .inl (by cases e_; exact HPB.out))⟩
        have := HR2.out
        rw [HT.out, HLT.out, List.take_length] at this
        exact this
def delf_Step.f (k : Nat) (l0 : List S47) (l1 : List Int) : Option (List S47) := if (l0.all fun x => slices_Contains_int_int.f k l1 x.f0 == some (l1.contains x.f0)) = true then some (l0.filter fun x => l1.contains x.f0) else none
theorem delf_Step.mono : ∀ a0 a1 k, LeO (delf_Step.f k a0 a1) (delf_Step.f (k + 1) a0 a1) := by
  intro a0 a1 k r h
  unfold delf_Step.f at h ⊢
  by_cases g : (a0.all fun x => slices_Contains_int_int.f k a1 x.f0 == some (a1.contains x.f0)) = true
  · rw [if_pos g] at h
    rw [if_pos (by
      rw [List.all_eq_true] at g ⊢
      intro x hx
      have := g x hx
      rw [beq_iff_eq] at this ⊢
      exact slices_Contains_int_int.mono _ _ _ _ this)]
    exact h
  · rw [if_neg g] at h
    cases h
theorem delf_Step.calls (k : Nat) (P0_ : Nat → Prop) (u : Value) (l0 : List S47) (B : Nat) (A0 : Option Addr) (c0 : Nat) (x0 : List S47) (A1 : Option Addr) (c1 : Nat) (x1 : List S47) (A2 : Option Addr) (c2 : Nat) (x2 : List S47) (A3 : Option Addr) (c3 : Nat) (x3 : List Int) (A4 : Option Addr) (c4 : Nat) (x4 : List Int) (r : List S47) (w0 w : World) (hB : Below w0.heap.size w0 w) (ho0 : Kd.R k47 47 w w0.heap.size P0_ u l0)
    (hr0 : Kd.C k47 w0 A0 x0.length x0) (hc0 : x0.length ≤ c0) (hr1 : Kd.C k47 w0 A1 x1.length x1) (hc1 : x1.length ≤ c1) (hr2 : Kd.C k47 w0 A2 x2.length x2) (hc2 : x2.length ≤ c2) (hr3 : Kd.C (Kd.int .i64) w0 A3 x3.length x3) (hc3 : x3.length ≤ c3) (hr4 : Kd.C (Kd.int .i64) w0 A4 x4.length x4) (hc4 : x4.length ≤ c4)
    (hq : w.heap[B]? = some (.cells #[.slice A0 x0.length c0, .slice A1 x1.length c1, .slice A2 x2.length c2, .slice A3 x3.length c3, .slice A4 x4.length c4] 31 (0, 0))) (hn : ¬ P0_ B) (h : delf_Step.f k l0 x3 = some r) :
    Calls Try.prog 26 #[u, .func (.func 28) #[] #[.pointer (some ⟨B, 0, none⟩)]] w fun e w' => ∃ v0_ : Value, e = .returned (v0_) ∧ Kd.R k47 47 w' w0.heap.size (fun k_ => (P0_ k_ ∨ w.heap.size ≤ k_)) v0_ r ∧ Below w0.heap.size w0 w' ∧ Kept w w' (fun k_ => P0_ k_) := by
  unfold delf_Step.f at h
  by_cases g : (l0.all fun x => slices_Contains_int_int.f k x3 x.f0 == some (x3.contains x.f0)) = true
  · rw [if_pos g] at h
    obtain rfl := Option.some.inj h
    rw [List.all_eq_true] at g
    obtain ⟨A, c, rfl⟩ := Kd.R_slice ho0
    have := delf_Step.raw 28 #[.pointer (some ⟨B, 0, none⟩)] (enters_of Try.func28 (by kernel_rfl) rfl) (fun x => !x3.contains x.f0) P0_ A c l0 w0 w hB ho0 (fun W x v hx hW hK hv => by
      obtain ⟨cs, rfl, hKk⟩ := hv
      rw [k47_open hKk]
      exact impl_RunDone_1.calls k x.f0 x.f1 x.f2 B A0 c0 x0 A1 c1 x1 A2 c2 x2 A3 c3 x3 A4 c4 x4 (!x3.contains x.f0) W (Kd.C_below hr0 hW) hc0 (Kd.C_below hr1 hW) hc1 (Kd.C_below hr2 hW) hc2 (Kd.C_below hr3 hW) hc3 (Kd.C_below hr4 hW) hc4 (blk_kept hq hK hn) (by
        unfold impl_RunDone_1.f
        rw [beq_iff_eq.1 (g x hx)]; rfl))
    simpa using this
  · rw [if_neg g] at h
    cases h

/-! ### impl_RunDone: function 8 -/
def impl_RunDone.f (k:Nat) (l0_0:List (S47)) (l0_1:List (S47)) (l0_2:List (S47)) (l0_3:List Int) (l0_4:List Int):Option ((List (S47)) × Bool):=(impl_GoodLocks.f k l0_0 l0_1 l0_2 l0_3 l0_4).bind fun t287=>(if t287=true then ((clone_Step.f l0_2).bind fun t288=>((delf_Step.f k t288 l0_3).bind fun t291=>(some (t291,true)))) else (some (([]:List (S47)),false)))
theorem impl_RunDone.mono : ∀ a0 a1 a2 a3 a4 k,LeO (impl_RunDone.f k a0 a1 a2 a3 a4) (impl_RunDone.f (k + 1) a0 a1 a2 a3 a4):=by
 intro a0 a1 a2 a3 a4 k;unfold impl_RunDone.f
 repeat' first
   | (with_reducible exact impl_GoodLocks.mono _ _ _ _ _ _)
   | (with_reducible exact delf_Step.mono _ _ _)
   | (with_reducible exact LeO.refl _)
   | (with_reducible exact LeO.none _)
   | (with_reducible refine LeO.ite ?_ ?_)
   | (with_reducible refine LeO.bind ?_ (fun _=>?_))
   | exact impl_GoodLocks.mono _ _ _ _ _ _
   | exact delf_Step.mono _ _ _
   | exact LeO.none _
   | refine LeO.ite ?_ ?_
   | refine LeO.bind ?_ (fun _=>?_)
set_option maxHeartbeats 8000000 in
set_option maxRecDepth 100000 in
theorem impl_RunDone.calls (k:Nat) (A0_0:Option Addr) (c0_0:Nat) (l0_0:List (S47)) (A0_1:Option Addr) (c0_1:Nat) (l0_1:List (S47)) (A0_2:Option Addr) (c0_2:Nat) (l0_2:List (S47)) (A0_3:Option Addr) (c0_3:Nat) (l0_3:List Int) (A0_4:Option Addr) (c0_4:Nat) (l0_4:List Int) (r1:List (S47)) (r2:Bool) (w:World) (hr0_0:Kd.C k47 w A0_0 l0_0.length l0_0) (hc0_0:l0_0.length≤c0_0) (hr0_1:Kd.C k47 w A0_1 l0_1.length l0_1) (hc0_1:l0_1.length≤c0_1) (hr0_2:Kd.C k47 w A0_2 l0_2.length l0_2) (hc0_2:l0_2.length≤c0_2) (hr0_3:Kd.C (Kd.int .i64) w A0_3 l0_3.length l0_3) (hc0_3:l0_3.length≤c0_3) (hr0_4:Kd.C (Kd.int .i64) w A0_4 l0_4.length l0_4) (hc0_4:l0_4.length≤c0_4) (h:impl_RunDone.f k l0_0 l0_1 l0_2 l0_3 l0_4=some (r1,r2)) :
  Calls Try.prog 8 #[.agg #[.slice A0_0 l0_0.length c0_0,.slice A0_1 l0_1.length c0_1,.slice A0_2 l0_2.length c0_2,.slice A0_3 l0_3.length c0_3,.slice A0_4 l0_4.length c0_4]] w fun e w'=>∃ v0_:Value,e=.returned (.tuple #[v0_,.bool r2])∧Kd.R k47 47 w' w.heap.size (fun _=>True) v0_ r1∧Below w.heap.size w w':=by
 have hu31:=Try.underlying31;have HR0_0:=qK hr0_0;have HC0_0:=qK hc0_0;clear hr0_0 hc0_0;have HR0_1:=qK hr0_1;have HC0_1:=qK hc0_1;clear hr0_1 hc0_1;have HR0_2:=qK hr0_2;have HC0_2:=qK hc0_2;clear hr0_2 hc0_2;have HR0_3:=qK hr0_3;have HC0_3:=qK hc0_3;clear hr0_3 hc0_3;have HR0_4:=qK hr0_4;have HC0_4:=qK hc0_4;clear hr0_4 hc0_4;have HB:=qK (Below.refl w.heap.size w);have H:((impl_GoodLocks.f k l0_0 l0_1 l0_2 l0_3 l0_4).bind fun t287=>(if t287=true then ((clone_Step.f l0_2).bind fun t288=>((delf_Step.f k t288 l0_3).bind fun t291=>(some (t291,true)))) else (some (([]:List (S47)),false))))=some (r1,r2):=h;clear h;replace H:=Option.bind_eq_some_iff.mp H;obtain ⟨t287,A20,H⟩:=H;replace H:(if t287=true then ((clone_Step.f l0_2).bind fun t288=>((delf_Step.f k t288 l0_3).bind fun t291=>(some (t291,true)))) else (some (([]:List (S47)),false)))=some (r1,r2):=H;have A2:=qK A20;clear A20;by_cases c3:t287=true
 ·subst c3;have H1:((clone_Step.f l0_2).bind fun t288=>((delf_Step.f k t288 l0_3).bind fun t291=>(some (t291,true))))=some (r1,r2):=by rw [if_pos rfl] at H;exact H
  clear H;have H:=H1;clear H1;replace H:=Option.bind_eq_some_iff.mp H;obtain ⟨t288,A40,H⟩:=H;replace H:((delf_Step.f k t288 l0_3).bind fun t291=>(some (t291,true)))=some (r1,r2):=H;have A4:=qK A40;clear A40;replace H:=Option.bind_eq_some_iff.mp H;obtain ⟨t291,A50,H⟩:=H;replace H:(some (t291,true))=some (r1,r2):=H;have A5:=qK A50;clear A50;simp only [Option.some.injEq,Prod.mk.injEq] at H;obtain ⟨rfl,rfl⟩:=H;go_enter Try.func8,Try.ntmps8
  go_wp2_with (first|((with_reducible refine gate_dst (N:=1) rfl ?_);refine box_event ?hg (N:=1) ?hd (cs:=#[.slice A0_0 l0_0.length c0_0,.slice A0_1 l0_1.length c0_1,.slice A0_2 l0_2.length c0_2,.slice A0_3 l0_3.length c0_3,.slice A0_4 l0_4.length c0_4]) (t:=31) ?hr ?_;(case hd=>rfl);(case hg=>rfl);(case hr=>(go_simp;try rfl));intro gb286 hg w6 hbox hb;have n0_:=qK (qT (by repeat (with_reducible first|exact HB.out|apply qA|apply qD|apply qO)) hb);have n1_:=qK (hbox);have n2_:=qK ((by rw [hg];exact (qZ (by repeat (with_reducible first|exact HB.out|apply qA|apply qD|apply qO))):w.heap.size≤gb286));have n3_:=qK ((by rw [hg];exact (qZ (by repeat (with_reducible first|exact HB.out|apply qA|apply qD|apply qO))):w.heap.size≤gb286));clear HB;have HB:=n0_;have BK286:=n1_;have GW286:=n2_;have GE286:=n3_;clear n0_ n1_ n2_ n3_;clear hb hbox hg;have hcz7_0:w6.cell? ⟨gb286,0,none⟩=some (.slice A0_0 l0_0.length c0_0):=(qC BK286.out 0).trans rfl;have hcz7_1:w6.cell? ⟨gb286,1,none⟩=some (.slice A0_1 l0_1.length c0_1):=(qC BK286.out 1).trans rfl;have hcz7_2:w6.cell? ⟨gb286,2,none⟩=some (.slice A0_2 l0_2.length c0_2):=(qC BK286.out 2).trans rfl;have hcz7_3:w6.cell? ⟨gb286,3,none⟩=some (.slice A0_3 l0_3.length c0_3):=(qC BK286.out 3).trans rfl;have hcz7_4:w6.cell? ⟨gb286,4,none⟩=some (.slice A0_4 l0_4.length c0_4):=(qC BK286.out 4).trans rfl;have hfz7_0:=qF BK286.out 0;have hfz7_1:=qF BK286.out 1;have hfz7_2:=qF BK286.out 2;have hfz7_3:=qF BK286.out 3;have hfz7_4:=qF BK286.out 4)|((with_reducible refine gate_callee (f:=25) rfl ?_);refine goesL_ (some 5) rfl rfl Try.func25 (by kernel_rfl) rfl #[.agg #[.slice A0_0 l0_0.length c0_0,.slice A0_1 l0_1.length c0_1,.slice A0_2 l0_2.length c0_2,.slice A0_3 l0_3.length c0_3,.slice A0_4 l0_4.length c0_4]] rfl (by (try simp only [mT,mC,mN]);first|done|rfl|(simp only [lD,lT];rfl)) ?_;(with_reducible refine (impl_GoodLocks.calls k _ _ l0_0 _ _ l0_1 _ _ l0_2 _ _ l0_3 _ _ l0_4 true _ ?side1 ?side2 ?side3 ?side4 ?side5 ?side6 ?side7 ?side8 ?side9 ?side10 A2.out).mono ?_);(case side1=>repeat (first|exact (cB HR0_0.out HB.out)|(with_reducible first|refine cL ?_ _|refine cN ?_ _|refine cW ?_)));(case side2=>exact HC0_0.out);(case side3=>repeat (first|exact (cB HR0_1.out HB.out)|(with_reducible first|refine cL ?_ _|refine cN ?_ _|refine cW ?_)));(case side4=>exact HC0_1.out);(case side5=>repeat (first|exact (cB HR0_2.out HB.out)|(with_reducible first|refine cL ?_ _|refine cN ?_ _|refine cW ?_)));(case side6=>exact HC0_2.out);(case side7=>repeat (first|exact (cB HR0_3.out HB.out)|(with_reducible first|refine cL ?_ _|refine cN ?_ _|refine cW ?_)));(case side8=>exact HC0_3.out);(case side9=>repeat (first|exact (cB HR0_4.out HB.out)|(with_reducible first|refine cL ?_ _|refine cN ?_ _|refine cW ?_)));(case side10=>exact HC0_4.out);rintro e w8 ⟨rfl,hb⟩;refine ⟨_,rfl,?_⟩;have n0_:=qK (qB (g:=gb286) (o:=_) (by (with_reducible repeat (first|refine qN ?_ _|refine qW ?_|refine qL ?_ _));exact BK286.out) hb);have n1_:=qK (qT (by repeat (with_reducible first|exact HB.out|apply qA|apply qD|apply qO|refine qS ?_ GE286.out)) hb);clear BK286;clear HB;have BK286:=n0_;have HB:=n1_;clear n0_ n1_;(try clear hb);have hcz9_0:w8.cell? ⟨gb286,0,none⟩=some (.slice A0_0 l0_0.length c0_0):=(qC BK286.out 0).trans rfl;have hcz9_1:w8.cell? ⟨gb286,1,none⟩=some (.slice A0_1 l0_1.length c0_1):=(qC BK286.out 1).trans rfl;have hcz9_2:w8.cell? ⟨gb286,2,none⟩=some (.slice A0_2 l0_2.length c0_2):=(qC BK286.out 2).trans rfl;have hcz9_3:w8.cell? ⟨gb286,3,none⟩=some (.slice A0_3 l0_3.length c0_3):=(qC BK286.out 3).trans rfl;have hcz9_4:w8.cell? ⟨gb286,4,none⟩=some (.slice A0_4 l0_4.length c0_4):=(qC BK286.out 4).trans rfl;have hfz9_0:=qF BK286.out 0;have hfz9_1:=qF BK286.out 1;have hfz9_2:=qF BK286.out 2;have hfz9_3:=qF BK286.out 3;have hfz9_4:=qF BK286.out 4)|((with_reducible refine gate_callee (f:=27) rfl ?_);refine goesL_ (some 9) rfl rfl Try.func27 (by kernel_rfl) rfl #[.slice A0_2 l0_2.length c0_2] rfl (by (try simp only [mT,mC,mN]);first|done|rfl|(simp only [lD,lT];rfl)) ?_;(with_reducible refine (clone_Step.calls _ _ l0_2 t288 _ ?side1 ?side2 A4.out).mono ?_);(case side1=>repeat (first|exact (cB HR0_2.out HB.out)|(with_reducible first|refine cL ?_ _|refine cN ?_ _|refine cW ?_)));(case side2=>exact HC0_2.out);rintro e w10 ⟨v289,rfl,ho0,hb⟩;refine ⟨_,rfl,?_⟩;have n0_:=qK (Kd.R_lower ho0 (qZ (by repeat (with_reducible first|exact HB.out|apply qA|apply qD|apply qO|refine qS ?_ GE286.out))));have n1_:=qK (qB (g:=gb286) (o:=_) (by (with_reducible repeat (first|refine qN ?_ _|refine qW ?_|refine qL ?_ _));exact BK286.out) hb);have n2_:=qK (qT (by repeat (with_reducible first|exact HB.out|apply qA|apply qD|apply qO|refine qS ?_ GE286.out)) hb);clear BK286;clear HB;have HO290:=n0_;have BK286:=n1_;have HB:=n2_;clear n0_ n1_ n2_;(try clear hb);(try clear ho0);have hcz11_0:w10.cell? ⟨gb286,0,none⟩=some (.slice A0_0 l0_0.length c0_0):=(qC BK286.out 0).trans rfl;have hcz11_1:w10.cell? ⟨gb286,1,none⟩=some (.slice A0_1 l0_1.length c0_1):=(qC BK286.out 1).trans rfl;have hcz11_2:w10.cell? ⟨gb286,2,none⟩=some (.slice A0_2 l0_2.length c0_2):=(qC BK286.out 2).trans rfl;have hcz11_3:w10.cell? ⟨gb286,3,none⟩=some (.slice A0_3 l0_3.length c0_3):=(qC BK286.out 3).trans rfl;have hcz11_4:w10.cell? ⟨gb286,4,none⟩=some (.slice A0_4 l0_4.length c0_4):=(qC BK286.out 4).trans rfl;have hfz11_0:=qF BK286.out 0;have hfz11_1:=qF BK286.out 1;have hfz11_2:=qF BK286.out 2;have hfz11_3:=qF BK286.out 3;have hfz11_4:=qF BK286.out 4;obtain ⟨Ao12,co12,eo12⟩:=Kd.R_slice HO290.out;subst eo12)|((with_reducible refine gate_callee (f:=26) rfl ?_);refine goesL_ (some 11) rfl rfl Try.func26 (by kernel_rfl) rfl #[.slice Ao12 t288.length co12, .func (.func 28) #[] #[.pointer (some ⟨gb286, 0, none⟩)]] rfl (by (try simp only [mT,mC,mN]);first|done|rfl|(simp only [lD,lT];rfl)) ?_;(with_reducible refine (delf_Step.calls k (fun k_=>some k_=(.slice Ao12 t288.length co12:Value).ownBlock) (.slice Ao12 t288.length co12) t288 gb286 _ _ l0_0 _ _ l0_1 _ _ l0_2 _ _ l0_3 _ _ l0_4 t291 w _ ?side1 ?side2 HR0_0.out HC0_0.out HR0_1.out HC0_1.out HR0_2.out HC0_2.out HR0_3.out HC0_3.out HR0_4.out HC0_4.out ?sidebx ?sidenb A5.out).mono ?_);(case side1=>repeat (first|(with_reducible first|exact HB.out|apply qA|apply qD|apply qO|refine qS ?_ GE286.out)|exact HB.out));(case side2=>exact Kd.R_tight rfl HO290.out);(case sidebx => (with_reducible repeat (first | refine blk_drewN ?_ _ | refine blk_drew ?_ | refine blk_alloc ?_ _)); exact BK286.out); (case sidenb => exact fun hs_ => Kd.R_ne HO290.out BK286.out (by decide) hs_);rintro e w13 ⟨v292,rfl,ho0,hb,hkp⟩;refine ⟨_,rfl,?_⟩;have n0_:=qK (blk_kept (by (with_reducible repeat (first|refine qN ?_ _|refine qW ?_|refine qL ?_ _));exact BK286.out) hkp (fun hs_=>(fun e_=>(Kd.R_ne HO290.out BK286.out (by decide)) e_) hs_));have n1_:=qK (Kd.R_mono (ok':=fun k_=>True) ho0 (fun k_ hk_=>trivial));have n2_:=qK (hb);clear BK286;clear HB;clear HO290;have BK286:=n0_;have HO293:=n1_;have HB:=n2_;clear n0_ n1_ n2_;(try clear hb);(try clear hkp);(try clear ho0)))
  go_ret2
  exact ⟨_,by first|rfl|(simp [errW_none,errW_some] <;> rfl)|(simp [*,errW_none,errW_some] <;> rfl),by (with_reducible repeat (first|apply rL|apply rN|apply rW));exact HO293.out,by repeat (first|(with_reducible first|exact HB.out|apply qA|apply qD|apply qO|refine qS ?_ GE286.out)|exact HB.out)⟩
 ·replace c3:=Bool.eq_false_iff.mpr c3;subst c3;have H1:(some (([]:List (S47)),false))=some (r1,r2):=by rw [if_neg (show ¬ (false=true) by decide)] at H;exact H
  clear H;have H:=H1;clear H1;simp only [Option.some.injEq,Prod.mk.injEq] at H;obtain ⟨rfl,rfl⟩:=H;go_enter Try.func8,Try.ntmps8
  go_wp2_with (first|((with_reducible refine gate_dst (N:=1) rfl ?_);refine box_event ?hg (N:=1) ?hd (cs:=#[.slice A0_0 l0_0.length c0_0,.slice A0_1 l0_1.length c0_1,.slice A0_2 l0_2.length c0_2,.slice A0_3 l0_3.length c0_3,.slice A0_4 l0_4.length c0_4]) (t:=31) ?hr ?_;(case hd=>rfl);(case hg=>rfl);(case hr=>(go_simp;try rfl));intro gb286 hg w14 hbox hb;have n0_:=qK (qT (by repeat (with_reducible first|exact HB.out|apply qA|apply qD|apply qO)) hb);have n1_:=qK (hbox);have n2_:=qK ((by rw [hg];exact (qZ (by repeat (with_reducible first|exact HB.out|apply qA|apply qD|apply qO))):w.heap.size≤gb286));have n3_:=qK ((by rw [hg];exact (qZ (by repeat (with_reducible first|exact HB.out|apply qA|apply qD|apply qO))):w.heap.size≤gb286));clear HB;have HB:=n0_;have BK286:=n1_;have GW286:=n2_;have GE286:=n3_;clear n0_ n1_ n2_ n3_;clear hb hbox hg;have hcz15_0:w14.cell? ⟨gb286,0,none⟩=some (.slice A0_0 l0_0.length c0_0):=(qC BK286.out 0).trans rfl;have hcz15_1:w14.cell? ⟨gb286,1,none⟩=some (.slice A0_1 l0_1.length c0_1):=(qC BK286.out 1).trans rfl;have hcz15_2:w14.cell? ⟨gb286,2,none⟩=some (.slice A0_2 l0_2.length c0_2):=(qC BK286.out 2).trans rfl;have hcz15_3:w14.cell? ⟨gb286,3,none⟩=some (.slice A0_3 l0_3.length c0_3):=(qC BK286.out 3).trans rfl;have hcz15_4:w14.cell? ⟨gb286,4,none⟩=some (.slice A0_4 l0_4.length c0_4):=(qC BK286.out 4).trans rfl;have hfz15_0:=qF BK286.out 0;have hfz15_1:=qF BK286.out 1;have hfz15_2:=qF BK286.out 2;have hfz15_3:=qF BK286.out 3;have hfz15_4:=qF BK286.out 4)|((with_reducible refine gate_callee (f:=25) rfl ?_);refine goesL_ (some 5) rfl rfl Try.func25 (by kernel_rfl) rfl #[.agg #[.slice A0_0 l0_0.length c0_0,.slice A0_1 l0_1.length c0_1,.slice A0_2 l0_2.length c0_2,.slice A0_3 l0_3.length c0_3,.slice A0_4 l0_4.length c0_4]] rfl (by (try simp only [mT,mC,mN]);first|done|rfl|(simp only [lD,lT];rfl)) ?_;(with_reducible refine (impl_GoodLocks.calls k _ _ l0_0 _ _ l0_1 _ _ l0_2 _ _ l0_3 _ _ l0_4 false _ ?side1 ?side2 ?side3 ?side4 ?side5 ?side6 ?side7 ?side8 ?side9 ?side10 A2.out).mono ?_);(case side1=>repeat (first|exact (cB HR0_0.out HB.out)|(with_reducible first|refine cL ?_ _|refine cN ?_ _|refine cW ?_)));(case side2=>exact HC0_0.out);(case side3=>repeat (first|exact (cB HR0_1.out HB.out)|(with_reducible first|refine cL ?_ _|refine cN ?_ _|refine cW ?_)));(case side4=>exact HC0_1.out);(case side5=>repeat (first|exact (cB HR0_2.out HB.out)|(with_reducible first|refine cL ?_ _|refine cN ?_ _|refine cW ?_)));(case side6=>exact HC0_2.out);(case side7=>repeat (first|exact (cB HR0_3.out HB.out)|(with_reducible first|refine cL ?_ _|refine cN ?_ _|refine cW ?_)));(case side8=>exact HC0_3.out);(case side9=>repeat (first|exact (cB HR0_4.out HB.out)|(with_reducible first|refine cL ?_ _|refine cN ?_ _|refine cW ?_)));(case side10=>exact HC0_4.out);rintro e w16 ⟨rfl,hb⟩;refine ⟨_,rfl,?_⟩;have n0_:=qK (qB (g:=gb286) (o:=_) (by (with_reducible repeat (first|refine qN ?_ _|refine qW ?_|refine qL ?_ _));exact BK286.out) hb);have n1_:=qK (qT (by repeat (with_reducible first|exact HB.out|apply qA|apply qD|apply qO|refine qS ?_ GE286.out)) hb);clear BK286;clear HB;have BK286:=n0_;have HB:=n1_;clear n0_ n1_;(try clear hb)))
  go_ret2
  exact ⟨_,by first|rfl|(simp [errW_none,errW_some] <;> rfl)|(simp [*,errW_none,errW_some] <;> rfl),by first|exact Kd.R_nil _ _ _ _ _|exact Kd.N_nil _ _ _ _ _|exact Kd.V_nil _ _ _ _ _|exact Kd.Q_nil _ _ _ _ _|exact Kd.S_nil _ _ _ _ _,by repeat (first|(with_reducible first|exact HB.out|apply qA|apply qD|apply qO|refine qS ?_ GE286.out)|exact HB.out)⟩

/-! ### laws_eqStep: function 30 -/
def laws_eqStep.f (a0_0:Int) (a0_1:Int) (a0_2:Int) (a1_0:Int) (a1_1:Int) (a1_2:Int):Option (Bool):=if a0_0=a1_0 then (if a0_1=a1_1 then (if a0_2=a1_2 then (some true) else (none)) else (none)) else (none)
set_option maxHeartbeats 8000000 in
set_option maxRecDepth 100000 in
theorem laws_eqStep.calls (a0_0:Int) (a0_1:Int) (a0_2:Int) (a1_0:Int) (a1_1:Int) (a1_2:Int) (r:Bool) (w:World) (h:laws_eqStep.f a0_0 a0_1 a0_2 a1_0 a1_1 a1_2=some r) :
  Calls Try.prog 30 #[.agg #[.int .i64 a0_0,.int .i64 a0_1,.int .i64 a0_2],.agg #[.int .i64 a1_0,.int .i64 a1_1,.int .i64 a1_2]] w fun e w'=>e=.returned (.bool r)∧Below w.heap.size w w':=by
 have hu47:=Try.underlying47;have HB:=qK (Below.refl w.heap.size w);have H:(if a0_0=a1_0 then (if a0_1=a1_1 then (if a0_2=a1_2 then (some true) else (none)) else (none)) else (none))=some r:=h;clear h;by_cases c3:a0_0=a1_0
 ·rw [if_pos c3] at H;have c3b0:(a0_0 == a1_0)=true:=beq_iff_eq.mpr c3;have c3b1:(a0_0 != a1_0)=false:=bne_eq_false_iff_eq.mpr c3;clear c3;by_cases c4:a0_1=a1_1
  ·rw [if_pos c4] at H;have c4b0:(a0_1 == a1_1)=true:=beq_iff_eq.mpr c4;have c4b1:(a0_1 != a1_1)=false:=bne_eq_false_iff_eq.mpr c4;clear c4;by_cases c5:a0_2=a1_2
   ·rw [if_pos c5] at H;have c5b0:(a0_2 == a1_2)=true:=beq_iff_eq.mpr c5;have c5b1:(a0_2 != a1_2)=false:=bne_eq_false_iff_eq.mpr c5;clear c5;obtain rfl:=Option.some.inj H;go_enter Try.func30,Try.ntmps30
    go_wp2_with (first|((with_reducible refine gate_dst (N:=2) rfl ?_);refine box_event ?hg (N:=2) ?hd (cs:=#[.int .i64 a0_0,.int .i64 a0_1,.int .i64 a0_2]) (t:=47) ?hr ?_;(case hd=>rfl);(case hg=>rfl);(case hr=>(go_simp;try rfl));intro gb294 hg w6 hbox hb;have n0_:=qK (qT (by repeat (with_reducible first|exact HB.out|apply qA|apply qD|apply qO)) hb);have n1_:=qK (hbox);have n2_:=qK ((by rw [hg];exact (qZ (by repeat (with_reducible first|exact HB.out|apply qA|apply qD|apply qO))):w.heap.size≤gb294));have n3_:=qK ((by rw [hg];exact (qZ (by repeat (with_reducible first|exact HB.out|apply qA|apply qD|apply qO))):w.heap.size≤gb294));clear HB;have HB:=n0_;have BK294:=n1_;have GW294:=n2_;have GE294:=n3_;clear n0_ n1_ n2_ n3_;clear hb hbox hg)|((with_reducible refine gate_dst (N:=3) rfl ?_);refine box_event ?hg (N:=3) ?hd (cs:=#[.int .i64 a1_0,.int .i64 a1_1,.int .i64 a1_2]) (t:=47) ?hr ?_;(case hd=>rfl);(case hg=>rfl);(case hr=>(go_simp;try rfl));intro gb295 hg w7 hbox hb;have n0_:=qK (qB (g:=gb294) (o:=_) (by (with_reducible repeat (first|refine qN ?_ _|refine qW ?_|refine qL ?_ _));exact BK294.out) hb);have n1_:=qK (qT (by repeat (with_reducible first|exact HB.out|apply qA|apply qD|apply qO|refine qS ?_ GE294.out)) hb);have n2_:=qK (hbox);have n3_:=qK ((by rw [hg];exact (qZ (by repeat (with_reducible first|exact HB.out|apply qA|apply qD|apply qO|refine qS ?_ GE294.out))):w.heap.size≤gb295));have n4_:=qK ((by rw [hg];exact (qZ (by repeat (with_reducible first|exact HB.out|apply qA|apply qD|apply qO|refine qS ?_ GE294.out))):w.heap.size≤gb295));have n5_:=qK ((by rw [hg];exact Nat.ne_of_lt (blk_lt (g:=gb294) (o:=_) (by (with_reducible repeat (first|refine qN ?_ _|refine qW ?_|refine qL ?_ _));exact BK294.out)):gb294 ≠ gb295));have n6_:=qK ((by rw [hg];exact Nat.ne_of_gt (blk_lt (g:=gb294) (o:=_) (by (with_reducible repeat (first|refine qN ?_ _|refine qW ?_|refine qL ?_ _));exact BK294.out)):gb295 ≠ gb294));clear BK294;clear HB;have BK294:=n0_;have HB:=n1_;have BK295:=n2_;have GW295:=n3_;have GE295:=n4_;have NB294_295:=n5_;have NB295_294:=n6_;clear n0_ n1_ n2_ n3_ n4_ n5_ n6_;clear hb hbox hg;have hnb8:=NB294_295.out;have hnc8:=NB295_294.out;have hcz9_0:w7.cell? ⟨gb294,0,none⟩=some (.int .i64 a0_0):=(qC BK294.out 0).trans rfl;have hcz9_1:w7.cell? ⟨gb294,1,none⟩=some (.int .i64 a0_1):=(qC BK294.out 1).trans rfl;have hcz9_2:w7.cell? ⟨gb294,2,none⟩=some (.int .i64 a0_2):=(qC BK294.out 2).trans rfl;have hfz9_0:=qF BK294.out 0;have hfz9_1:=qF BK294.out 1;have hfz9_2:=qF BK294.out 2;have hcz10_0:w7.cell? ⟨gb295,0,none⟩=some (.int .i64 a1_0):=(qC BK295.out 0).trans rfl;have hcz10_1:w7.cell? ⟨gb295,1,none⟩=some (.int .i64 a1_1):=(qC BK295.out 1).trans rfl;have hcz10_2:w7.cell? ⟨gb295,2,none⟩=some (.int .i64 a1_2):=(qC BK295.out 2).trans rfl;have hfz10_0:=qF BK295.out 0;have hfz10_1:=qF BK295.out 1;have hfz10_2:=qF BK295.out 2))
    go_ret
    exact ⟨by first|rfl|(simp [errW_none,errW_some] <;> rfl)|(simp [*,errW_none,errW_some] <;> rfl),by repeat (first|(with_reducible first|exact HB.out|apply qA|apply qD|apply qO|refine qS ?_ GE294.out|refine qS ?_ GE295.out)|exact HB.out)⟩
   ·rw [if_neg c5] at H;exact absurd H (by simp)
  ·rw [if_neg c4] at H;exact absurd H (by simp)
 ·rw [if_neg c3] at H;exact absurd H (by simp)

/-! ### laws_eqStepS: function 9 -/
def laws_eqStepS.l0 : Nat→List (S47)→List (S47)→Int→Option (Bool)
 | 0,_,_,_=>none
 | k + 1,x0,x1,x5=>if x5 < (x0.length:Int) then (if 0≤x5 then (if x5 < (x1.length:Int) then ((laws_eqStep.f ((rd_T47 x0 x5).f0) ((rd_T47 x0 x5).f1) ((rd_T47 x0 x5).f2) ((rd_T47 x1 x5).f0) ((rd_T47 x1 x5).f1) ((rd_T47 x1 x5).f2)).bind fun t298=>(if t298=true then (laws_eqStepS.l0 k x0 x1 (wrap64 (x5 + 1))) else (none))) else (none)) else (none)) else (some true)
def laws_eqStepS.f (k:Nat) (l0:List (S47)) (l1:List (S47)):Option (Bool):=if (l0.length:Int)=(l1.length:Int) then (laws_eqStepS.l0 k l0 l1 0) else (none)
theorem laws_eqStepS.mono_l : ∀ k,(∀ y0 y1 y2,LeO (laws_eqStepS.l0 k y0 y1 y2) (laws_eqStepS.l0 (k + 1) y0 y1 y2))
 | 0=>fun _ _ _ r h=>by simp [laws_eqStepS.l0] at h
 | k + 1=>by
  have ih0:=laws_eqStepS.mono_l k
  ·intro y0 y1 y2;unfold laws_eqStepS.l0
   repeat' first
   | (with_reducible exact ih0 _ _ _)
   | (with_reducible exact LeO.refl _)
   | (with_reducible exact LeO.none _)
   | (with_reducible refine LeO.ite ?_ ?_)
   | (with_reducible refine LeO.bind ?_ (fun _=>?_))
   | exact ih0 _ _ _
   | exact LeO.none _
   | refine LeO.ite ?_ ?_
   | refine LeO.bind ?_ (fun _=>?_)
theorem laws_eqStepS.mono : ∀ a0 a1 k,LeO (laws_eqStepS.f k a0 a1) (laws_eqStepS.f (k + 1) a0 a1):=by
 intro a0 a1 k;have ih0:=laws_eqStepS.mono_l k;unfold laws_eqStepS.f
 repeat' first
   | (with_reducible exact ih0 _ _ _)
   | (with_reducible exact LeO.refl _)
   | (with_reducible exact LeO.none _)
   | (with_reducible refine LeO.ite ?_ ?_)
   | (with_reducible refine LeO.bind ?_ (fun _=>?_))
   | exact ih0 _ _ _
   | exact LeO.none _
   | refine LeO.ite ?_ ?_
   | refine LeO.bind ?_ (fun _=>?_)
def laws_eqStepS.T6 : Bool × List (List Nat × List Nat):=(true,[([],[]),([],[]),([0,1],[0,1]),([2],[2]),([],[]),([],[]),([4,5],[4,5]),([6],[6]),([3,7],[3,7]),([8],[8])])
def laws_eqStepS.B6 : List Nat:=[0,0,3,7,0,0,48,112,255,511]
theorem laws_eqStepS.tab6 : rtab .any (opsOf Try.f9 6)=laws_eqStepS.T6:=by kernel_rfl
theorem laws_eqStepS.bits6 : waitsOk laws_eqStepS.T6.2 laws_eqStepS.B6=true:=by kernel_rfl
set_option maxHeartbeats 8000000 in
set_option maxRecDepth 100000 in
theorem laws_eqStepS.calls (k:Nat) (A0:Option Addr) (c0:Nat) (l0:List (S47)) (A1:Option Addr) (c1:Nat) (l1:List (S47)) (r:Bool) (w:World) (hr0:Kd.C k47 w A0 l0.length l0) (hc0:l0.length≤c0) (hr1:Kd.C k47 w A1 l1.length l1) (hc1:l1.length≤c1) (h:laws_eqStepS.f k l0 l1=some r) :
  Calls Try.prog 9 #[.slice A0 l0.length c0,.slice A1 l1.length c1] w fun e w'=>e=.returned (.bool r)∧Below w.heap.size w w':=by
 have hu47:=Try.underlying47;have HR0:=qK hr0;have HC0:=qK hc0;clear hr0 hc0;have HR1:=qK hr1;have HC1:=qK hc1;clear hr1 hc1;have HB:=qK (Below.refl w.heap.size w);have H:(if (l0.length:Int)=(l1.length:Int) then (laws_eqStepS.l0 k l0 l1 0) else (none))=some r:=h;clear h;by_cases c3:(l0.length:Int)=(l1.length:Int)
 ·rw [if_pos c3] at H;have c3b0:((l0.length:Int) == (l1.length:Int))=true:=beq_iff_eq.mpr c3;have c3b1:((l0.length:Int) != (l1.length:Int))=false:=bne_eq_false_iff_eq.mpr c3;have c3b2:(l0.length == l1.length)=true:=by first|simpa using c3|(simp at c3 ⊢;omega)
  clear c3;have H':=qK H;clear H;go_enter Try.func9,Try.ntmps9
  go_wp2
  go_loopg [5] k (fun kq v5 w'=>∃ (x5_1:Int),v5=.int .i64 x5_1∧Aside0 (laws_eqStepS.l0 kq l0 l1 x5_1=some r)∧Aside0 (kq≤k)∧Aside0 (Below w.heap.size w w'))
  case atStart=>exact ⟨(0),(by first|rfl|(simp;done)|(simp [*];done)),H',⟨Nat.le_refl _⟩,⟨by repeat (first|(with_reducible first|exact HB.out|apply qA|apply qD|apply qO)|exact HB.out)⟩⟩
  case round =>
   clear H';try clear c1
   try clear p2
   try clear c3
   try clear c3b0
   try clear c3b1
   try clear c3b2
   obtain ⟨x5_1,rfl,HA,HK1,HB⟩:=hrel;cases gk with
   | zero=>exact absurd HA.out (by simp [laws_eqStepS.l0])
   | succ k1 =>
    have H:=HA.out;clear HA;simp only [laws_eqStepS.l0] at H;by_cases c4:x5_1 < (l0.length:Int)
    ·rw [if_pos c4] at H;have c4b0:decide (x5_1 < (l0.length:Int))=true:=decide_eq_true c4;clear c4;by_cases c5:0≤x5_1
     ·rw [if_pos c5] at H;have c5b0:decide (0≤x5_1)=true:=decide_eq_true c5;clear c5;by_cases c6:x5_1 < (l1.length:Int)
      ·rw [if_pos c6] at H;have c6b0:decide (x5_1 < (l1.length:Int))=true:=decide_eq_true c6;clear c6;replace H:=Option.bind_eq_some_iff.mp H;obtain ⟨t298,A70,H⟩:=H;replace H:(if t298=true then (laws_eqStepS.l0 k1 l0 l1 (wrap64 (x5_1 + 1))) else (none))=some r:=H;have A7:=qK A70;clear A70;by_cases c8:t298=true
       ·subst c8;have H1:(laws_eqStepS.l0 k1 l0 l1 (wrap64 (x5_1 + 1)))=some r:=by rw [if_pos rfl] at H;exact H
        clear H;have H:=H1;clear H1;have H':=qK H;clear H;try go_wp2
        (try (rw [drewN_self wr];generalize hq_:World.drewN wr _=wr;have n0_:Aside0 (Below w.heap.size w wr):=⟨by rw [← hq_];exact (by repeat (with_reducible first|exact HB.out|apply qA|apply qD|apply qO))⟩;clear HB hq_;have HB:=n0_;clear n0_));have n0_:=qK (qO HB.out);clear HB;have HB:=n0_;clear n0_;have p296:0≤(x5_1:Int):=of_decide_eq_true (by first|(with_reducible assumption)|assumption);have q296:x5_1 < (l0.length:Int):=of_decide_eq_true (by first|(with_reducible assumption)|assumption);obtain ⟨ad296,e296,hx296_0,hx296_1,hx296_2⟩:=at_T47 HR0.out x5_1 p296 q296;have hw296_2:=hx296_2;have hw296_1:=hx296_1;have hw296_0:=hx296_0;cases e296
        replace hx296_0:=(HB.out.cell (World.block_lt_of_cell? w _ hx296_0)).trans hx296_0;replace hx296_1:=(HB.out.cell (World.block_lt_of_cell? w _ hx296_1)).trans hx296_1;replace hx296_2:=(HB.out.cell (World.block_lt_of_cell? w _ hx296_2)).trans hx296_2;replace p296:=eq_true p296;replace q296:=eq_true q296;have p297:0≤(x5_1:Int):=of_decide_eq_true (by first|(with_reducible assumption)|assumption);have q297:x5_1 < (l1.length:Int):=of_decide_eq_true (by first|(with_reducible assumption)|assumption);obtain ⟨ad297,e297,hx297_0,hx297_1,hx297_2⟩:=at_T47 HR1.out x5_1 p297 q297;have hw297_2:=hx297_2;have hw297_1:=hx297_1;have hw297_0:=hx297_0;cases e297
        replace hx297_0:=(HB.out.cell (World.block_lt_of_cell? w _ hx297_0)).trans hx297_0;replace hx297_1:=(HB.out.cell (World.block_lt_of_cell? w _ hx297_1)).trans hx297_1;replace hx297_2:=(HB.out.cell (World.block_lt_of_cell? w _ hx297_2)).trans hx297_2;replace p297:=eq_true p297;replace q297:=eq_true q297;refine start_ (n:=10) (S:=fun w'=>w'.cell? (ad296.add ((x5_1).toNat * 3))=some (.int .i64 ((rd_T47 l0 x5_1).f0))∧w'.cell? ⟨(ad296.add ((x5_1).toNat * 3)).block,(ad296.add ((x5_1).toNat * 3)).off + 1,none⟩=some (.int .i64 ((rd_T47 l0 x5_1).f1))∧w'.cell? ⟨(ad296.add ((x5_1).toNat * 3)).block,(ad296.add ((x5_1).toNat * 3)).off + 2,none⟩=some (.int .i64 ((rd_T47 l0 x5_1).f2))∧w'.cell? (ad297.add ((x5_1).toNat * 3))=some (.int .i64 ((rd_T47 l1 x5_1).f0))∧w'.cell? ⟨(ad297.add ((x5_1).toNat * 3)).block,(ad297.add ((x5_1).toNat * 3)).off + 1,none⟩=some (.int .i64 ((rd_T47 l1 x5_1).f1))∧w'.cell? ⟨(ad297.add ((x5_1).toNat * 3)).block,(ad297.add ((x5_1).toNat * 3)).off + 2,none⟩=some (.int .i64 ((rd_T47 l1 x5_1).f2))) (ds:=[]) #[Z,Z,Z,Z,Z,Z,Z,Z,Z,Z] (by kernel_rfl) rfl rfl ⟨((HB.out.cell (World.block_lt_of_cell? w _ hw296_0)).trans hw296_0),((HB.out.cell (World.block_lt_of_cell? w _ hw296_1)).trans hw296_1),((HB.out.cell (World.block_lt_of_cell? w _ hw296_2)).trans hw296_2),((HB.out.cell (World.block_lt_of_cell? w _ hw297_0)).trans hw297_0),((HB.out.cell (World.block_lt_of_cell? w _ hw297_1)).trans hw297_1),((HB.out.cell (World.block_lt_of_cell? w _ hw297_2)).trans hw297_2)⟩ (fun hHeld=>?_);refine with_tabW laws_eqStepS.tab6 laws_eqStepS.bits6 (fun HT_ HW_=>?_);generalize wr.drew=w9 at HB hx296_0 hx296_1 hx296_2 hx297_0 hx297_1 hx297_2 hHeld ⊢
        refine pure_ (i:=0) (N:=some 17) (v:=?_) (a':=?_) #[Y,Z,Z,Z,Z,Z,Z,Z,Z,Z] rfl rfl (any_of HT_.out (by kernel_rfl)) (fun _ _ _ h=>h) (Or.inl ⟨by rfl,?_⟩) ?_ ?_;rotate_left
        ·intro w';go_simp;with_reducible rfl
        rotate_left
        ·simp only [Act.put,sIb,sZ,sS,i64_w,i32_w];rfl
        refine pure_ (i:=1) (N:=some 18) (v:=?_) (a':=?_) #[Y,Y,Z,Z,Z,Z,Z,Z,Z,Z] rfl rfl (any_of HT_.out (by kernel_rfl)) (fun _ _ _ h=>h) (Or.inl ⟨by rfl,?_⟩) ?_ ?_;rotate_left
        ·intro w';go_simp;with_reducible rfl
        rotate_left
        ·simp only [Act.put,sIb,sZ,sS,i64_w,i32_w];rfl
        refine pure_ (i:=2) (N:=some 19) (v:=?_) (a':=?_) #[Y,Y,Y,Z,Z,Z,Z,Z,Z,Z] rfl rfl (any_of HT_.out (by kernel_rfl)) (fun _ _ _ h=>h) (Or.inl ⟨by rfl,?_⟩) ?_ ?_;rotate_left
        ·intro w';go_simp;with_reducible rfl
        rotate_left
        ·simp only [Act.put,sIb,sZ,sS,i64_w,i32_w];rfl
        refine pure_ (i:=4) (N:=some 21) (v:=?_) (a':=?_) #[Y,Y,Y,Z,Y,Z,Z,Z,Z,Z] rfl rfl (any_of HT_.out (by kernel_rfl)) (fun _ _ _ h=>h) (Or.inl ⟨by rfl,?_⟩) ?_ ?_;rotate_left
        ·intro w';go_simp;with_reducible rfl
        rotate_left
        ·simp only [Act.put,sIb,sZ,sS,i64_w,i32_w];rfl
        refine pure_ (i:=5) (N:=some 22) (v:=?_) (a':=?_) #[Y,Y,Y,Z,Y,Y,Z,Z,Z,Z] rfl rfl (any_of HT_.out (by kernel_rfl)) (fun _ _ _ h=>h) (Or.inl ⟨by rfl,?_⟩) ?_ ?_;rotate_left
        ·intro w';go_simp;with_reducible rfl
        rotate_left
        ·simp only [Act.put,sIb,sZ,sS,i64_w,i32_w];rfl
        refine pure_ (i:=6) (N:=some 23) (v:=?_) (a':=?_) #[Y,Y,Y,Z,Y,Y,Y,Z,Z,Z] rfl rfl (any_of HT_.out (by kernel_rfl)) (fun _ _ _ h=>h) (Or.inl ⟨by rfl,?_⟩) ?_ ?_;rotate_left
        ·intro w';go_simp;with_reducible rfl
        rotate_left
        ·simp only [Act.put,sIb,sZ,sS,i64_w,i32_w];rfl
        refine take_ (i:=3) (N:=some 20) (v:=?_) (a':=?_) #[Y,Y,Y,Y,Y,Y,Y,Z,Z,Z] rfl rfl (take_ofW HT_.out HW_.out (by kernel_rfl)) (fun _ _ _ h=>h) (Or.inl ⟨by rfl,?_⟩) hHeld ?_ ?_;rotate_left
        ·rintro w' ⟨s0,s1,s2,s3,s4,s5⟩;go_simp;with_reducible rfl
        rotate_left
        ·simp only [Act.put,sIb,sZ,sS,i64_w,i32_w];rfl
        refine take_ (i:=7) (N:=some 24) (v:=?_) (a':=?_) #[Y,Y,Y,Y,Y,Y,Y,Y,Z,Z] rfl rfl (take_ofW HT_.out HW_.out (by kernel_rfl)) (fun _ _ _ h=>h) (Or.inl ⟨by rfl,?_⟩) hHeld ?_ ?_;rotate_left
        ·rintro w' ⟨s0,s1,s2,s3,s4,s5⟩;go_simp;with_reducible rfl
        rotate_left
        ·simp only [Act.put,sIb,sZ,sS,i64_w,i32_w];rfl
        refine one_ (i:=8) (N:=some 25) #[Y,Y,Y,Y,Y,Y,Y,Y,Y,Z] rfl rfl (one_of HT_.out (by kernel_rfl)) (by decide) (fun K hK=>?_);refine goes_ Try.func30 (by kernel_rfl) rfl #[.agg #[.int .i64 ((rd_T47 l0 x5_1).f0),.int .i64 ((rd_T47 l0 x5_1).f1),.int .i64 ((rd_T47 l0 x5_1).f2)],.agg #[.int .i64 ((rd_T47 l1 x5_1).f0),.int .i64 ((rd_T47 l1 x5_1).f1),.int .i64 ((rd_T47 l1 x5_1).f2)]] (by rfl) rfl rfl (by (try simp only [mT,mC,mN]);first|done|rfl|(simp only [lD,lT];rfl)) ?_;with_reducible refine (laws_eqStep.calls ((rd_T47 l0 x5_1).f0) ((rd_T47 l0 x5_1).f1) ((rd_T47 l0 x5_1).f2) ((rd_T47 l1 x5_1).f0) ((rd_T47 l1 x5_1).f1) ((rd_T47 l1 x5_1).f2) true _ A7.out).mono ?_
        rintro e w10 ⟨rfl,hb⟩;refine ⟨_,rfl,?_⟩;have n0_:=qK (qT (by repeat (with_reducible first|exact HB.out|apply qA|apply qD|apply qO)) hb);clear HB;have HB:=n0_;clear n0_;(try clear hb);refine hK.out _ _ ⟨((HB.out.cell (World.block_lt_of_cell? w _ hw296_0)).trans hw296_0),((HB.out.cell (World.block_lt_of_cell? w _ hw296_1)).trans hw296_1),((HB.out.cell (World.block_lt_of_cell? w _ hw296_2)).trans hw296_2),((HB.out.cell (World.block_lt_of_cell? w _ hw297_0)).trans hw297_0),((HB.out.cell (World.block_lt_of_cell? w _ hw297_1)).trans hw297_1),((HB.out.cell (World.block_lt_of_cell? w _ hw297_2)).trans hw297_2)⟩ (fun hHeld=>?_);clear hK K;refine norm_ (a':=?_) ?_ ?_;rotate_left
        ·show Act.put _ (some 25) _=_
         simp only [Act.put,sIb,sZ,sS,i64_w,i32_w];rfl
        refine pure_ (i:=9) (N:=some 26) (v:=?_) (a':=?_) #[Y,Y,Y,Y,Y,Y,Y,Y,Y,Y] rfl rfl (any_of HT_.out (by kernel_rfl)) (fun _ _ _ h=>h) (Or.inl ⟨by rfl,?_⟩) ?_ ?_;rotate_left
        ·intro w';go_simp;with_reducible rfl
        rotate_left
        ·simp only [Act.put,sIb,sZ,sS,i64_w,i32_w];rfl
        refine done_ (done_of HT_.out (by kernel_rfl)) ?_;try go_wp2
        go_roundg k1
        case measure=>have:=HK1.out;omega
        case rel=>exact ⟨(wrap64 (x5_1 + 1)),(by first|rfl|(simp;done)|(simp [*];done)),H',⟨by have:=HK1.out;omega⟩,⟨by repeat (first|(with_reducible first|exact HB.out|apply qA|apply qD|apply qO)|exact HB.out)⟩⟩
       ·replace c8:=Bool.eq_false_iff.mpr c8;subst c8;have H1:(none)=some r:=by rw [if_neg (show ¬ (false=true) by decide)] at H;exact H
        clear H;have H:=H1;clear H1;exact absurd H (by simp)
      ·rw [if_neg c6] at H;exact absurd H (by simp)
     ·rw [if_neg c5] at H;exact absurd H (by simp)
    ·rw [if_neg c4] at H;have c4b0:decide (x5_1 < (l0.length:Int))=false:=decide_eq_false c4;clear c4;obtain rfl:=Option.some.inj H;go_wp2
     go_ret
     exact ⟨by first|rfl|(simp [errW_none,errW_some] <;> rfl)|(simp [*,errW_none,errW_some] <;> rfl),by repeat (first|(with_reducible first|exact HB.out|apply qA|apply qD|apply qO)|exact HB.out)⟩
 ·rw [if_neg c3] at H;exact absurd H (by simp)

/-! ### laws_eqIntS: function 31 -/
def laws_eqIntS.l0 : Nat→List Int→List Int→Int→Option (Bool)
 | 0,_,_,_=>none
 | k + 1,x0,x1,x5=>if x5 < (x0.length:Int) then (if 0≤x5 then (if x5 < (x1.length:Int) then (if (rd x0 x5)=(rd x1 x5) then (laws_eqIntS.l0 k x0 x1 (wrap64 (x5 + 1))) else (none)) else (none)) else (none)) else (some true)
def laws_eqIntS.f (k:Nat) (l0:List Int) (l1:List Int):Option (Bool):=if (l0.length:Int)=(l1.length:Int) then (laws_eqIntS.l0 k l0 l1 0) else (none)
theorem laws_eqIntS.mono_l : ∀ k,(∀ y0 y1 y2,LeO (laws_eqIntS.l0 k y0 y1 y2) (laws_eqIntS.l0 (k + 1) y0 y1 y2))
 | 0=>fun _ _ _ r h=>by simp [laws_eqIntS.l0] at h
 | k + 1=>by
  have ih0:=laws_eqIntS.mono_l k
  ·intro y0 y1 y2;unfold laws_eqIntS.l0
   repeat' first
   | (with_reducible exact ih0 _ _ _)
   | (with_reducible exact LeO.refl _)
   | (with_reducible exact LeO.none _)
   | (with_reducible refine LeO.ite ?_ ?_)
   | (with_reducible refine LeO.bind ?_ (fun _=>?_))
   | exact ih0 _ _ _
   | exact LeO.none _
   | refine LeO.ite ?_ ?_
   | refine LeO.bind ?_ (fun _=>?_)
theorem laws_eqIntS.mono : ∀ a0 a1 k,LeO (laws_eqIntS.f k a0 a1) (laws_eqIntS.f (k + 1) a0 a1):=by
 intro a0 a1 k;have ih0:=laws_eqIntS.mono_l k;unfold laws_eqIntS.f
 repeat' first
   | (with_reducible exact ih0 _ _ _)
   | (with_reducible exact LeO.refl _)
   | (with_reducible exact LeO.none _)
   | (with_reducible refine LeO.ite ?_ ?_)
   | (with_reducible refine LeO.bind ?_ (fun _=>?_))
   | exact ih0 _ _ _
   | exact LeO.none _
   | refine LeO.ite ?_ ?_
   | refine LeO.bind ?_ (fun _=>?_)
set_option maxHeartbeats 8000000 in
set_option maxRecDepth 100000 in
theorem laws_eqIntS.calls (k:Nat) (A0:Option Addr) (c0:Nat) (l0:List Int) (A1:Option Addr) (c1:Nat) (l1:List Int) (r:Bool) (w:World) (hr0:Kd.C (Kd.int .i64) w A0 l0.length l0) (hc0:l0.length≤c0) (hr1:Kd.C (Kd.int .i64) w A1 l1.length l1) (hc1:l1.length≤c1) (h:laws_eqIntS.f k l0 l1=some r) :
  Calls Try.prog 31 #[.slice A0 l0.length c0,.slice A1 l1.length c1] w fun e w'=>e=.returned (.bool r)∧Drawn0 w w':=by
 have HR0:=qK hr0;have HC0:=qK hc0;clear hr0 hc0;have HR1:=qK hr1;have HC1:=qK hc1;clear hr1 hc1;have H:(if (l0.length:Int)=(l1.length:Int) then (laws_eqIntS.l0 k l0 l1 0) else (none))=some r:=h;clear h;by_cases c3:(l0.length:Int)=(l1.length:Int)
 ·rw [if_pos c3] at H;have c3b0:((l0.length:Int) == (l1.length:Int))=true:=beq_iff_eq.mpr c3;have c3b1:((l0.length:Int) != (l1.length:Int))=false:=bne_eq_false_iff_eq.mpr c3;have c3b2:(l0.length == l1.length)=true:=by first|simpa using c3|(simp at c3 ⊢;omega)
  clear c3;have H':=qK H;clear H;go_enter Try.func31,Try.ntmps31
  go_wp2
  repeat (go_quiet (fail);try go_wp2)
  go_loopg [5] k (fun kq v5 w'=>∃ (x5_1:Int),v5=.int .i64 x5_1∧Aside0 (laws_eqIntS.l0 kq l0 l1 x5_1=some r)∧Aside0 (kq≤k)∧Drawn0 w w')
  case atStart=>exact ⟨(0),(by first|rfl|(simp;done)|(simp [*];done)),H',⟨Nat.le_refl _⟩,by repeat (first|exact Drawn0.refl _|apply Drawn0.step)⟩
  case round =>
   clear H';try clear c1
   try clear p2
   try clear c3
   try clear c3b0
   try clear c3b1
   try clear c3b2
   obtain ⟨x5_1,rfl,HA,HK1,⟨m1,rfl⟩⟩:=hrel;cases gk with
   | zero=>exact absurd HA.out (by simp [laws_eqIntS.l0])
   | succ k1 =>
    have H:=HA.out;clear HA;simp only [laws_eqIntS.l0] at H;by_cases c4:x5_1 < (l0.length:Int)
    ·rw [if_pos c4] at H;have c4b0:decide (x5_1 < (l0.length:Int))=true:=decide_eq_true c4;clear c4;by_cases c5:0≤x5_1
     ·rw [if_pos c5] at H;have c5b0:decide (0≤x5_1)=true:=decide_eq_true c5;clear c5;by_cases c6:x5_1 < (l1.length:Int)
      ·rw [if_pos c6] at H;have c6b0:decide (x5_1 < (l1.length:Int))=true:=decide_eq_true c6;clear c6;by_cases c7:(rd l0 x5_1)=(rd l1 x5_1)
       ·rw [if_pos c7] at H;have c7b0:((rd l0 x5_1) == (rd l1 x5_1))=true:=beq_iff_eq.mpr c7;have c7b1:((rd l0 x5_1) != (rd l1 x5_1))=false:=bne_eq_false_iff_eq.mpr c7;clear c7;have H':=qK H;clear H;have p299:0≤(x5_1:Int):=of_decide_eq_true (by first|(with_reducible assumption)|assumption);have q299:x5_1 < (l0.length:Int):=of_decide_eq_true (by first|(with_reducible assumption)|assumption);obtain ⟨ad299,e299,hx299_0⟩:=Kd.at_int HR0.out x5_1 p299 q299;cases e299
        replace p299:=eq_true p299;replace q299:=eq_true q299;have p300:0≤(x5_1:Int):=of_decide_eq_true (by first|(with_reducible assumption)|assumption);have q300:x5_1 < (l1.length:Int):=of_decide_eq_true (by first|(with_reducible assumption)|assumption);obtain ⟨ad300,e300,hx300_0⟩:=Kd.at_int HR1.out x5_1 p300 q300;cases e300
        replace p300:=eq_true p300;replace q300:=eq_true q300;go_wp2
        repeat (go_quiet (fail);try go_wp2)
        go_roundg k1
        case measure=>have:=HK1.out;omega
        case rel=>exact ⟨(wrap64 (x5_1 + 1)),(by first|rfl|(simp;done)|(simp [*];done)),H',⟨by have:=HK1.out;omega⟩,by repeat (first|exact Drawn0.refl _|apply Drawn0.step)⟩
       ·rw [if_neg c7] at H;exact absurd H (by simp)
      ·rw [if_neg c6] at H;exact absurd H (by simp)
     ·rw [if_neg c5] at H;exact absurd H (by simp)
    ·rw [if_neg c4] at H;have c4b0:decide (x5_1 < (l0.length:Int))=false:=decide_eq_false c4;clear c4;obtain rfl:=Option.some.inj H;go_wp2
     repeat (go_quiet (fail);try go_wp2)
     go_ret
     exact ⟨by first|rfl|(simp;done)|(simp [*];done),by repeat (first|exact Drawn0.refl _|apply Drawn0.step)⟩
 ·rw [if_neg c3] at H;exact absurd H (by simp)

/-! ### laws_eqLocks: function 10 -/
def laws_eqLocks.f (k:Nat) (l0_0:List (S47)) (l0_1:List (S47)) (l0_2:List (S47)) (l0_3:List Int) (l0_4:List Int) (l1_0:List (S47)) (l1_1:List (S47)) (l1_2:List (S47)) (l1_3:List Int) (l1_4:List Int):Option (Bool):=(laws_eqStepS.f k l0_0 l1_0).bind fun t303=>(if t303=true then ((laws_eqStepS.f k l0_1 l1_1).bind fun t304=>(if t304=true then ((laws_eqStepS.f k l0_2 l1_2).bind fun t305=>(if t305=true then ((laws_eqIntS.f k l0_3 l1_3).bind fun t306=>(if t306=true then ((laws_eqIntS.f k l0_4 l1_4).bind fun t307=>(if t307=true then (some true) else (none))) else (none))) else (none))) else (none))) else (none))
theorem laws_eqLocks.mono : ∀ a0 a1 a2 a3 a4 a5 a6 a7 a8 a9 k,LeO (laws_eqLocks.f k a0 a1 a2 a3 a4 a5 a6 a7 a8 a9) (laws_eqLocks.f (k + 1) a0 a1 a2 a3 a4 a5 a6 a7 a8 a9):=by
 intro a0 a1 a2 a3 a4 a5 a6 a7 a8 a9 k;unfold laws_eqLocks.f
 repeat' first
   | (with_reducible exact laws_eqIntS.mono _ _ _)
   | (with_reducible exact laws_eqStepS.mono _ _ _)
   | (with_reducible exact LeO.refl _)
   | (with_reducible exact LeO.none _)
   | (with_reducible refine LeO.ite ?_ ?_)
   | (with_reducible refine LeO.bind ?_ (fun _=>?_))
   | exact laws_eqIntS.mono _ _ _
   | exact laws_eqStepS.mono _ _ _
   | exact LeO.none _
   | refine LeO.ite ?_ ?_
   | refine LeO.bind ?_ (fun _=>?_)
set_option maxHeartbeats 8000000 in
set_option maxRecDepth 100000 in
theorem laws_eqLocks.calls (k:Nat) (A0_0:Option Addr) (c0_0:Nat) (l0_0:List (S47)) (A0_1:Option Addr) (c0_1:Nat) (l0_1:List (S47)) (A0_2:Option Addr) (c0_2:Nat) (l0_2:List (S47)) (A0_3:Option Addr) (c0_3:Nat) (l0_3:List Int) (A0_4:Option Addr) (c0_4:Nat) (l0_4:List Int) (A1_0:Option Addr) (c1_0:Nat) (l1_0:List (S47)) (A1_1:Option Addr) (c1_1:Nat) (l1_1:List (S47)) (A1_2:Option Addr) (c1_2:Nat) (l1_2:List (S47)) (A1_3:Option Addr) (c1_3:Nat) (l1_3:List Int) (A1_4:Option Addr) (c1_4:Nat) (l1_4:List Int) (r:Bool) (w:World) (hr0_0:Kd.C k47 w A0_0 l0_0.length l0_0) (hc0_0:l0_0.length≤c0_0) (hr0_1:Kd.C k47 w A0_1 l0_1.length l0_1) (hc0_1:l0_1.length≤c0_1) (hr0_2:Kd.C k47 w A0_2 l0_2.length l0_2) (hc0_2:l0_2.length≤c0_2) (hr0_3:Kd.C (Kd.int .i64) w A0_3 l0_3.length l0_3) (hc0_3:l0_3.length≤c0_3) (hr0_4:Kd.C (Kd.int .i64) w A0_4 l0_4.length l0_4) (hc0_4:l0_4.length≤c0_4) (hr1_0:Kd.C k47 w A1_0 l1_0.length l1_0) (hc1_0:l1_0.length≤c1_0) (hr1_1:Kd.C k47 w A1_1 l1_1.length l1_1) (hc1_1:l1_1.length≤c1_1) (hr1_2:Kd.C k47 w A1_2 l1_2.length l1_2) (hc1_2:l1_2.length≤c1_2) (hr1_3:Kd.C (Kd.int .i64) w A1_3 l1_3.length l1_3) (hc1_3:l1_3.length≤c1_3) (hr1_4:Kd.C (Kd.int .i64) w A1_4 l1_4.length l1_4) (hc1_4:l1_4.length≤c1_4) (h:laws_eqLocks.f k l0_0 l0_1 l0_2 l0_3 l0_4 l1_0 l1_1 l1_2 l1_3 l1_4=some r) :
  Calls Try.prog 10 #[.agg #[.slice A0_0 l0_0.length c0_0,.slice A0_1 l0_1.length c0_1,.slice A0_2 l0_2.length c0_2,.slice A0_3 l0_3.length c0_3,.slice A0_4 l0_4.length c0_4],.agg #[.slice A1_0 l1_0.length c1_0,.slice A1_1 l1_1.length c1_1,.slice A1_2 l1_2.length c1_2,.slice A1_3 l1_3.length c1_3,.slice A1_4 l1_4.length c1_4]] w fun e w'=>e=.returned (.bool r)∧Below w.heap.size w w':=by
 have hu31:=Try.underlying31;have HR0_0:=qK hr0_0;have HC0_0:=qK hc0_0;clear hr0_0 hc0_0;have HR0_1:=qK hr0_1;have HC0_1:=qK hc0_1;clear hr0_1 hc0_1;have HR0_2:=qK hr0_2;have HC0_2:=qK hc0_2;clear hr0_2 hc0_2;have HR0_3:=qK hr0_3;have HC0_3:=qK hc0_3;clear hr0_3 hc0_3;have HR0_4:=qK hr0_4;have HC0_4:=qK hc0_4;clear hr0_4 hc0_4;have HR1_0:=qK hr1_0;have HC1_0:=qK hc1_0;clear hr1_0 hc1_0;have HR1_1:=qK hr1_1;have HC1_1:=qK hc1_1;clear hr1_1 hc1_1;have HR1_2:=qK hr1_2;have HC1_2:=qK hc1_2;clear hr1_2 hc1_2;have HR1_3:=qK hr1_3;have HC1_3:=qK hc1_3;clear hr1_3 hc1_3;have HR1_4:=qK hr1_4;have HC1_4:=qK hc1_4;clear hr1_4 hc1_4;have HB:=qK (Below.refl w.heap.size w);have H:((laws_eqStepS.f k l0_0 l1_0).bind fun t303=>(if t303=true then ((laws_eqStepS.f k l0_1 l1_1).bind fun t304=>(if t304=true then ((laws_eqStepS.f k l0_2 l1_2).bind fun t305=>(if t305=true then ((laws_eqIntS.f k l0_3 l1_3).bind fun t306=>(if t306=true then ((laws_eqIntS.f k l0_4 l1_4).bind fun t307=>(if t307=true then (some true) else (none))) else (none))) else (none))) else (none))) else (none)))=some r:=h;clear h;replace H:=Option.bind_eq_some_iff.mp H;obtain ⟨t303,A30,H⟩:=H;replace H:(if t303=true then ((laws_eqStepS.f k l0_1 l1_1).bind fun t304=>(if t304=true then ((laws_eqStepS.f k l0_2 l1_2).bind fun t305=>(if t305=true then ((laws_eqIntS.f k l0_3 l1_3).bind fun t306=>(if t306=true then ((laws_eqIntS.f k l0_4 l1_4).bind fun t307=>(if t307=true then (some true) else (none))) else (none))) else (none))) else (none))) else (none))=some r:=H;have A3:=qK A30;clear A30;by_cases c4:t303=true
 ·subst c4;have H1:((laws_eqStepS.f k l0_1 l1_1).bind fun t304=>(if t304=true then ((laws_eqStepS.f k l0_2 l1_2).bind fun t305=>(if t305=true then ((laws_eqIntS.f k l0_3 l1_3).bind fun t306=>(if t306=true then ((laws_eqIntS.f k l0_4 l1_4).bind fun t307=>(if t307=true then (some true) else (none))) else (none))) else (none))) else (none)))=some r:=by rw [if_pos rfl] at H;exact H
  clear H;have H:=H1;clear H1;replace H:=Option.bind_eq_some_iff.mp H;obtain ⟨t304,A50,H⟩:=H;replace H:(if t304=true then ((laws_eqStepS.f k l0_2 l1_2).bind fun t305=>(if t305=true then ((laws_eqIntS.f k l0_3 l1_3).bind fun t306=>(if t306=true then ((laws_eqIntS.f k l0_4 l1_4).bind fun t307=>(if t307=true then (some true) else (none))) else (none))) else (none))) else (none))=some r:=H;have A5:=qK A50;clear A50;by_cases c6:t304=true
  ·subst c6;have H1:((laws_eqStepS.f k l0_2 l1_2).bind fun t305=>(if t305=true then ((laws_eqIntS.f k l0_3 l1_3).bind fun t306=>(if t306=true then ((laws_eqIntS.f k l0_4 l1_4).bind fun t307=>(if t307=true then (some true) else (none))) else (none))) else (none)))=some r:=by rw [if_pos rfl] at H;exact H
   clear H;have H:=H1;clear H1;replace H:=Option.bind_eq_some_iff.mp H;obtain ⟨t305,A70,H⟩:=H;replace H:(if t305=true then ((laws_eqIntS.f k l0_3 l1_3).bind fun t306=>(if t306=true then ((laws_eqIntS.f k l0_4 l1_4).bind fun t307=>(if t307=true then (some true) else (none))) else (none))) else (none))=some r:=H;have A7:=qK A70;clear A70;by_cases c8:t305=true
   ·subst c8;have H1:((laws_eqIntS.f k l0_3 l1_3).bind fun t306=>(if t306=true then ((laws_eqIntS.f k l0_4 l1_4).bind fun t307=>(if t307=true then (some true) else (none))) else (none)))=some r:=by rw [if_pos rfl] at H;exact H
    clear H;have H:=H1;clear H1;replace H:=Option.bind_eq_some_iff.mp H;obtain ⟨t306,A90,H⟩:=H;replace H:(if t306=true then ((laws_eqIntS.f k l0_4 l1_4).bind fun t307=>(if t307=true then (some true) else (none))) else (none))=some r:=H;have A9:=qK A90;clear A90;by_cases c10:t306=true
    ·subst c10;have H1:((laws_eqIntS.f k l0_4 l1_4).bind fun t307=>(if t307=true then (some true) else (none)))=some r:=by rw [if_pos rfl] at H;exact H
     clear H;have H:=H1;clear H1;replace H:=Option.bind_eq_some_iff.mp H;obtain ⟨t307,A110,H⟩:=H;replace H:(if t307=true then (some true) else (none))=some r:=H;have A11:=qK A110;clear A110;by_cases c12:t307=true
     ·subst c12;have H1:(some true)=some r:=by rw [if_pos rfl] at H;exact H
      clear H;have H:=H1;clear H1;obtain rfl:=Option.some.inj H;go_enter Try.func10,Try.ntmps10
      go_wp2_with (first|((with_reducible refine gate_dst (N:=2) rfl ?_);refine box_event ?hg (N:=2) ?hd (cs:=#[.slice A0_0 l0_0.length c0_0,.slice A0_1 l0_1.length c0_1,.slice A0_2 l0_2.length c0_2,.slice A0_3 l0_3.length c0_3,.slice A0_4 l0_4.length c0_4]) (t:=31) ?hr ?_;(case hd=>rfl);(case hg=>rfl);(case hr=>(go_simp;try rfl));intro gb301 hg w13 hbox hb;have n0_:=qK (qT (by repeat (with_reducible first|exact HB.out|apply qA|apply qD|apply qO)) hb);have n1_:=qK (hbox);have n2_:=qK ((by rw [hg];exact (qZ (by repeat (with_reducible first|exact HB.out|apply qA|apply qD|apply qO))):w.heap.size≤gb301));have n3_:=qK ((by rw [hg];exact (qZ (by repeat (with_reducible first|exact HB.out|apply qA|apply qD|apply qO))):w.heap.size≤gb301));clear HB;have HB:=n0_;have BK301:=n1_;have GW301:=n2_;have GE301:=n3_;clear n0_ n1_ n2_ n3_;clear hb hbox hg)|((with_reducible refine gate_dst (N:=3) rfl ?_);refine box_event ?hg (N:=3) ?hd (cs:=#[.slice A1_0 l1_0.length c1_0,.slice A1_1 l1_1.length c1_1,.slice A1_2 l1_2.length c1_2,.slice A1_3 l1_3.length c1_3,.slice A1_4 l1_4.length c1_4]) (t:=31) ?hr ?_;(case hd=>rfl);(case hg=>rfl);(case hr=>(go_simp;try rfl));intro gb302 hg w14 hbox hb;have n0_:=qK (qB (g:=gb301) (o:=_) (by (with_reducible repeat (first|refine qN ?_ _|refine qW ?_|refine qL ?_ _));exact BK301.out) hb);have n1_:=qK (qT (by repeat (with_reducible first|exact HB.out|apply qA|apply qD|apply qO|refine qS ?_ GE301.out)) hb);have n2_:=qK (hbox);have n3_:=qK ((by rw [hg];exact (qZ (by repeat (with_reducible first|exact HB.out|apply qA|apply qD|apply qO|refine qS ?_ GE301.out))):w.heap.size≤gb302));have n4_:=qK ((by rw [hg];exact (qZ (by repeat (with_reducible first|exact HB.out|apply qA|apply qD|apply qO|refine qS ?_ GE301.out))):w.heap.size≤gb302));have n5_:=qK ((by rw [hg];exact Nat.ne_of_lt (blk_lt (g:=gb301) (o:=_) (by (with_reducible repeat (first|refine qN ?_ _|refine qW ?_|refine qL ?_ _));exact BK301.out)):gb301 ≠ gb302));have n6_:=qK ((by rw [hg];exact Nat.ne_of_gt (blk_lt (g:=gb301) (o:=_) (by (with_reducible repeat (first|refine qN ?_ _|refine qW ?_|refine qL ?_ _));exact BK301.out)):gb302 ≠ gb301));clear BK301;clear HB;have BK301:=n0_;have HB:=n1_;have BK302:=n2_;have GW302:=n3_;have GE302:=n4_;have NB301_302:=n5_;have NB302_301:=n6_;clear n0_ n1_ n2_ n3_ n4_ n5_ n6_;clear hb hbox hg;have hnb15:=NB301_302.out;have hnc15:=NB302_301.out;have hcz16_0:w14.cell? ⟨gb301,0,none⟩=some (.slice A0_0 l0_0.length c0_0):=(qC BK301.out 0).trans rfl;have hcz16_1:w14.cell? ⟨gb301,1,none⟩=some (.slice A0_1 l0_1.length c0_1):=(qC BK301.out 1).trans rfl;have hcz16_2:w14.cell? ⟨gb301,2,none⟩=some (.slice A0_2 l0_2.length c0_2):=(qC BK301.out 2).trans rfl;have hcz16_3:w14.cell? ⟨gb301,3,none⟩=some (.slice A0_3 l0_3.length c0_3):=(qC BK301.out 3).trans rfl;have hcz16_4:w14.cell? ⟨gb301,4,none⟩=some (.slice A0_4 l0_4.length c0_4):=(qC BK301.out 4).trans rfl;have hfz16_0:=qF BK301.out 0;have hfz16_1:=qF BK301.out 1;have hfz16_2:=qF BK301.out 2;have hfz16_3:=qF BK301.out 3;have hfz16_4:=qF BK301.out 4;have hcz17_0:w14.cell? ⟨gb302,0,none⟩=some (.slice A1_0 l1_0.length c1_0):=(qC BK302.out 0).trans rfl;have hcz17_1:w14.cell? ⟨gb302,1,none⟩=some (.slice A1_1 l1_1.length c1_1):=(qC BK302.out 1).trans rfl;have hcz17_2:w14.cell? ⟨gb302,2,none⟩=some (.slice A1_2 l1_2.length c1_2):=(qC BK302.out 2).trans rfl;have hcz17_3:w14.cell? ⟨gb302,3,none⟩=some (.slice A1_3 l1_3.length c1_3):=(qC BK302.out 3).trans rfl;have hcz17_4:w14.cell? ⟨gb302,4,none⟩=some (.slice A1_4 l1_4.length c1_4):=(qC BK302.out 4).trans rfl;have hfz17_0:=qF BK302.out 0;have hfz17_1:=qF BK302.out 1;have hfz17_2:=qF BK302.out 2;have hfz17_3:=qF BK302.out 3;have hfz17_4:=qF BK302.out 4)|((with_reducible refine gate_callee (f:=9) rfl ?_);refine goesL_ (some 9) rfl rfl Try.func9 (by kernel_rfl) rfl #[.slice A0_0 l0_0.length c0_0,.slice A1_0 l1_0.length c1_0] rfl (by (try simp only [mT,mC,mN]);first|done|rfl|(simp only [lD,lT];rfl)) ?_;(with_reducible refine (laws_eqStepS.calls k _ _ l0_0 _ _ l1_0 true _ ?side1 ?side2 ?side3 ?side4 A3.out).mono ?_);(case side1=>repeat (first|exact (cB HR0_0.out HB.out)|(with_reducible first|refine cL ?_ _|refine cN ?_ _|refine cW ?_)));(case side2=>exact HC0_0.out);(case side3=>repeat (first|exact (cB HR1_0.out HB.out)|(with_reducible first|refine cL ?_ _|refine cN ?_ _|refine cW ?_)));(case side4=>exact HC1_0.out);rintro e w18 ⟨rfl,hb⟩;refine ⟨_,rfl,?_⟩;have n0_:=qK (qB (g:=gb301) (o:=_) (by (with_reducible repeat (first|refine qN ?_ _|refine qW ?_|refine qL ?_ _));exact BK301.out) hb);have n1_:=qK (qB (g:=gb302) (o:=_) (by (with_reducible repeat (first|refine qN ?_ _|refine qW ?_|refine qL ?_ _));exact BK302.out) hb);have n2_:=qK (qT (by repeat (with_reducible first|exact HB.out|apply qA|apply qD|apply qO|refine qS ?_ GE301.out|refine qS ?_ GE302.out)) hb);clear BK301;clear BK302;clear HB;have BK301:=n0_;have BK302:=n1_;have HB:=n2_;clear n0_ n1_ n2_;(try clear hb);(try clear hb2);(try clear hk);(try clear hi);have hcz19_0:w18.cell? ⟨gb301,0,none⟩=some (.slice A0_0 l0_0.length c0_0):=(qC BK301.out 0).trans rfl;have hcz19_1:w18.cell? ⟨gb301,1,none⟩=some (.slice A0_1 l0_1.length c0_1):=(qC BK301.out 1).trans rfl;have hcz19_2:w18.cell? ⟨gb301,2,none⟩=some (.slice A0_2 l0_2.length c0_2):=(qC BK301.out 2).trans rfl;have hcz19_3:w18.cell? ⟨gb301,3,none⟩=some (.slice A0_3 l0_3.length c0_3):=(qC BK301.out 3).trans rfl;have hcz19_4:w18.cell? ⟨gb301,4,none⟩=some (.slice A0_4 l0_4.length c0_4):=(qC BK301.out 4).trans rfl;have hfz19_0:=qF BK301.out 0;have hfz19_1:=qF BK301.out 1;have hfz19_2:=qF BK301.out 2;have hfz19_3:=qF BK301.out 3;have hfz19_4:=qF BK301.out 4;have hcz20_0:w18.cell? ⟨gb302,0,none⟩=some (.slice A1_0 l1_0.length c1_0):=(qC BK302.out 0).trans rfl;have hcz20_1:w18.cell? ⟨gb302,1,none⟩=some (.slice A1_1 l1_1.length c1_1):=(qC BK302.out 1).trans rfl;have hcz20_2:w18.cell? ⟨gb302,2,none⟩=some (.slice A1_2 l1_2.length c1_2):=(qC BK302.out 2).trans rfl;have hcz20_3:w18.cell? ⟨gb302,3,none⟩=some (.slice A1_3 l1_3.length c1_3):=(qC BK302.out 3).trans rfl;have hcz20_4:w18.cell? ⟨gb302,4,none⟩=some (.slice A1_4 l1_4.length c1_4):=(qC BK302.out 4).trans rfl;have hfz20_0:=qF BK302.out 0;have hfz20_1:=qF BK302.out 1;have hfz20_2:=qF BK302.out 2;have hfz20_3:=qF BK302.out 3;have hfz20_4:=qF BK302.out 4)|((with_reducible refine gate_callee (f:=9) rfl ?_);refine goesL_ (some 15) rfl rfl Try.func9 (by kernel_rfl) rfl #[.slice A0_1 l0_1.length c0_1,.slice A1_1 l1_1.length c1_1] rfl (by (try simp only [mT,mC,mN]);first|done|rfl|(simp only [lD,lT];rfl)) ?_;(with_reducible refine (laws_eqStepS.calls k _ _ l0_1 _ _ l1_1 true _ ?side1 ?side2 ?side3 ?side4 A5.out).mono ?_);(case side1=>repeat (first|exact (cB HR0_1.out HB.out)|(with_reducible first|refine cL ?_ _|refine cN ?_ _|refine cW ?_)));(case side2=>exact HC0_1.out);(case side3=>repeat (first|exact (cB HR1_1.out HB.out)|(with_reducible first|refine cL ?_ _|refine cN ?_ _|refine cW ?_)));(case side4=>exact HC1_1.out);rintro e w21 ⟨rfl,hb⟩;refine ⟨_,rfl,?_⟩;have n0_:=qK (qB (g:=gb301) (o:=_) (by (with_reducible repeat (first|refine qN ?_ _|refine qW ?_|refine qL ?_ _));exact BK301.out) hb);have n1_:=qK (qB (g:=gb302) (o:=_) (by (with_reducible repeat (first|refine qN ?_ _|refine qW ?_|refine qL ?_ _));exact BK302.out) hb);have n2_:=qK (qT (by repeat (with_reducible first|exact HB.out|apply qA|apply qD|apply qO|refine qS ?_ GE301.out|refine qS ?_ GE302.out)) hb);clear BK301;clear BK302;clear HB;have BK301:=n0_;have BK302:=n1_;have HB:=n2_;clear n0_ n1_ n2_;(try clear hb);(try clear hb2);(try clear hk);(try clear hi);have hcz22_0:w21.cell? ⟨gb301,0,none⟩=some (.slice A0_0 l0_0.length c0_0):=(qC BK301.out 0).trans rfl;have hcz22_1:w21.cell? ⟨gb301,1,none⟩=some (.slice A0_1 l0_1.length c0_1):=(qC BK301.out 1).trans rfl;have hcz22_2:w21.cell? ⟨gb301,2,none⟩=some (.slice A0_2 l0_2.length c0_2):=(qC BK301.out 2).trans rfl;have hcz22_3:w21.cell? ⟨gb301,3,none⟩=some (.slice A0_3 l0_3.length c0_3):=(qC BK301.out 3).trans rfl;have hcz22_4:w21.cell? ⟨gb301,4,none⟩=some (.slice A0_4 l0_4.length c0_4):=(qC BK301.out 4).trans rfl;have hfz22_0:=qF BK301.out 0;have hfz22_1:=qF BK301.out 1;have hfz22_2:=qF BK301.out 2;have hfz22_3:=qF BK301.out 3;have hfz22_4:=qF BK301.out 4;have hcz23_0:w21.cell? ⟨gb302,0,none⟩=some (.slice A1_0 l1_0.length c1_0):=(qC BK302.out 0).trans rfl;have hcz23_1:w21.cell? ⟨gb302,1,none⟩=some (.slice A1_1 l1_1.length c1_1):=(qC BK302.out 1).trans rfl;have hcz23_2:w21.cell? ⟨gb302,2,none⟩=some (.slice A1_2 l1_2.length c1_2):=(qC BK302.out 2).trans rfl;have hcz23_3:w21.cell? ⟨gb302,3,none⟩=some (.slice A1_3 l1_3.length c1_3):=(qC BK302.out 3).trans rfl;have hcz23_4:w21.cell? ⟨gb302,4,none⟩=some (.slice A1_4 l1_4.length c1_4):=(qC BK302.out 4).trans rfl;have hfz23_0:=qF BK302.out 0;have hfz23_1:=qF BK302.out 1;have hfz23_2:=qF BK302.out 2;have hfz23_3:=qF BK302.out 3;have hfz23_4:=qF BK302.out 4)|((with_reducible refine gate_callee (f:=9) rfl ?_);refine goesL_ (some 21) rfl rfl Try.func9 (by kernel_rfl) rfl #[.slice A0_2 l0_2.length c0_2,.slice A1_2 l1_2.length c1_2] rfl (by (try simp only [mT,mC,mN]);first|done|rfl|(simp only [lD,lT];rfl)) ?_;(with_reducible refine (laws_eqStepS.calls k _ _ l0_2 _ _ l1_2 true _ ?side1 ?side2 ?side3 ?side4 A7.out).mono ?_);(case side1=>repeat (first|exact (cB HR0_2.out HB.out)|(with_reducible first|refine cL ?_ _|refine cN ?_ _|refine cW ?_)));(case side2=>exact HC0_2.out);(case side3=>repeat (first|exact (cB HR1_2.out HB.out)|(with_reducible first|refine cL ?_ _|refine cN ?_ _|refine cW ?_)));(case side4=>exact HC1_2.out);rintro e w24 ⟨rfl,hb⟩;refine ⟨_,rfl,?_⟩;have n0_:=qK (qB (g:=gb301) (o:=_) (by (with_reducible repeat (first|refine qN ?_ _|refine qW ?_|refine qL ?_ _));exact BK301.out) hb);have n1_:=qK (qB (g:=gb302) (o:=_) (by (with_reducible repeat (first|refine qN ?_ _|refine qW ?_|refine qL ?_ _));exact BK302.out) hb);have n2_:=qK (qT (by repeat (with_reducible first|exact HB.out|apply qA|apply qD|apply qO|refine qS ?_ GE301.out|refine qS ?_ GE302.out)) hb);clear BK301;clear BK302;clear HB;have BK301:=n0_;have BK302:=n1_;have HB:=n2_;clear n0_ n1_ n2_;(try clear hb);(try clear hb2);(try clear hk);(try clear hi);have hcz25_0:w24.cell? ⟨gb301,0,none⟩=some (.slice A0_0 l0_0.length c0_0):=(qC BK301.out 0).trans rfl;have hcz25_1:w24.cell? ⟨gb301,1,none⟩=some (.slice A0_1 l0_1.length c0_1):=(qC BK301.out 1).trans rfl;have hcz25_2:w24.cell? ⟨gb301,2,none⟩=some (.slice A0_2 l0_2.length c0_2):=(qC BK301.out 2).trans rfl;have hcz25_3:w24.cell? ⟨gb301,3,none⟩=some (.slice A0_3 l0_3.length c0_3):=(qC BK301.out 3).trans rfl;have hcz25_4:w24.cell? ⟨gb301,4,none⟩=some (.slice A0_4 l0_4.length c0_4):=(qC BK301.out 4).trans rfl;have hfz25_0:=qF BK301.out 0;have hfz25_1:=qF BK301.out 1;have hfz25_2:=qF BK301.out 2;have hfz25_3:=qF BK301.out 3;have hfz25_4:=qF BK301.out 4;have hcz26_0:w24.cell? ⟨gb302,0,none⟩=some (.slice A1_0 l1_0.length c1_0):=(qC BK302.out 0).trans rfl;have hcz26_1:w24.cell? ⟨gb302,1,none⟩=some (.slice A1_1 l1_1.length c1_1):=(qC BK302.out 1).trans rfl;have hcz26_2:w24.cell? ⟨gb302,2,none⟩=some (.slice A1_2 l1_2.length c1_2):=(qC BK302.out 2).trans rfl;have hcz26_3:w24.cell? ⟨gb302,3,none⟩=some (.slice A1_3 l1_3.length c1_3):=(qC BK302.out 3).trans rfl;have hcz26_4:w24.cell? ⟨gb302,4,none⟩=some (.slice A1_4 l1_4.length c1_4):=(qC BK302.out 4).trans rfl;have hfz26_0:=qF BK302.out 0;have hfz26_1:=qF BK302.out 1;have hfz26_2:=qF BK302.out 2;have hfz26_3:=qF BK302.out 3;have hfz26_4:=qF BK302.out 4)|((with_reducible refine gate_callee (f:=31) rfl ?_);refine goesL_ (some 27) rfl rfl Try.func31 (by kernel_rfl) rfl #[.slice A0_3 l0_3.length c0_3,.slice A1_3 l1_3.length c1_3] rfl (by (try simp only [mT,mC,mN]);first|done|rfl|(simp only [lD,lT];rfl)) ?_;(with_reducible refine (laws_eqIntS.calls k _ _ l0_3 _ _ l1_3 true _ ?side1 ?side2 ?side3 ?side4 A9.out).mono ?_);(case side1=>repeat (first|exact (cB HR0_3.out HB.out)|(with_reducible first|refine cL ?_ _|refine cN ?_ _|refine cW ?_)));(case side2=>exact HC0_3.out);(case side3=>repeat (first|exact (cB HR1_3.out HB.out)|(with_reducible first|refine cL ?_ _|refine cN ?_ _|refine cW ?_)));(case side4=>exact HC1_3.out);rintro e w' ⟨rfl,⟨nd,rfl⟩⟩;refine ⟨_,rfl,?_⟩)|((with_reducible refine gate_callee (f:=31) rfl ?_);refine goesL_ (some 33) rfl rfl Try.func31 (by kernel_rfl) rfl #[.slice A0_4 l0_4.length c0_4,.slice A1_4 l1_4.length c1_4] rfl (by (try simp only [mT,mC,mN]);first|done|rfl|(simp only [lD,lT];rfl)) ?_;(with_reducible refine (laws_eqIntS.calls k _ _ l0_4 _ _ l1_4 true _ ?side1 ?side2 ?side3 ?side4 A11.out).mono ?_);(case side1=>repeat (first|exact (cB HR0_4.out (by repeat (with_reducible first|exact HB.out|apply qA|apply qD|apply qO|refine qS ?_ GE301.out|refine qS ?_ GE302.out)))|(with_reducible first|refine cL ?_ _|refine cN ?_ _|refine cW ?_)));(case side2=>exact HC0_4.out);(case side3=>repeat (first|exact (cB HR1_4.out (by repeat (with_reducible first|exact HB.out|apply qA|apply qD|apply qO|refine qS ?_ GE301.out|refine qS ?_ GE302.out)))|(with_reducible first|refine cL ?_ _|refine cN ?_ _|refine cW ?_)));(case side4=>exact HC1_4.out);rintro e w' ⟨rfl,⟨nd,rfl⟩⟩;refine ⟨_,rfl,?_⟩))
      go_ret
      exact ⟨by first|rfl|(simp [errW_none,errW_some] <;> rfl)|(simp [*,errW_none,errW_some] <;> rfl),by repeat (first|(with_reducible first|exact HB.out|apply qA|apply qD|apply qO|refine qS ?_ GE301.out|refine qS ?_ GE302.out)|exact HB.out)⟩
     ·replace c12:=Bool.eq_false_iff.mpr c12;subst c12;have H1:(none)=some r:=by rw [if_neg (show ¬ (false=true) by decide)] at H;exact H
      clear H;have H:=H1;clear H1;exact absurd H (by simp)
    ·replace c10:=Bool.eq_false_iff.mpr c10;subst c10;have H1:(none)=some r:=by rw [if_neg (show ¬ (false=true) by decide)] at H;exact H
     clear H;have H:=H1;clear H1;exact absurd H (by simp)
   ·replace c8:=Bool.eq_false_iff.mpr c8;subst c8;have H1:(none)=some r:=by rw [if_neg (show ¬ (false=true) by decide)] at H;exact H
    clear H;have H:=H1;clear H1;exact absurd H (by simp)
  ·replace c6:=Bool.eq_false_iff.mpr c6;subst c6;have H1:(none)=some r:=by rw [if_neg (show ¬ (false=true) by decide)] at H;exact H
   clear H;have H:=H1;clear H1;exact absurd H (by simp)
 ·replace c4:=Bool.eq_false_iff.mpr c4;subst c4;have H1:(none)=some r:=by rw [if_neg (show ¬ (false=true) by decide)] at H;exact H
  clear H;have H:=H1;clear H1;exact absurd H (by simp)

/-! ### laws_markStepS: function 12 -/
def laws_markStepS.l0 : Nat→List (S47)→Int→Int→Option (Int × (List (S47)))
 | 0,_,_,_=>none
 | k + 1,x0,x1,x5=>if x5 < (x0.length:Int) then (if 0≤x5 then ((some (x0.set (x5:Int).toNat (⟨x1,(rd_T47 x0 x5).f1,(rd_T47 x0 x5).f2⟩:S47):List (S47))).bind fun y308=>((some (y308.set (x5:Int).toNat (⟨(rd_T47 y308 x5).f0,wrap64 (x1 + 1),(rd_T47 y308 x5).f2⟩:S47):List (S47))).bind fun y309=>(laws_markStepS.l0 k (y309.set (x5:Int).toNat (⟨(rd_T47 y309 x5).f0,(rd_T47 y309 x5).f1,wrap64 ((wrap64 (x1 + 1)) + 1)⟩:S47)) (wrap64 ((wrap64 ((wrap64 (x1 + 1)) + 1)) + 1)) (wrap64 (x5 + 1))))) else (none)) else (some (x1,x0))
def laws_markStepS.f (k:Nat) (l0:List (S47)) (a1:Int):Option (Int × (List (S47))):=laws_markStepS.l0 k l0 a1 0
theorem laws_markStepS.mono_l : ∀ k,(∀ y0 y1 y2,LeO (laws_markStepS.l0 k y0 y1 y2) (laws_markStepS.l0 (k + 1) y0 y1 y2))
 | 0=>fun _ _ _ r h=>by simp [laws_markStepS.l0] at h
 | k + 1=>by
  have ih0:=laws_markStepS.mono_l k
  ·intro y0 y1 y2;unfold laws_markStepS.l0
   repeat' first
   | (with_reducible exact ih0 _ _ _)
   | (with_reducible exact LeO.refl _)
   | (with_reducible exact LeO.none _)
   | (with_reducible refine LeO.ite ?_ ?_)
   | (with_reducible refine LeO.bind ?_ (fun _=>?_))
   | exact ih0 _ _ _
   | exact LeO.none _
   | refine LeO.ite ?_ ?_
   | refine LeO.bind ?_ (fun _=>?_)
theorem laws_markStepS.mono : ∀ a0 a1 k,LeO (laws_markStepS.f k a0 a1) (laws_markStepS.f (k + 1) a0 a1):=by
 intro a0 a1 k;have ih0:=laws_markStepS.mono_l k;unfold laws_markStepS.f
 repeat' first
   | (with_reducible exact ih0 _ _ _)
   | (with_reducible exact LeO.refl _)
   | (with_reducible exact LeO.none _)
   | (with_reducible refine LeO.ite ?_ ?_)
   | (with_reducible refine LeO.bind ?_ (fun _=>?_))
   | exact ih0 _ _ _
   | exact LeO.none _
   | refine LeO.ite ?_ ?_
   | refine LeO.bind ?_ (fun _=>?_)
set_option maxHeartbeats 8000000 in
set_option maxRecDepth 100000 in
theorem laws_markStepS.calls (k:Nat) (P0_:Nat→Prop) (u9000_:Value) (l0:List (S47)) (a1:Int) (r1:Int) (r2:List (S47)) (w0 w:World) (hB:Below w0.heap.size w0 w) (ho0:Kd.R k47 47 w w0.heap.size P0_ u9000_ l0) (h:laws_markStepS.f k l0 a1=some (r1,r2)) :
  Calls Try.prog 12 #[u9000_,.int .i64 a1] w fun e w'=>e=.returned (.int .i64 r1)∧Kd.R k47 47 w' w0.heap.size (fun k_=>(P0_ k_ ∨ w.heap.size≤k_)) u9000_ r2∧Below w0.heap.size w0 w'∧Kept w w' (fun k_=>P0_ k_):=by
 have HO0:=qK (show Kd.R k47 47 w w0.heap.size (fun k_=>(P0_ k_ ∨ w.heap.size≤k_)) u9000_ l0 from Kd.R_mono ho0 (fun k_ hk=>(.inl hk)));have HK:=qK (Kept.refl w (fun k_=>P0_ k_));have HW0:=qK hB.size;have HB:=qK hB;clear hB;have H:(laws_markStepS.l0 k l0 a1 0)=some (r1,r2):=h;clear h;have H':=qK H;clear H;go_enter Try.func12,Try.ntmps12
 go_wp2
 go_loopg [1,5] k (fun kq v1 v5 w'=>∃ (x0_1:List (S47)) (x1_1:Int) (x5_1:Int),v1=.int .i64 x1_1∧v5=.int .i64 x5_1∧Aside0 (laws_markStepS.l0 kq x0_1 x1_1 x5_1=some (r1,r2))∧Aside0 (kq≤k)∧Aside0 (Kd.R k47 47 w' w0.heap.size (fun k_=>(P0_ k_ ∨ w.heap.size≤k_)) u9000_ x0_1)∧Aside0 (Kept w w' (fun k_=>P0_ k_))∧Aside0 (Below w0.heap.size w0 w'))
 case atStart=>exact ⟨(l0),(a1),(0),(by first|rfl|(simp;done)|(simp [*];done)),(by first|rfl|(simp;done)|(simp [*];done)),H',⟨Nat.le_refl _⟩,⟨by (with_reducible repeat (first|apply rL|apply rN|apply rW));exact HO0.out⟩,⟨by repeat (first|(with_reducible first|exact HK.out|apply Kept.alloc|apply Kept.drewN|apply Kept.drew)|exact HK.out)⟩,⟨by repeat (first|(with_reducible first|exact HB.out|apply qA|apply qD|apply qO)|exact HB.out)⟩⟩
 case round =>
  clear H';try clear c1
  try clear p2
  obtain ⟨x0_1,x1_1,x5_1,rfl,rfl,HA,HK1,HO_0,HK,HB⟩:=hrel;cases gk with
  | zero=>exact absurd HA.out (by simp [laws_markStepS.l0])
  | succ k1 =>
   have H:=HA.out;clear HA;simp only [laws_markStepS.l0] at H;by_cases c3:x5_1 < (x0_1.length:Int)
   ·rw [if_pos c3] at H;have c3b0:decide (x5_1 < (x0_1.length:Int))=true:=decide_eq_true c3;clear c3;by_cases c4:0≤x5_1
    ·rw [if_pos c4] at H;have c4b0:decide (0≤x5_1)=true:=decide_eq_true c4;clear c4;obtain ⟨y308,hy308⟩:∃ y_:List (S47),y_=(x0_1.set (x5_1:Int).toNat (⟨x1_1,(rd_T47 x0_1 x5_1).f1,(rd_T47 x0_1 x5_1).f2⟩:S47)):=⟨_,rfl⟩;replace H:((some (y308.set (x5_1:Int).toNat (⟨(rd_T47 y308 x5_1).f0,wrap64 (x1_1 + 1),(rd_T47 y308 x5_1).f2⟩:S47):List (S47))).bind fun y309=>(laws_markStepS.l0 k1 (y309.set (x5_1:Int).toNat (⟨(rd_T47 y309 x5_1).f0,(rd_T47 y309 x5_1).f1,wrap64 ((wrap64 (x1_1 + 1)) + 1)⟩:S47)) (wrap64 ((wrap64 ((wrap64 (x1_1 + 1)) + 1)) + 1)) (wrap64 (x5_1 + 1))))=some (r1,r2):=by first|(rw [hy308];with_reducible exact H)|(have H2_:=(Option.bind_some _ _).symm.trans H;rw [hy308];with_reducible exact H2_)|(have H2_:=(Option.bind_some _ _).symm.trans H;with_reducible exact H2_)|with_reducible exact H|(rw [hy308];exact H)|exact H
     have Ny308:=qK hy308;clear hy308;obtain ⟨y309,hy309⟩:∃ y_:List (S47),y_=(y308.set (x5_1:Int).toNat (⟨(rd_T47 y308 x5_1).f0,wrap64 (x1_1 + 1),(rd_T47 y308 x5_1).f2⟩:S47)):=⟨_,rfl⟩;replace H:(laws_markStepS.l0 k1 (y309.set (x5_1:Int).toNat (⟨(rd_T47 y309 x5_1).f0,(rd_T47 y309 x5_1).f1,wrap64 ((wrap64 (x1_1 + 1)) + 1)⟩:S47)) (wrap64 ((wrap64 ((wrap64 (x1_1 + 1)) + 1)) + 1)) (wrap64 (x5_1 + 1)))=some (r1,r2):=by first|(rw [hy309];with_reducible exact H)|(have H2_:=(Option.bind_some _ _).symm.trans H;rw [hy309];with_reducible exact H2_)|(have H2_:=(Option.bind_some _ _).symm.trans H;with_reducible exact H2_)|with_reducible exact H|(rw [hy309];exact H)|exact H
     have Ny309:=qK hy309;clear hy309;obtain ⟨y310,hy310⟩:∃ y_:List (S47),y_=(y309.set (x5_1:Int).toNat (⟨(rd_T47 y309 x5_1).f0,(rd_T47 y309 x5_1).f1,wrap64 ((wrap64 (x1_1 + 1)) + 1)⟩:S47)):=⟨_,rfl⟩;replace H:(laws_markStepS.l0 k1 y310 (wrap64 ((wrap64 ((wrap64 (x1_1 + 1)) + 1)) + 1)) (wrap64 (x5_1 + 1)))=some (r1,r2):=by first|(rw [hy310];with_reducible exact H)|(have H2_:=(Option.bind_some _ _).symm.trans H;rw [hy310];with_reducible exact H2_)|(have H2_:=(Option.bind_some _ _).symm.trans H;with_reducible exact H2_)|with_reducible exact H|(rw [hy310];exact H)|exact H
     have Ny310:=qK hy310;clear hy310;have H':=qK H;clear H;obtain ⟨Ao8,co8,eo8⟩:=Kd.R_slice HO_0.out;subst eo8;have p5:0≤(x5_1:Int):=of_decide_eq_true (by first|(with_reducible assumption)|assumption);have q5:(x5_1:Int) < ((x0_1.length:Int):Int):=of_decide_eq_true (by first|(with_reducible assumption)|assumption);obtain ⟨go5,co5,eo5,gb5,gl5,cl5,HG5⟩:=Kd.R_form HO_0.out (by omega);(first|cases eo5|(injection eo5 with ea_ en_ ec_;(first|subst ea_|(injection ea_ with ea_;subst ea_));subst ec_;clear en_));have GB5:=qK gb5;have GG5:=qK HG5;clear gb5 gl5 HG5;have HMgo5:=qK (show (P0_ go5 ∨ w.heap.size≤go5) from (HO_0.out.1 _ rfl));obtain ⟨ce5,hcl5,hM5,hcc5,hfr5⟩:=Kd.R_elem HO_0.out z47 (x5_1:Int) p5 q5;obtain rfl:=k47_openM hM5;have hx5_0:wr.cell? ⟨go5,(x5_1:Int).toNat * 3,none⟩=some (.int .i64 ((rd_T47 x0_1 x5_1).f0)):=hcc5 0 _ rfl;have hx5_1:wr.cell? ⟨go5,(x5_1:Int).toNat * 3 + 1,none⟩=some (.int .i64 ((rd_T47 x0_1 x5_1).f1)):=hcc5 1 _ rfl;have hx5_2:wr.cell? ⟨go5,(x5_1:Int).toNat * 3 + 2,none⟩=some (.int .i64 ((rd_T47 x0_1 x5_1).f2)):=hcc5 2 _ rfl;have hf5_0:wr.frozen? ⟨go5,(x5_1:Int).toNat * 3,none⟩=false:=hfr5 0;have hf5_1:wr.frozen? ⟨go5,(x5_1:Int).toNat * 3 + 1,none⟩=false:=hfr5 1;have hf5_2:wr.frozen? ⟨go5,(x5_1:Int).toNat * 3 + 2,none⟩=false:=hfr5 2;clear hcl5 hcc5 hfr5 hM5;replace p5:=eq_true p5;replace q5:=eq_true q5;have HX9:=qK (show Kd.R k47 47 wr w0.heap.size (fun k_=>(P0_ k_ ∨ w.heap.size≤k_)) (.slice (some ⟨go5,0,none⟩) x0_1.length co8) x0_1 from (by (with_reducible repeat (first|apply rL|apply rN|apply rW));exact HO_0.out));obtain ⟨ce9,hcl9,hM9,hcc9,hfr9⟩:=Kd.R_elem HX9.out z47 (x5_1:Int) (of_decide_eq_true (by first|(with_reducible assumption)|assumption)) (by have h_:(x5_1:Int) < ((x0_1.length:Int):Int):=of_decide_eq_true (by first|(with_reducible assumption)|assumption);first|exact h_|(have e_:=(Kd.R_reads' HO_0.out).1;omega)|simpa using h_);obtain rfl:=k47_openM hM9;have HP9:=Kd.R_seg HX9.out (x5_1:Int) (of_decide_eq_true (by first|(with_reducible assumption)|assumption)) (by have h_:(x5_1:Int) < ((x0_1.length:Int):Int):=of_decide_eq_true (by first|(with_reducible assumption)|assumption);first|exact h_|(have e_:=(Kd.R_reads' HO_0.out).1;omega)|simpa using h_) (seg:=[.int .i64 x1_1]) (j:=0) hcl9 hcc9 (show 1≤3 from by decide) (x':=(⟨x1_1,(rd_T47 x0_1 x5_1).f1,(rd_T47 x0_1 x5_1).f2⟩:S47)) (k47_mkM _ _ _ (⟨x1_1,(rd_T47 x0_1 x5_1).f1,(rd_T47 x0_1 x5_1).f2⟩:S47) ) (fun _ hk=>hk);have hx9_0:=hcc9 0 _ rfl;(try simp only [show (k47).sz=3 from rfl,Nat.mul_one,Nat.add_zero] at hx9_0);have hf9_0:=hfr9 0;(try simp only [show (k47).sz=3 from rfl,Nat.mul_one,Nat.add_zero] at hf9_0);clear hcl9 hcc9 hfr9 hM9;go_wp2_with (first|((with_reducible refine gate_store (t:=3) (p:=16) rfl ?_);refine store_event (t:=3) (p:=16) (v:=?vo_w10) (w1:=(wr.setCell ⟨go5,(x5_1:Int).toNat * 3,none⟩ (.int .i64 x1_1))) ?hg ?ho ?hn ?hr ?_;(case ho=>rfl);(case hg=>rfl);(case hn=>rfl);(case hr=>(go_simp;try rfl));intro w10 hw;have hg:wr.grownBy w10 (some go5):=(by rw [hw];exact HP9.2);have hp_:Kd.R k47 47 w10 w0.heap.size (fun k_=>(P0_ k_ ∨ w.heap.size≤k_)) (.slice (some ⟨go5,0,none⟩) x0_1.length co8) y308:=(by rw [hw,Ny308.out];exact HP9.1);clear HP9;have n0_:=qK (hp_);have n1_:=qK ((by rw [hw];exact qS (HB.out) GB5.out:Below w0.heap.size w0 w10));have n2_:=qK (Kept.of_grown (S:=(fun k_=>P0_ k_)) hg (by repeat (first|(with_reducible first|exact HK.out|apply Kept.alloc|apply Kept.drewN|apply Kept.drew)|exact HK.out)) (fun k_ e_=>(HO_0.out.1 k_ e_)));clear HO_0;clear HB;clear HK;have HO_0:=n0_;have HB:=n1_;have HK:=n2_;clear n0_ n1_ n2_;clear hg hw hp_;have p6:0≤(x5_1:Int):=of_decide_eq_true (by first|(with_reducible assumption)|assumption);have q6:(x5_1:Int) < ((x0_1.length:Int):Int):=of_decide_eq_true (by first|(with_reducible assumption)|assumption);obtain ⟨ce6,hcl6,hM6,hcc6,hfr6⟩:=Kd.R_elem HO_0.out z47 (x5_1:Int) p6 q6;obtain rfl:=k47_openM hM6;have hx6_0:w10.cell? ⟨go5,(x5_1:Int).toNat * 3,none⟩=some (.int .i64 ((rd_T47 y308 x5_1).f0)):=hcc6 0 _ rfl;have hx6_1:w10.cell? ⟨go5,(x5_1:Int).toNat * 3 + 1,none⟩=some (.int .i64 ((rd_T47 y308 x5_1).f1)):=hcc6 1 _ rfl;have hx6_2:w10.cell? ⟨go5,(x5_1:Int).toNat * 3 + 2,none⟩=some (.int .i64 ((rd_T47 y308 x5_1).f2)):=hcc6 2 _ rfl;have hf6_0:w10.frozen? ⟨go5,(x5_1:Int).toNat * 3,none⟩=false:=hfr6 0;have hf6_1:w10.frozen? ⟨go5,(x5_1:Int).toNat * 3 + 1,none⟩=false:=hfr6 1;have hf6_2:w10.frozen? ⟨go5,(x5_1:Int).toNat * 3 + 2,none⟩=false:=hfr6 2;clear hcl6 hcc6 hfr6 hM6;replace p6:=eq_true p6;replace q6:=eq_true q6;have HX11:=qK (show Kd.R k47 47 w10 w0.heap.size (fun k_=>(P0_ k_ ∨ w.heap.size≤k_)) (.slice (some ⟨go5,0,none⟩) x0_1.length co8) y308 from (by (with_reducible repeat (first|apply rL|apply rN|apply rW));exact HO_0.out));obtain ⟨ce11,hcl11,hM11,hcc11,hfr11⟩:=Kd.R_elem HX11.out z47 (x5_1:Int) (of_decide_eq_true (by first|(with_reducible assumption)|assumption)) (by have h_:(x5_1:Int) < ((x0_1.length:Int):Int):=of_decide_eq_true (by first|(with_reducible assumption)|assumption);first|exact h_|(have e_:=(Kd.R_reads' HO_0.out).1;omega)|simpa using h_);obtain rfl:=k47_openM hM11;have HP11:=Kd.R_seg HX11.out (x5_1:Int) (of_decide_eq_true (by first|(with_reducible assumption)|assumption)) (by have h_:(x5_1:Int) < ((x0_1.length:Int):Int):=of_decide_eq_true (by first|(with_reducible assumption)|assumption);first|exact h_|(have e_:=(Kd.R_reads' HO_0.out).1;omega)|simpa using h_) (seg:=[.int .i64 (wrap64 (x1_1 + 1))]) (j:=1) hcl11 hcc11 (show 2≤3 from by decide) (x':=(⟨(rd_T47 y308 x5_1).f0,wrap64 (x1_1 + 1),(rd_T47 y308 x5_1).f2⟩:S47)) (k47_mkM _ _ _ (⟨(rd_T47 y308 x5_1).f0,wrap64 (x1_1 + 1),(rd_T47 y308 x5_1).f2⟩:S47) ) (fun _ hk=>hk);have hx11_1:=hcc11 1 _ rfl;(try simp only [show (k47).sz=3 from rfl,Nat.mul_one,Nat.add_zero] at hx11_1);have hf11_1:=hfr11 1;(try simp only [show (k47).sz=3 from rfl,Nat.mul_one,Nat.add_zero] at hf11_1);clear hcl11 hcc11 hfr11 hM11)|((with_reducible refine gate_store (t:=3) (p:=23) rfl ?_);refine store_event (t:=3) (p:=23) (v:=?vo_w12) (w1:=(w10.setCell ⟨go5,(x5_1:Int).toNat * 3 + 1,none⟩ (.int .i64 (wrap64 (x1_1 + 1))))) ?hg ?ho ?hn ?hr ?_;(case ho=>rfl);(case hg=>rfl);(case hn=>rfl);(case hr=>(go_simp;try rfl));intro w12 hw;have hg:w10.grownBy w12 (some go5):=(by rw [hw];exact HP11.2);have hp_:Kd.R k47 47 w12 w0.heap.size (fun k_=>(P0_ k_ ∨ w.heap.size≤k_)) (.slice (some ⟨go5,0,none⟩) x0_1.length co8) y309:=(by rw [hw,Ny309.out];exact HP11.1);clear HP11;have n0_:=qK (hp_);have n1_:=qK ((by rw [hw];exact qS (HB.out) GB5.out:Below w0.heap.size w0 w12));have n2_:=qK (Kept.of_grown (S:=(fun k_=>P0_ k_)) hg (by repeat (first|(with_reducible first|exact HK.out|apply Kept.alloc|apply Kept.drewN|apply Kept.drew)|exact HK.out)) (fun k_ e_=>(HO_0.out.1 k_ e_)));clear HO_0;clear HB;clear HK;have HO_0:=n0_;have HB:=n1_;have HK:=n2_;clear n0_ n1_ n2_;clear hg hw hp_;have p7:0≤(x5_1:Int):=of_decide_eq_true (by first|(with_reducible assumption)|assumption);have q7:(x5_1:Int) < ((x0_1.length:Int):Int):=of_decide_eq_true (by first|(with_reducible assumption)|assumption);obtain ⟨ce7,hcl7,hM7,hcc7,hfr7⟩:=Kd.R_elem HO_0.out z47 (x5_1:Int) p7 q7;obtain rfl:=k47_openM hM7;have hx7_0:w12.cell? ⟨go5,(x5_1:Int).toNat * 3,none⟩=some (.int .i64 ((rd_T47 y309 x5_1).f0)):=hcc7 0 _ rfl;have hx7_1:w12.cell? ⟨go5,(x5_1:Int).toNat * 3 + 1,none⟩=some (.int .i64 ((rd_T47 y309 x5_1).f1)):=hcc7 1 _ rfl;have hx7_2:w12.cell? ⟨go5,(x5_1:Int).toNat * 3 + 2,none⟩=some (.int .i64 ((rd_T47 y309 x5_1).f2)):=hcc7 2 _ rfl;have hf7_0:w12.frozen? ⟨go5,(x5_1:Int).toNat * 3,none⟩=false:=hfr7 0;have hf7_1:w12.frozen? ⟨go5,(x5_1:Int).toNat * 3 + 1,none⟩=false:=hfr7 1;have hf7_2:w12.frozen? ⟨go5,(x5_1:Int).toNat * 3 + 2,none⟩=false:=hfr7 2;clear hcl7 hcc7 hfr7 hM7;replace p7:=eq_true p7;replace q7:=eq_true q7;have HX13:=qK (show Kd.R k47 47 w12 w0.heap.size (fun k_=>(P0_ k_ ∨ w.heap.size≤k_)) (.slice (some ⟨go5,0,none⟩) x0_1.length co8) y309 from (by (with_reducible repeat (first|apply rL|apply rN|apply rW));exact HO_0.out));obtain ⟨ce13,hcl13,hM13,hcc13,hfr13⟩:=Kd.R_elem HX13.out z47 (x5_1:Int) (of_decide_eq_true (by first|(with_reducible assumption)|assumption)) (by have h_:(x5_1:Int) < ((x0_1.length:Int):Int):=of_decide_eq_true (by first|(with_reducible assumption)|assumption);first|exact h_|(have e_:=(Kd.R_reads' HO_0.out).1;omega)|simpa using h_);obtain rfl:=k47_openM hM13;have HP13:=Kd.R_seg HX13.out (x5_1:Int) (of_decide_eq_true (by first|(with_reducible assumption)|assumption)) (by have h_:(x5_1:Int) < ((x0_1.length:Int):Int):=of_decide_eq_true (by first|(with_reducible assumption)|assumption);first|exact h_|(have e_:=(Kd.R_reads' HO_0.out).1;omega)|simpa using h_) (seg:=[.int .i64 (wrap64 ((wrap64 (x1_1 + 1)) + 1))]) (j:=2) hcl13 hcc13 (show 3≤3 from by decide) (x':=(⟨(rd_T47 y309 x5_1).f0,(rd_T47 y309 x5_1).f1,wrap64 ((wrap64 (x1_1 + 1)) + 1)⟩:S47)) (k47_mkM _ _ _ (⟨(rd_T47 y309 x5_1).f0,(rd_T47 y309 x5_1).f1,wrap64 ((wrap64 (x1_1 + 1)) + 1)⟩:S47) ) (fun _ hk=>hk);have hx13_2:=hcc13 2 _ rfl;(try simp only [show (k47).sz=3 from rfl,Nat.mul_one,Nat.add_zero] at hx13_2);have hf13_2:=hfr13 2;(try simp only [show (k47).sz=3 from rfl,Nat.mul_one,Nat.add_zero] at hf13_2);clear hcl13 hcc13 hfr13 hM13)|((with_reducible refine gate_store (t:=3) (p:=30) rfl ?_);refine store_event (t:=3) (p:=30) (v:=?vo_w14) (w1:=(w12.setCell ⟨go5,(x5_1:Int).toNat * 3 + 2,none⟩ (.int .i64 (wrap64 ((wrap64 (x1_1 + 1)) + 1))))) ?hg ?ho ?hn ?hr ?_;(case ho=>rfl);(case hg=>rfl);(case hn=>rfl);(case hr=>(go_simp;try rfl));intro w14 hw;have hg:w12.grownBy w14 (some go5):=(by rw [hw];exact HP13.2);have hp_:Kd.R k47 47 w14 w0.heap.size (fun k_=>(P0_ k_ ∨ w.heap.size≤k_)) (.slice (some ⟨go5,0,none⟩) x0_1.length co8) y310:=(by rw [hw,Ny310.out];exact HP13.1);clear HP13;have n0_:=qK (hp_);have n1_:=qK ((by rw [hw];exact qS (HB.out) GB5.out:Below w0.heap.size w0 w14));have n2_:=qK (Kept.of_grown (S:=(fun k_=>P0_ k_)) hg (by repeat (first|(with_reducible first|exact HK.out|apply Kept.alloc|apply Kept.drewN|apply Kept.drew)|exact HK.out)) (fun k_ e_=>(HO_0.out.1 k_ e_)));clear HO_0;clear HB;clear HK;have HO_0:=n0_;have HB:=n1_;have HK:=n2_;clear n0_ n1_ n2_;clear hg hw hp_))
     go_roundg k1
     case measure=>have:=HK1.out;omega
     case rel=>exact ⟨(y310),(wrap64 ((wrap64 ((wrap64 (x1_1 + 1)) + 1)) + 1)),(wrap64 (x5_1 + 1)),(by first|rfl|(simp;done)|(simp [*];done)),(by first|rfl|(simp;done)|(simp [*];done)),H',⟨by have:=HK1.out;omega⟩,⟨by (with_reducible repeat (first|apply rL|apply rN|apply rW));exact HO_0.out⟩,⟨by repeat (first|(with_reducible first|exact HK.out|apply Kept.alloc|apply Kept.drewN|apply Kept.drew)|exact HK.out)⟩,⟨by repeat (first|(with_reducible first|exact HB.out|apply qA|apply qD|apply qO)|exact HB.out)⟩⟩
    ·rw [if_neg c4] at H;exact absurd H (by simp)
   ·rw [if_neg c3] at H;have c3b0:decide (x5_1 < (x0_1.length:Int))=false:=decide_eq_false c3;clear c3;simp only [Option.some.injEq,Prod.mk.injEq] at H;obtain ⟨rfl,rfl⟩:=H;obtain ⟨Ao15,co15,eo15⟩:=Kd.R_slice HO_0.out;subst eo15;go_wp2
    go_ret
    exact ⟨by first|rfl|(simp [errW_none,errW_some] <;> rfl)|(simp [*,errW_none,errW_some] <;> rfl),by (with_reducible repeat (first|apply rL|apply rN|apply rW));exact HO_0.out,by repeat (first|(with_reducible first|exact HB.out|apply qA|apply qD|apply qO)|exact HB.out),by repeat (first|(with_reducible first|exact HK.out|apply Kept.alloc|apply Kept.drewN|apply Kept.drew)|exact HK.out)⟩

/-! ### laws_markIntS: function 32 -/
def laws_markIntS.l0 : Nat→List Int→Int→Int→Option (Int × List Int)
 | 0,_,_,_=>none
 | k + 1,x0,x1,x5=>if x5 < (x0.length:Int) then (if 0≤x5 then (laws_markIntS.l0 k (x0.set (x5:Int).toNat x1) (wrap64 (x1 + 1)) (wrap64 (x5 + 1))) else (none)) else (some (x1,x0))
def laws_markIntS.f (k:Nat) (l0:List Int) (a1:Int):Option (Int × List Int):=laws_markIntS.l0 k l0 a1 0
theorem laws_markIntS.mono_l : ∀ k,(∀ y0 y1 y2,LeO (laws_markIntS.l0 k y0 y1 y2) (laws_markIntS.l0 (k + 1) y0 y1 y2))
 | 0=>fun _ _ _ r h=>by simp [laws_markIntS.l0] at h
 | k + 1=>by
  have ih0:=laws_markIntS.mono_l k
  ·intro y0 y1 y2;unfold laws_markIntS.l0
   repeat' first
   | (with_reducible exact ih0 _ _ _)
   | (with_reducible exact LeO.refl _)
   | (with_reducible exact LeO.none _)
   | (with_reducible refine LeO.ite ?_ ?_)
   | (with_reducible refine LeO.bind ?_ (fun _=>?_))
   | exact ih0 _ _ _
   | exact LeO.none _
   | refine LeO.ite ?_ ?_
   | refine LeO.bind ?_ (fun _=>?_)
theorem laws_markIntS.mono : ∀ a0 a1 k,LeO (laws_markIntS.f k a0 a1) (laws_markIntS.f (k + 1) a0 a1):=by
 intro a0 a1 k;have ih0:=laws_markIntS.mono_l k;unfold laws_markIntS.f
 repeat' first
   | (with_reducible exact ih0 _ _ _)
   | (with_reducible exact LeO.refl _)
   | (with_reducible exact LeO.none _)
   | (with_reducible refine LeO.ite ?_ ?_)
   | (with_reducible refine LeO.bind ?_ (fun _=>?_))
   | exact ih0 _ _ _
   | exact LeO.none _
   | refine LeO.ite ?_ ?_
   | refine LeO.bind ?_ (fun _=>?_)
set_option maxHeartbeats 8000000 in
set_option maxRecDepth 100000 in
theorem laws_markIntS.calls (k:Nat) (P0_:Nat→Prop) (u9000_:Value) (l0:List Int) (a1:Int) (r1:Int) (r2:List Int) (w0 w:World) (hB:Below w0.heap.size w0 w) (ho0:Kd.R (Kd.int .i64) 3 w w0.heap.size P0_ u9000_ l0) (h:laws_markIntS.f k l0 a1=some (r1,r2)) :
  Calls Try.prog 32 #[u9000_,.int .i64 a1] w fun e w'=>e=.returned (.int .i64 r1)∧Kd.R (Kd.int .i64) 3 w' w0.heap.size (fun k_=>(P0_ k_ ∨ w.heap.size≤k_)) u9000_ r2∧Below w0.heap.size w0 w'∧Kept w w' (fun k_=>P0_ k_):=by
 have HO0:=qK (show Kd.R (Kd.int .i64) 3 w w0.heap.size (fun k_=>(P0_ k_ ∨ w.heap.size≤k_)) u9000_ l0 from Kd.R_mono ho0 (fun k_ hk=>(.inl hk)));have HK:=qK (Kept.refl w (fun k_=>P0_ k_));have HW0:=qK hB.size;have HB:=qK hB;clear hB;have H:(laws_markIntS.l0 k l0 a1 0)=some (r1,r2):=h;clear h;have H':=qK H;clear H;go_enter Try.func32,Try.ntmps32
 go_wp2
 go_loopg [1,5] k (fun kq v1 v5 w'=>∃ (x0_1:List Int) (x1_1:Int) (x5_1:Int),v1=.int .i64 x1_1∧v5=.int .i64 x5_1∧Aside0 (laws_markIntS.l0 kq x0_1 x1_1 x5_1=some (r1,r2))∧Aside0 (kq≤k)∧Aside0 (Kd.R (Kd.int .i64) 3 w' w0.heap.size (fun k_=>(P0_ k_ ∨ w.heap.size≤k_)) u9000_ x0_1)∧Aside0 (Kept w w' (fun k_=>P0_ k_))∧Aside0 (Below w0.heap.size w0 w'))
 case atStart=>exact ⟨(l0),(a1),(0),(by first|rfl|(simp;done)|(simp [*];done)),(by first|rfl|(simp;done)|(simp [*];done)),H',⟨Nat.le_refl _⟩,⟨by (with_reducible repeat (first|apply rL|apply rN|apply rW));exact HO0.out⟩,⟨by repeat (first|(with_reducible first|exact HK.out|apply Kept.alloc|apply Kept.drewN|apply Kept.drew)|exact HK.out)⟩,⟨by repeat (first|(with_reducible first|exact HB.out|apply qA|apply qD|apply qO)|exact HB.out)⟩⟩
 case round =>
  clear H';try clear p2
  obtain ⟨x0_1,x1_1,x5_1,rfl,rfl,HA,HK1,HO_0,HK,HB⟩:=hrel;cases gk with
  | zero=>exact absurd HA.out (by simp [laws_markIntS.l0])
  | succ k1 =>
   have H:=HA.out;clear HA;simp only [laws_markIntS.l0] at H;by_cases c3:x5_1 < (x0_1.length:Int)
   ·rw [if_pos c3] at H;have c3b0:decide (x5_1 < (x0_1.length:Int))=true:=decide_eq_true c3;clear c3;by_cases c4:0≤x5_1
    ·rw [if_pos c4] at H;have c4b0:decide (0≤x5_1)=true:=decide_eq_true c4;clear c4;obtain ⟨y311,hy311⟩:∃ y_:List Int,y_=(x0_1.set (x5_1:Int).toNat x1_1):=⟨_,rfl⟩;replace H:(laws_markIntS.l0 k1 y311 (wrap64 (x1_1 + 1)) (wrap64 (x5_1 + 1)))=some (r1,r2):=by first|(rw [hy311];with_reducible exact H)|(have H2_:=(Option.bind_some _ _).symm.trans H;rw [hy311];with_reducible exact H2_)|(have H2_:=(Option.bind_some _ _).symm.trans H;with_reducible exact H2_)|with_reducible exact H|(rw [hy311];exact H)|exact H
     have Ny311:=qK hy311;clear hy311;have H':=qK H;clear H;obtain ⟨Ao6,co6,eo6⟩:=Kd.R_slice HO_0.out;subst eo6;have p5:0≤(x5_1:Int):=of_decide_eq_true (by first|(with_reducible assumption)|assumption);have q5:(x5_1:Int) < ((x0_1.length:Int):Int):=of_decide_eq_true (by first|(with_reducible assumption)|assumption);obtain ⟨go5,co5,eo5,gb5,gl5,cl5,HG5⟩:=Kd.R_form HO_0.out (by omega);(first|cases eo5|(injection eo5 with ea_ en_ ec_;(first|subst ea_|(injection ea_ with ea_;subst ea_));subst ec_;clear en_));have GB5:=qK gb5;have GG5:=qK HG5;clear gb5 gl5 HG5;have HMgo5:=qK (show (P0_ go5 ∨ w.heap.size≤go5) from (HO_0.out.1 _ rfl));obtain ⟨hx5_0,hf5_0⟩:=Kd.R_celln 0 HO_0.out (x5_1:Int) p5 q5;replace p5:=eq_true p5;replace q5:=eq_true q5;have HP7:=Kd.R_putg HO_0.out (x5_1:Int) x1_1;go_wp2_with (first|((with_reducible refine gate_store (t:=3) (p:=15) rfl ?_);refine store_event (t:=3) (p:=15) (v:=?vo_w8) (w1:=(wr.setCell ⟨go5,(x5_1:Int).toNat,none⟩ (.int .i64 x1_1))) ?hg ?ho ?hn ?hr ?_;(case ho=>rfl);(case hg=>rfl);(case hn=>rfl);(case hr=>(go_simp;try rfl));intro w8 hw;have hg:wr.grownBy w8 (some go5):=(by rw [hw];exact HP7.2);have hp_:Kd.R (Kd.int .i64) 3 w8 w0.heap.size (fun k_=>(P0_ k_ ∨ w.heap.size≤k_)) (.slice (some ⟨go5,0,none⟩) x0_1.length co6) y311:=(by rw [hw,Ny311.out];exact HP7.1);clear HP7;have n0_:=qK (hp_);have n1_:=qK ((by rw [hw];exact qS (HB.out) GB5.out:Below w0.heap.size w0 w8));have n2_:=qK (Kept.of_grown (S:=(fun k_=>P0_ k_)) hg (by repeat (first|(with_reducible first|exact HK.out|apply Kept.alloc|apply Kept.drewN|apply Kept.drew)|exact HK.out)) (fun k_ e_=>(HO_0.out.1 k_ e_)));clear HO_0;clear HB;clear HK;have HO_0:=n0_;have HB:=n1_;have HK:=n2_;clear n0_ n1_ n2_;clear hg hw hp_))
     go_roundg k1
     case measure=>have:=HK1.out;omega
     case rel=>exact ⟨(y311),(wrap64 (x1_1 + 1)),(wrap64 (x5_1 + 1)),(by first|rfl|(simp;done)|(simp [*];done)),(by first|rfl|(simp;done)|(simp [*];done)),H',⟨by have:=HK1.out;omega⟩,⟨by (with_reducible repeat (first|apply rL|apply rN|apply rW));exact HO_0.out⟩,⟨by repeat (first|(with_reducible first|exact HK.out|apply Kept.alloc|apply Kept.drewN|apply Kept.drew)|exact HK.out)⟩,⟨by repeat (first|(with_reducible first|exact HB.out|apply qA|apply qD|apply qO)|exact HB.out)⟩⟩
    ·rw [if_neg c4] at H;exact absurd H (by simp)
   ·rw [if_neg c3] at H;have c3b0:decide (x5_1 < (x0_1.length:Int))=false:=decide_eq_false c3;clear c3;simp only [Option.some.injEq,Prod.mk.injEq] at H;obtain ⟨rfl,rfl⟩:=H;obtain ⟨Ao9,co9,eo9⟩:=Kd.R_slice HO_0.out;subst eo9;go_wp2
    go_ret
    exact ⟨by first|rfl|(simp [errW_none,errW_some] <;> rfl)|(simp [*,errW_none,errW_some] <;> rfl),by (with_reducible repeat (first|apply rL|apply rN|apply rW));exact HO_0.out,by repeat (first|(with_reducible first|exact HB.out|apply qA|apply qD|apply qO)|exact HB.out),by repeat (first|(with_reducible first|exact HK.out|apply Kept.alloc|apply Kept.drewN|apply Kept.drew)|exact HK.out)⟩

/-! ### laws_markLocks: function 11 -/
def laws_markLocks.f (k:Nat) (l0_0:List (S47)) (l0_1:List (S47)) (l0_2:List (S47)) (l0_3:List Int) (l0_4:List Int) (a1:Int):Option (Int × (List (S47)) × (List (S47)) × (List (S47)) × List Int × List Int):=(laws_markStepS.f k l0_0 a1).bind fun bt313=>((laws_markStepS.f k l0_1 bt313.1).bind fun bt315=>((laws_markStepS.f k l0_2 bt315.1).bind fun bt317=>((laws_markIntS.f k l0_3 bt317.1).bind fun bt319=>((laws_markIntS.f k l0_4 bt319.1).bind fun bt321=>(some (bt321.1,bt313.2,bt315.2,bt317.2,bt319.2,bt321.2))))))
theorem laws_markLocks.mono : ∀ a0 a1 a2 a3 a4 a5 k,LeO (laws_markLocks.f k a0 a1 a2 a3 a4 a5) (laws_markLocks.f (k + 1) a0 a1 a2 a3 a4 a5):=by
 intro a0 a1 a2 a3 a4 a5 k;unfold laws_markLocks.f
 repeat' first
   | (with_reducible exact laws_markIntS.mono _ _ _)
   | (with_reducible exact laws_markStepS.mono _ _ _)
   | (with_reducible exact LeO.refl _)
   | (with_reducible exact LeO.none _)
   | (with_reducible refine LeO.ite ?_ ?_)
   | (with_reducible refine LeO.bind ?_ (fun _=>?_))
   | exact laws_markIntS.mono _ _ _
   | exact laws_markStepS.mono _ _ _
   | exact LeO.none _
   | refine LeO.ite ?_ ?_
   | refine LeO.bind ?_ (fun _=>?_)
set_option maxHeartbeats 8000000 in
set_option maxRecDepth 100000 in
theorem laws_markLocks.calls (k:Nat) (P0_0_:Nat→Prop) (u9000_:Value) (l0_0:List (S47)) (P0_1_:Nat→Prop) (u9001_:Value) (l0_1:List (S47)) (P0_2_:Nat→Prop) (u9002_:Value) (l0_2:List (S47)) (P0_3_:Nat→Prop) (u9003_:Value) (l0_3:List Int) (P0_4_:Nat→Prop) (u9004_:Value) (l0_4:List Int) (a1:Int) (r1:Int) (r2:List (S47)) (r3:List (S47)) (r4:List (S47)) (r5:List Int) (r6:List Int) (w0 w:World) (hB:Below w0.heap.size w0 w) (ho0_0:Kd.R k47 47 w w0.heap.size P0_0_ u9000_ l0_0) (hp0_0_0_1:∀ k_,P0_0_ k_→¬ P0_1_ k_) (hp0_0_0_2:∀ k_,P0_0_ k_→¬ P0_2_ k_) (ho0_1:Kd.R k47 47 w w0.heap.size P0_1_ u9001_ l0_1) (hp0_1_0_0:∀ k_,P0_1_ k_→¬ P0_0_ k_) (hp0_1_0_2:∀ k_,P0_1_ k_→¬ P0_2_ k_) (ho0_2:Kd.R k47 47 w w0.heap.size P0_2_ u9002_ l0_2) (hp0_2_0_0:∀ k_,P0_2_ k_→¬ P0_0_ k_) (hp0_2_0_1:∀ k_,P0_2_ k_→¬ P0_1_ k_) (ho0_3:Kd.R (Kd.int .i64) 3 w w0.heap.size P0_3_ u9003_ l0_3) (hp0_3_0_4:∀ k_,P0_3_ k_→¬ P0_4_ k_) (ho0_4:Kd.R (Kd.int .i64) 3 w w0.heap.size P0_4_ u9004_ l0_4) (hp0_4_0_3:∀ k_,P0_4_ k_→¬ P0_3_ k_) (h:laws_markLocks.f k l0_0 l0_1 l0_2 l0_3 l0_4 a1=some (r1,r2,r3,r4,r5,r6)) :
  Calls Try.prog 11 #[.agg #[u9000_,u9001_,u9002_,u9003_,u9004_],.int .i64 a1] w fun e w'=>e=.returned (.int .i64 r1)∧Kd.R k47 47 w' w0.heap.size (fun k_=>((P0_0_ k_ ∨ P0_1_ k_ ∨ P0_2_ k_ ∨ P0_3_ k_ ∨ P0_4_ k_) ∨ w.heap.size≤k_)) u9000_ r2∧Kd.R k47 47 w' w0.heap.size (fun k_=>((P0_0_ k_ ∨ P0_1_ k_ ∨ P0_2_ k_ ∨ P0_3_ k_ ∨ P0_4_ k_) ∨ w.heap.size≤k_)) u9001_ r3∧Kd.R k47 47 w' w0.heap.size (fun k_=>((P0_0_ k_ ∨ P0_1_ k_ ∨ P0_2_ k_ ∨ P0_3_ k_ ∨ P0_4_ k_) ∨ w.heap.size≤k_)) u9002_ r4∧Kd.R (Kd.int .i64) 3 w' w0.heap.size (fun k_=>((P0_0_ k_ ∨ P0_1_ k_ ∨ P0_2_ k_ ∨ P0_3_ k_ ∨ P0_4_ k_) ∨ w.heap.size≤k_)) u9003_ r5∧Kd.R (Kd.int .i64) 3 w' w0.heap.size (fun k_=>((P0_0_ k_ ∨ P0_1_ k_ ∨ P0_2_ k_ ∨ P0_3_ k_ ∨ P0_4_ k_) ∨ w.heap.size≤k_)) u9004_ r6∧Below w0.heap.size w0 w'∧Kept w w' (fun k_=>P0_0_ k_ ∨ P0_1_ k_ ∨ P0_2_ k_ ∨ P0_3_ k_ ∨ P0_4_ k_):=by
 have hu31:=Try.underlying31;have HO0_0:=qK (show Kd.R k47 47 w w0.heap.size (fun k_=>((P0_0_ k_ ∨ P0_1_ k_ ∨ P0_2_ k_ ∨ P0_3_ k_ ∨ P0_4_ k_) ∨ w.heap.size≤k_)∧some k_ ≠ (u9001_:Value).ownBlock∧some k_ ≠ (u9002_:Value).ownBlock) u9000_ l0_0 from Kd.R_mono ho0_0 (fun k_ hk=>⟨(.inl (.inl hk)),fun e_=>hp0_0_0_1 k_ hk (ho0_1.1 k_ e_.symm),fun e_=>hp0_0_0_2 k_ hk (ho0_2.1 k_ e_.symm)⟩));have HO0_1:=qK (show Kd.R k47 47 w w0.heap.size (fun k_=>((P0_0_ k_ ∨ P0_1_ k_ ∨ P0_2_ k_ ∨ P0_3_ k_ ∨ P0_4_ k_) ∨ w.heap.size≤k_)∧some k_ ≠ (u9000_:Value).ownBlock∧some k_ ≠ (u9002_:Value).ownBlock) u9001_ l0_1 from Kd.R_mono ho0_1 (fun k_ hk=>⟨(.inl (.inr (.inl hk))),fun e_=>hp0_1_0_0 k_ hk (ho0_0.1 k_ e_.symm),fun e_=>hp0_1_0_2 k_ hk (ho0_2.1 k_ e_.symm)⟩));have HO0_2:=qK (show Kd.R k47 47 w w0.heap.size (fun k_=>((P0_0_ k_ ∨ P0_1_ k_ ∨ P0_2_ k_ ∨ P0_3_ k_ ∨ P0_4_ k_) ∨ w.heap.size≤k_)∧some k_ ≠ (u9000_:Value).ownBlock∧some k_ ≠ (u9001_:Value).ownBlock) u9002_ l0_2 from Kd.R_mono ho0_2 (fun k_ hk=>⟨(.inl (.inr (.inr (.inl hk)))),fun e_=>hp0_2_0_0 k_ hk (ho0_0.1 k_ e_.symm),fun e_=>hp0_2_0_1 k_ hk (ho0_1.1 k_ e_.symm)⟩));have HO0_3:=qK (show Kd.R (Kd.int .i64) 3 w w0.heap.size (fun k_=>((P0_0_ k_ ∨ P0_1_ k_ ∨ P0_2_ k_ ∨ P0_3_ k_ ∨ P0_4_ k_) ∨ w.heap.size≤k_)∧some k_ ≠ (u9004_:Value).ownBlock) u9003_ l0_3 from Kd.R_mono ho0_3 (fun k_ hk=>⟨(.inl (.inr (.inr (.inr (.inl hk))))),fun e_=>hp0_3_0_4 k_ hk (ho0_4.1 k_ e_.symm)⟩));have HO0_4:=qK (show Kd.R (Kd.int .i64) 3 w w0.heap.size (fun k_=>((P0_0_ k_ ∨ P0_1_ k_ ∨ P0_2_ k_ ∨ P0_3_ k_ ∨ P0_4_ k_) ∨ w.heap.size≤k_)∧some k_ ≠ (u9003_:Value).ownBlock) u9004_ l0_4 from Kd.R_mono ho0_4 (fun k_ hk=>⟨(.inl (.inr (.inr (.inr (.inr hk))))),fun e_=>hp0_4_0_3 k_ hk (ho0_3.1 k_ e_.symm)⟩));have HK:=qK (Kept.refl w (fun k_=>P0_0_ k_ ∨ P0_1_ k_ ∨ P0_2_ k_ ∨ P0_3_ k_ ∨ P0_4_ k_));have HW0:=qK hB.size;have HB:=qK hB;clear hB;have H:((laws_markStepS.f k l0_0 a1).bind fun bt313=>((laws_markStepS.f k l0_1 bt313.1).bind fun bt315=>((laws_markStepS.f k l0_2 bt315.1).bind fun bt317=>((laws_markIntS.f k l0_3 bt317.1).bind fun bt319=>((laws_markIntS.f k l0_4 bt319.1).bind fun bt321=>(some (bt321.1,bt313.2,bt315.2,bt317.2,bt319.2,bt321.2)))))))=some (r1,r2,r3,r4,r5,r6):=h;clear h;replace H:=Option.bind_eq_some_iff.mp H;obtain ⟨⟨t313,t314⟩,A30,H⟩:=H;replace H:((laws_markStepS.f k l0_1 t313).bind fun bt315=>((laws_markStepS.f k l0_2 bt315.1).bind fun bt317=>((laws_markIntS.f k l0_3 bt317.1).bind fun bt319=>((laws_markIntS.f k l0_4 bt319.1).bind fun bt321=>(some (bt321.1,t314,bt315.2,bt317.2,bt319.2,bt321.2))))))=some (r1,r2,r3,r4,r5,r6):=H;have A3:=qK A30;clear A30;replace H:=Option.bind_eq_some_iff.mp H;obtain ⟨⟨t315,t316⟩,A40,H⟩:=H;replace H:((laws_markStepS.f k l0_2 t315).bind fun bt317=>((laws_markIntS.f k l0_3 bt317.1).bind fun bt319=>((laws_markIntS.f k l0_4 bt319.1).bind fun bt321=>(some (bt321.1,t314,t316,bt317.2,bt319.2,bt321.2)))))=some (r1,r2,r3,r4,r5,r6):=H;have A4:=qK A40;clear A40;replace H:=Option.bind_eq_some_iff.mp H;obtain ⟨⟨t317,t318⟩,A50,H⟩:=H;replace H:((laws_markIntS.f k l0_3 t317).bind fun bt319=>((laws_markIntS.f k l0_4 bt319.1).bind fun bt321=>(some (bt321.1,t314,t316,t318,bt319.2,bt321.2))))=some (r1,r2,r3,r4,r5,r6):=H;have A5:=qK A50;clear A50;replace H:=Option.bind_eq_some_iff.mp H;obtain ⟨⟨t319,t320⟩,A60,H⟩:=H;replace H:((laws_markIntS.f k l0_4 t319).bind fun bt321=>(some (bt321.1,t314,t316,t318,t320,bt321.2)))=some (r1,r2,r3,r4,r5,r6):=H;have A6:=qK A60;clear A60;replace H:=Option.bind_eq_some_iff.mp H;obtain ⟨⟨t321,t322⟩,A70,H⟩:=H;replace H:(some (t321,t314,t316,t318,t320,t322))=some (r1,r2,r3,r4,r5,r6):=H;have A7:=qK A70;clear A70;simp only [Option.some.injEq,Prod.mk.injEq] at H;obtain ⟨rfl,rfl,rfl,rfl,rfl,rfl⟩:=H;obtain ⟨Ao8,co8,eo8⟩:=Kd.R_slice HO0_0.out;subst eo8;obtain ⟨Ao9,co9,eo9⟩:=Kd.R_slice HO0_1.out;subst eo9;obtain ⟨Ao10,co10,eo10⟩:=Kd.R_slice HO0_2.out;subst eo10;obtain ⟨Ao11,co11,eo11⟩:=Kd.R_slice HO0_3.out;subst eo11;obtain ⟨Ao12,co12,eo12⟩:=Kd.R_slice HO0_4.out;subst eo12;go_enter Try.func11,Try.ntmps11
 go_wp2_with (first|((with_reducible refine gate_dst (N:=2) rfl ?_);refine box_event ?hg (N:=2) ?hd (cs:=#[.slice Ao8 l0_0.length co8,.slice Ao9 l0_1.length co9,.slice Ao10 l0_2.length co10,.slice Ao11 l0_3.length co11,.slice Ao12 l0_4.length co12]) (t:=31) ?hr ?_;(case hd=>rfl);(case hg=>rfl);(case hr=>(go_simp;try rfl));intro gb312 hg w13 hbox hb;have n0_:=qK (rB (by (with_reducible repeat (first|apply rL|apply rN|apply rW));exact HO0_0.out) hb);have n1_:=qK (rB (by (with_reducible repeat (first|apply rL|apply rN|apply rW));exact HO0_1.out) hb);have n2_:=qK (rB (by (with_reducible repeat (first|apply rL|apply rN|apply rW));exact HO0_2.out) hb);have n3_:=qK (rB (by (with_reducible repeat (first|apply rL|apply rN|apply rW));exact HO0_3.out) hb);have n4_:=qK (rB (by (with_reducible repeat (first|apply rL|apply rN|apply rW));exact HO0_4.out) hb);have n5_:=qK (Kept.below (S:=(fun k_=>P0_0_ k_ ∨ P0_1_ k_ ∨ P0_2_ k_ ∨ P0_3_ k_ ∨ P0_4_ k_)) (by repeat (first|(with_reducible first|exact HK.out|apply Kept.alloc|apply Kept.drewN|apply Kept.drew)|exact HK.out)) hb);have n6_:=qK (qT (by repeat (with_reducible first|exact HB.out|apply qA|apply qD|apply qO)) hb);have n7_:=qK (hbox);have n8_:=qK ((by rw [hg];exact (by first|exact HK.out.1|exact (show Kept w _ (fun k_=>P0_0_ k_ ∨ P0_1_ k_ ∨ P0_2_ k_ ∨ P0_3_ k_ ∨ P0_4_ k_) from by repeat (first|(with_reducible first|exact HK.out|apply Kept.alloc|apply Kept.drewN|apply Kept.drew)|exact HK.out)).1):w.heap.size≤gb312));have n9_:=qK ((by rw [hg];exact (qZ (by repeat (with_reducible first|exact HB.out|apply qA|apply qD|apply qO))):w0.heap.size≤gb312));clear HO0_0;clear HO0_1;clear HO0_2;clear HO0_3;clear HO0_4;clear HK;clear HB;have HO0_0:=n0_;have HO0_1:=n1_;have HO0_2:=n2_;have HO0_3:=n3_;have HO0_4:=n4_;have HK:=n5_;have HB:=n6_;have BK312:=n7_;have GW312:=n8_;have GE312:=n9_;clear n0_ n1_ n2_ n3_ n4_ n5_ n6_ n7_ n8_ n9_;clear hb hbox hg;have hcz14_0:w13.cell? ⟨gb312,0,none⟩=some (.slice Ao8 l0_0.length co8):=(qC BK312.out 0).trans rfl;have hcz14_1:w13.cell? ⟨gb312,1,none⟩=some (.slice Ao9 l0_1.length co9):=(qC BK312.out 1).trans rfl;have hcz14_2:w13.cell? ⟨gb312,2,none⟩=some (.slice Ao10 l0_2.length co10):=(qC BK312.out 2).trans rfl;have hcz14_3:w13.cell? ⟨gb312,3,none⟩=some (.slice Ao11 l0_3.length co11):=(qC BK312.out 3).trans rfl;have hcz14_4:w13.cell? ⟨gb312,4,none⟩=some (.slice Ao12 l0_4.length co12):=(qC BK312.out 4).trans rfl;have hfz14_0:=qF BK312.out 0;have hfz14_1:=qF BK312.out 1;have hfz14_2:=qF BK312.out 2;have hfz14_3:=qF BK312.out 3;have hfz14_4:=qF BK312.out 4)|((with_reducible refine gate_callee (f:=12) rfl ?_);refine goesL_ (some 8) rfl rfl Try.func12 (by kernel_rfl) rfl #[.slice Ao8 l0_0.length co8,.int .i64 a1] rfl (by (try simp only [mT,mC,mN]);first|done|rfl|(simp only [lD,lT];rfl)) ?_;(with_reducible refine (laws_markStepS.calls k (fun k_=>some k_=(.slice Ao8 l0_0.length co8:Value).ownBlock) (.slice Ao8 l0_0.length co8) l0_0 a1 t313 t314 w0 _ ?side1 ?side2 A3.out).mono ?_);(case side1=>repeat (first|(with_reducible first|exact HB.out|apply qA|apply qD|apply qO|refine qS ?_ GE312.out)|exact HB.out));(case side2=>exact Kd.R_tight rfl HO0_0.out);rintro e w15 ⟨rfl,hy0,hb,hkp⟩;refine ⟨_,rfl,?_⟩;have n0_:=qK (Kd.R_reok rfl hy0 (fun k_ e_=>HO0_0.out.1 k_ e_));have n1_:=qK (Kd.R_mono (ok':=fun k_=>((P0_0_ k_ ∨ P0_1_ k_ ∨ P0_2_ k_ ∨ P0_3_ k_ ∨ P0_4_ k_) ∨ w.heap.size≤k_)∧some k_ ≠ (.slice Ao8 l0_0.length co8:Value).ownBlock∧some k_ ≠ (.slice Ao10 l0_2.length co10:Value).ownBlock) (Kd.R_keptB (HO0_1.out) hkp (fun k_ hk_ hs_=>(hk_.2.1) hs_)) (fun k_ hk_=>⟨hk_.1.1,hk_.1.2.1,hk_.1.2.2⟩));have n2_:=qK (Kd.R_mono (ok':=fun k_=>((P0_0_ k_ ∨ P0_1_ k_ ∨ P0_2_ k_ ∨ P0_3_ k_ ∨ P0_4_ k_) ∨ w.heap.size≤k_)∧some k_ ≠ (.slice Ao8 l0_0.length co8:Value).ownBlock∧some k_ ≠ (.slice Ao9 l0_1.length co9:Value).ownBlock) (Kd.R_keptB (HO0_2.out) hkp (fun k_ hk_ hs_=>(hk_.2.1) hs_)) (fun k_ hk_=>⟨hk_.1.1,hk_.1.2.1,hk_.1.2.2⟩));have n3_:=qK (Kd.R_mono (ok':=fun k_=>((P0_0_ k_ ∨ P0_1_ k_ ∨ P0_2_ k_ ∨ P0_3_ k_ ∨ P0_4_ k_) ∨ w.heap.size≤k_)∧some k_ ≠ (.slice Ao12 l0_4.length co12:Value).ownBlock) (Kd.R_keptB ((Kd.R_apart' HO0_3.out (Kd.R_typed HO0_0.out) (by decide))) hkp (fun k_ hk_ hs_=>(hk_.2) hs_)) (fun k_ hk_=>⟨hk_.1.1.1,hk_.1.1.2⟩));have n4_:=qK (Kd.R_mono (ok':=fun k_=>((P0_0_ k_ ∨ P0_1_ k_ ∨ P0_2_ k_ ∨ P0_3_ k_ ∨ P0_4_ k_) ∨ w.heap.size≤k_)∧some k_ ≠ (.slice Ao11 l0_3.length co11:Value).ownBlock) (Kd.R_keptB ((Kd.R_apart' HO0_4.out (Kd.R_typed HO0_0.out) (by decide))) hkp (fun k_ hk_ hs_=>(hk_.2) hs_)) (fun k_ hk_=>⟨hk_.1.1.1,hk_.1.1.2⟩));have n5_:=qK (blk_kept (by (with_reducible repeat (first|refine qN ?_ _|refine qW ?_|refine qL ?_ _));exact BK312.out) hkp (fun hs_=>(fun e_=>(Kd.R_ne HO0_0.out BK312.out (by decide)) e_) hs_));have n6_:=qK (Kept.then_ (S:=(fun k_=>P0_0_ k_ ∨ P0_1_ k_ ∨ P0_2_ k_ ∨ P0_3_ k_ ∨ P0_4_ k_)) (by repeat (first|(with_reducible first|exact HK.out|apply Kept.alloc|apply Kept.drewN|apply Kept.drew|refine Kept.setCell ?_ (.inr GW312.out) _)|exact HK.out)) hkp (fun k_ hs_=>(fun e_=>(HO0_0.out.1 k_ e_.symm).1) hs_));have n7_:=qK (hb);clear HO0_0;clear HO0_1;clear HO0_2;clear HO0_3;clear HO0_4;clear BK312;clear HK;clear HB;have HO0_0:=n0_;have HO0_1:=n1_;have HO0_2:=n2_;have HO0_3:=n3_;have HO0_4:=n4_;have BK312:=n5_;have HK:=n6_;have HB:=n7_;clear n0_ n1_ n2_ n3_ n4_ n5_ n6_ n7_;(try clear hb);(try clear hkp);(try clear hy0);have hcz16_0:w15.cell? ⟨gb312,0,none⟩=some (.slice Ao8 l0_0.length co8):=(qC BK312.out 0).trans rfl;have hcz16_1:w15.cell? ⟨gb312,1,none⟩=some (.slice Ao9 l0_1.length co9):=(qC BK312.out 1).trans rfl;have hcz16_2:w15.cell? ⟨gb312,2,none⟩=some (.slice Ao10 l0_2.length co10):=(qC BK312.out 2).trans rfl;have hcz16_3:w15.cell? ⟨gb312,3,none⟩=some (.slice Ao11 l0_3.length co11):=(qC BK312.out 3).trans rfl;have hcz16_4:w15.cell? ⟨gb312,4,none⟩=some (.slice Ao12 l0_4.length co12):=(qC BK312.out 4).trans rfl;have hfz16_0:=qF BK312.out 0;have hfz16_1:=qF BK312.out 1;have hfz16_2:=qF BK312.out 2;have hfz16_3:=qF BK312.out 3;have hfz16_4:=qF BK312.out 4)|((with_reducible refine gate_callee (f:=12) rfl ?_);refine goesL_ (some 12) rfl rfl Try.func12 (by kernel_rfl) rfl #[.slice Ao9 l0_1.length co9,.int .i64 t313] rfl (by (try simp only [mT,mC,mN]);first|done|rfl|(simp only [lD,lT];rfl)) ?_;(with_reducible refine (laws_markStepS.calls k (fun k_=>some k_=(.slice Ao9 l0_1.length co9:Value).ownBlock) (.slice Ao9 l0_1.length co9) l0_1 t313 t315 t316 w0 _ ?side1 ?side2 A4.out).mono ?_);(case side1=>repeat (first|(with_reducible first|exact HB.out|apply qA|apply qD|apply qO|refine qS ?_ GE312.out)|exact HB.out));(case side2=>exact Kd.R_tight rfl HO0_1.out);rintro e w17 ⟨rfl,hy0,hb,hkp⟩;refine ⟨_,rfl,?_⟩;have n0_:=qK (Kd.R_mono (ok':=fun k_=>((P0_0_ k_ ∨ P0_1_ k_ ∨ P0_2_ k_ ∨ P0_3_ k_ ∨ P0_4_ k_) ∨ w.heap.size≤k_)∧some k_ ≠ (.slice Ao9 l0_1.length co9:Value).ownBlock∧some k_ ≠ (.slice Ao10 l0_2.length co10:Value).ownBlock) (Kd.R_keptB (HO0_0.out) hkp (fun k_ hk_ hs_=>(hk_.2.1) hs_)) (fun k_ hk_=>⟨hk_.1.1,hk_.1.2.1,hk_.1.2.2⟩));have n1_:=qK (Kd.R_reok rfl hy0 (fun k_ e_=>HO0_1.out.1 k_ e_));have n2_:=qK (Kd.R_mono (ok':=fun k_=>((P0_0_ k_ ∨ P0_1_ k_ ∨ P0_2_ k_ ∨ P0_3_ k_ ∨ P0_4_ k_) ∨ w.heap.size≤k_)∧some k_ ≠ (.slice Ao8 l0_0.length co8:Value).ownBlock∧some k_ ≠ (.slice Ao9 l0_1.length co9:Value).ownBlock) (Kd.R_keptB (HO0_2.out) hkp (fun k_ hk_ hs_=>(hk_.2.2) hs_)) (fun k_ hk_=>⟨hk_.1.1,hk_.1.2.1,hk_.1.2.2⟩));have n3_:=qK (Kd.R_mono (ok':=fun k_=>((P0_0_ k_ ∨ P0_1_ k_ ∨ P0_2_ k_ ∨ P0_3_ k_ ∨ P0_4_ k_) ∨ w.heap.size≤k_)∧some k_ ≠ (.slice Ao12 l0_4.length co12:Value).ownBlock) (Kd.R_keptB ((Kd.R_apart' HO0_3.out (Kd.R_typed HO0_1.out) (by decide))) hkp (fun k_ hk_ hs_=>(hk_.2) hs_)) (fun k_ hk_=>⟨hk_.1.1.1,hk_.1.1.2⟩));have n4_:=qK (Kd.R_mono (ok':=fun k_=>((P0_0_ k_ ∨ P0_1_ k_ ∨ P0_2_ k_ ∨ P0_3_ k_ ∨ P0_4_ k_) ∨ w.heap.size≤k_)∧some k_ ≠ (.slice Ao11 l0_3.length co11:Value).ownBlock) (Kd.R_keptB ((Kd.R_apart' HO0_4.out (Kd.R_typed HO0_1.out) (by decide))) hkp (fun k_ hk_ hs_=>(hk_.2) hs_)) (fun k_ hk_=>⟨hk_.1.1.1,hk_.1.1.2⟩));have n5_:=qK (blk_kept (by (with_reducible repeat (first|refine qN ?_ _|refine qW ?_|refine qL ?_ _));exact BK312.out) hkp (fun hs_=>(fun e_=>(Kd.R_ne HO0_1.out BK312.out (by decide)) e_) hs_));have n6_:=qK (Kept.then_ (S:=(fun k_=>P0_0_ k_ ∨ P0_1_ k_ ∨ P0_2_ k_ ∨ P0_3_ k_ ∨ P0_4_ k_)) (by repeat (first|(with_reducible first|exact HK.out|apply Kept.alloc|apply Kept.drewN|apply Kept.drew|refine Kept.setCell ?_ (.inr GW312.out) _)|exact HK.out)) hkp (fun k_ hs_=>(fun e_=>(HO0_1.out.1 k_ e_.symm).1) hs_));have n7_:=qK (hb);clear HO0_0;clear HO0_1;clear HO0_2;clear HO0_3;clear HO0_4;clear BK312;clear HK;clear HB;have HO0_0:=n0_;have HO0_1:=n1_;have HO0_2:=n2_;have HO0_3:=n3_;have HO0_4:=n4_;have BK312:=n5_;have HK:=n6_;have HB:=n7_;clear n0_ n1_ n2_ n3_ n4_ n5_ n6_ n7_;(try clear hb);(try clear hkp);(try clear hy0);have hcz18_0:w17.cell? ⟨gb312,0,none⟩=some (.slice Ao8 l0_0.length co8):=(qC BK312.out 0).trans rfl;have hcz18_1:w17.cell? ⟨gb312,1,none⟩=some (.slice Ao9 l0_1.length co9):=(qC BK312.out 1).trans rfl;have hcz18_2:w17.cell? ⟨gb312,2,none⟩=some (.slice Ao10 l0_2.length co10):=(qC BK312.out 2).trans rfl;have hcz18_3:w17.cell? ⟨gb312,3,none⟩=some (.slice Ao11 l0_3.length co11):=(qC BK312.out 3).trans rfl;have hcz18_4:w17.cell? ⟨gb312,4,none⟩=some (.slice Ao12 l0_4.length co12):=(qC BK312.out 4).trans rfl;have hfz18_0:=qF BK312.out 0;have hfz18_1:=qF BK312.out 1;have hfz18_2:=qF BK312.out 2;have hfz18_3:=qF BK312.out 3;have hfz18_4:=qF BK312.out 4)|((with_reducible refine gate_callee (f:=12) rfl ?_);refine goesL_ (some 16) rfl rfl Try.func12 (by kernel_rfl) rfl #[.slice Ao10 l0_2.length co10,.int .i64 t315] rfl (by (try simp only [mT,mC,mN]);first|done|rfl|(simp only [lD,lT];rfl)) ?_;(with_reducible refine (laws_markStepS.calls k (fun k_=>some k_=(.slice Ao10 l0_2.length co10:Value).ownBlock) (.slice Ao10 l0_2.length co10) l0_2 t315 t317 t318 w0 _ ?side1 ?side2 A5.out).mono ?_);(case side1=>repeat (first|(with_reducible first|exact HB.out|apply qA|apply qD|apply qO|refine qS ?_ GE312.out)|exact HB.out));(case side2=>exact Kd.R_tight rfl HO0_2.out);rintro e w19 ⟨rfl,hy0,hb,hkp⟩;refine ⟨_,rfl,?_⟩;have n0_:=qK (Kd.R_mono (ok':=fun k_=>((P0_0_ k_ ∨ P0_1_ k_ ∨ P0_2_ k_ ∨ P0_3_ k_ ∨ P0_4_ k_) ∨ w.heap.size≤k_)∧some k_ ≠ (.slice Ao9 l0_1.length co9:Value).ownBlock∧some k_ ≠ (.slice Ao10 l0_2.length co10:Value).ownBlock) (Kd.R_keptB (HO0_0.out) hkp (fun k_ hk_ hs_=>(hk_.2.2) hs_)) (fun k_ hk_=>⟨hk_.1.1,hk_.1.2.1,hk_.1.2.2⟩));have n1_:=qK (Kd.R_mono (ok':=fun k_=>((P0_0_ k_ ∨ P0_1_ k_ ∨ P0_2_ k_ ∨ P0_3_ k_ ∨ P0_4_ k_) ∨ w.heap.size≤k_)∧some k_ ≠ (.slice Ao8 l0_0.length co8:Value).ownBlock∧some k_ ≠ (.slice Ao10 l0_2.length co10:Value).ownBlock) (Kd.R_keptB (HO0_1.out) hkp (fun k_ hk_ hs_=>(hk_.2.2) hs_)) (fun k_ hk_=>⟨hk_.1.1,hk_.1.2.1,hk_.1.2.2⟩));have n2_:=qK (Kd.R_reok rfl hy0 (fun k_ e_=>HO0_2.out.1 k_ e_));have n3_:=qK (Kd.R_mono (ok':=fun k_=>((P0_0_ k_ ∨ P0_1_ k_ ∨ P0_2_ k_ ∨ P0_3_ k_ ∨ P0_4_ k_) ∨ w.heap.size≤k_)∧some k_ ≠ (.slice Ao12 l0_4.length co12:Value).ownBlock) (Kd.R_keptB ((Kd.R_apart' HO0_3.out (Kd.R_typed HO0_2.out) (by decide))) hkp (fun k_ hk_ hs_=>(hk_.2) hs_)) (fun k_ hk_=>⟨hk_.1.1.1,hk_.1.1.2⟩));have n4_:=qK (Kd.R_mono (ok':=fun k_=>((P0_0_ k_ ∨ P0_1_ k_ ∨ P0_2_ k_ ∨ P0_3_ k_ ∨ P0_4_ k_) ∨ w.heap.size≤k_)∧some k_ ≠ (.slice Ao11 l0_3.length co11:Value).ownBlock) (Kd.R_keptB ((Kd.R_apart' HO0_4.out (Kd.R_typed HO0_2.out) (by decide))) hkp (fun k_ hk_ hs_=>(hk_.2) hs_)) (fun k_ hk_=>⟨hk_.1.1.1,hk_.1.1.2⟩));have n5_:=qK (blk_kept (by (with_reducible repeat (first|refine qN ?_ _|refine qW ?_|refine qL ?_ _));exact BK312.out) hkp (fun hs_=>(fun e_=>(Kd.R_ne HO0_2.out BK312.out (by decide)) e_) hs_));have n6_:=qK (Kept.then_ (S:=(fun k_=>P0_0_ k_ ∨ P0_1_ k_ ∨ P0_2_ k_ ∨ P0_3_ k_ ∨ P0_4_ k_)) (by repeat (first|(with_reducible first|exact HK.out|apply Kept.alloc|apply Kept.drewN|apply Kept.drew|refine Kept.setCell ?_ (.inr GW312.out) _)|exact HK.out)) hkp (fun k_ hs_=>(fun e_=>(HO0_2.out.1 k_ e_.symm).1) hs_));have n7_:=qK (hb);clear HO0_0;clear HO0_1;clear HO0_2;clear HO0_3;clear HO0_4;clear BK312;clear HK;clear HB;have HO0_0:=n0_;have HO0_1:=n1_;have HO0_2:=n2_;have HO0_3:=n3_;have HO0_4:=n4_;have BK312:=n5_;have HK:=n6_;have HB:=n7_;clear n0_ n1_ n2_ n3_ n4_ n5_ n6_ n7_;(try clear hb);(try clear hkp);(try clear hy0);have hcz20_0:w19.cell? ⟨gb312,0,none⟩=some (.slice Ao8 l0_0.length co8):=(qC BK312.out 0).trans rfl;have hcz20_1:w19.cell? ⟨gb312,1,none⟩=some (.slice Ao9 l0_1.length co9):=(qC BK312.out 1).trans rfl;have hcz20_2:w19.cell? ⟨gb312,2,none⟩=some (.slice Ao10 l0_2.length co10):=(qC BK312.out 2).trans rfl;have hcz20_3:w19.cell? ⟨gb312,3,none⟩=some (.slice Ao11 l0_3.length co11):=(qC BK312.out 3).trans rfl;have hcz20_4:w19.cell? ⟨gb312,4,none⟩=some (.slice Ao12 l0_4.length co12):=(qC BK312.out 4).trans rfl;have hfz20_0:=qF BK312.out 0;have hfz20_1:=qF BK312.out 1;have hfz20_2:=qF BK312.out 2;have hfz20_3:=qF BK312.out 3;have hfz20_4:=qF BK312.out 4)|((with_reducible refine gate_callee (f:=32) rfl ?_);refine goesL_ (some 20) rfl rfl Try.func32 (by kernel_rfl) rfl #[.slice Ao11 l0_3.length co11,.int .i64 t317] rfl (by (try simp only [mT,mC,mN]);first|done|rfl|(simp only [lD,lT];rfl)) ?_;(with_reducible refine (laws_markIntS.calls k (fun k_=>some k_=(.slice Ao11 l0_3.length co11:Value).ownBlock) (.slice Ao11 l0_3.length co11) l0_3 t317 t319 t320 w0 _ ?side1 ?side2 A6.out).mono ?_);(case side1=>repeat (first|(with_reducible first|exact HB.out|apply qA|apply qD|apply qO|refine qS ?_ GE312.out)|exact HB.out));(case side2=>exact Kd.R_tight rfl HO0_3.out);rintro e w21 ⟨rfl,hy0,hb,hkp⟩;refine ⟨_,rfl,?_⟩;have n0_:=qK (Kd.R_mono (ok':=fun k_=>((P0_0_ k_ ∨ P0_1_ k_ ∨ P0_2_ k_ ∨ P0_3_ k_ ∨ P0_4_ k_) ∨ w.heap.size≤k_)∧some k_ ≠ (.slice Ao9 l0_1.length co9:Value).ownBlock∧some k_ ≠ (.slice Ao10 l0_2.length co10:Value).ownBlock) (Kd.R_keptB ((Kd.R_apart' HO0_0.out (Kd.R_typed HO0_3.out) (by decide))) hkp (fun k_ hk_ hs_=>(hk_.2) hs_)) (fun k_ hk_=>⟨hk_.1.1.1,hk_.1.1.2.1,hk_.1.1.2.2⟩));have n1_:=qK (Kd.R_mono (ok':=fun k_=>((P0_0_ k_ ∨ P0_1_ k_ ∨ P0_2_ k_ ∨ P0_3_ k_ ∨ P0_4_ k_) ∨ w.heap.size≤k_)∧some k_ ≠ (.slice Ao8 l0_0.length co8:Value).ownBlock∧some k_ ≠ (.slice Ao10 l0_2.length co10:Value).ownBlock) (Kd.R_keptB ((Kd.R_apart' HO0_1.out (Kd.R_typed HO0_3.out) (by decide))) hkp (fun k_ hk_ hs_=>(hk_.2) hs_)) (fun k_ hk_=>⟨hk_.1.1.1,hk_.1.1.2.1,hk_.1.1.2.2⟩));have n2_:=qK (Kd.R_mono (ok':=fun k_=>((P0_0_ k_ ∨ P0_1_ k_ ∨ P0_2_ k_ ∨ P0_3_ k_ ∨ P0_4_ k_) ∨ w.heap.size≤k_)∧some k_ ≠ (.slice Ao8 l0_0.length co8:Value).ownBlock∧some k_ ≠ (.slice Ao9 l0_1.length co9:Value).ownBlock) (Kd.R_keptB ((Kd.R_apart' HO0_2.out (Kd.R_typed HO0_3.out) (by decide))) hkp (fun k_ hk_ hs_=>(hk_.2) hs_)) (fun k_ hk_=>⟨hk_.1.1.1,hk_.1.1.2.1,hk_.1.1.2.2⟩));have n3_:=qK (Kd.R_reok rfl hy0 (fun k_ e_=>HO0_3.out.1 k_ e_));have n4_:=qK (Kd.R_mono (ok':=fun k_=>((P0_0_ k_ ∨ P0_1_ k_ ∨ P0_2_ k_ ∨ P0_3_ k_ ∨ P0_4_ k_) ∨ w.heap.size≤k_)∧some k_ ≠ (.slice Ao11 l0_3.length co11:Value).ownBlock) (Kd.R_keptB (HO0_4.out) hkp (fun k_ hk_ hs_=>(hk_.2) hs_)) (fun k_ hk_=>⟨hk_.1.1,hk_.1.2⟩));have n5_:=qK (blk_kept (by (with_reducible repeat (first|refine qN ?_ _|refine qW ?_|refine qL ?_ _));exact BK312.out) hkp (fun hs_=>(fun e_=>(Kd.R_ne HO0_3.out BK312.out (by decide)) e_) hs_));have n6_:=qK (Kept.then_ (S:=(fun k_=>P0_0_ k_ ∨ P0_1_ k_ ∨ P0_2_ k_ ∨ P0_3_ k_ ∨ P0_4_ k_)) (by repeat (first|(with_reducible first|exact HK.out|apply Kept.alloc|apply Kept.drewN|apply Kept.drew|refine Kept.setCell ?_ (.inr GW312.out) _)|exact HK.out)) hkp (fun k_ hs_=>(fun e_=>(HO0_3.out.1 k_ e_.symm).1) hs_));have n7_:=qK (hb);clear HO0_0;clear HO0_1;clear HO0_2;clear HO0_3;clear HO0_4;clear BK312;clear HK;clear HB;have HO0_0:=n0_;have HO0_1:=n1_;have HO0_2:=n2_;have HO0_3:=n3_;have HO0_4:=n4_;have BK312:=n5_;have HK:=n6_;have HB:=n7_;clear n0_ n1_ n2_ n3_ n4_ n5_ n6_ n7_;(try clear hb);(try clear hkp);(try clear hy0);have hcz22_0:w21.cell? ⟨gb312,0,none⟩=some (.slice Ao8 l0_0.length co8):=(qC BK312.out 0).trans rfl;have hcz22_1:w21.cell? ⟨gb312,1,none⟩=some (.slice Ao9 l0_1.length co9):=(qC BK312.out 1).trans rfl;have hcz22_2:w21.cell? ⟨gb312,2,none⟩=some (.slice Ao10 l0_2.length co10):=(qC BK312.out 2).trans rfl;have hcz22_3:w21.cell? ⟨gb312,3,none⟩=some (.slice Ao11 l0_3.length co11):=(qC BK312.out 3).trans rfl;have hcz22_4:w21.cell? ⟨gb312,4,none⟩=some (.slice Ao12 l0_4.length co12):=(qC BK312.out 4).trans rfl;have hfz22_0:=qF BK312.out 0;have hfz22_1:=qF BK312.out 1;have hfz22_2:=qF BK312.out 2;have hfz22_3:=qF BK312.out 3;have hfz22_4:=qF BK312.out 4)|((with_reducible refine gate_callee (f:=32) rfl ?_);refine goesL_ (some 24) rfl rfl Try.func32 (by kernel_rfl) rfl #[.slice Ao12 l0_4.length co12,.int .i64 t319] rfl (by (try simp only [mT,mC,mN]);first|done|rfl|(simp only [lD,lT];rfl)) ?_;(with_reducible refine (laws_markIntS.calls k (fun k_=>some k_=(.slice Ao12 l0_4.length co12:Value).ownBlock) (.slice Ao12 l0_4.length co12) l0_4 t319 t321 t322 w0 _ ?side1 ?side2 A7.out).mono ?_);(case side1=>repeat (first|(with_reducible first|exact HB.out|apply qA|apply qD|apply qO|refine qS ?_ GE312.out)|exact HB.out));(case side2=>exact Kd.R_tight rfl HO0_4.out);rintro e w23 ⟨rfl,hy0,hb,hkp⟩;refine ⟨_,rfl,?_⟩;have n0_:=qK (Kd.R_mono (ok':=fun k_=>((P0_0_ k_ ∨ P0_1_ k_ ∨ P0_2_ k_ ∨ P0_3_ k_ ∨ P0_4_ k_) ∨ w.heap.size≤k_)∧some k_ ≠ (.slice Ao9 l0_1.length co9:Value).ownBlock∧some k_ ≠ (.slice Ao10 l0_2.length co10:Value).ownBlock) (Kd.R_keptB ((Kd.R_apart' HO0_0.out (Kd.R_typed HO0_4.out) (by decide))) hkp (fun k_ hk_ hs_=>(hk_.2) hs_)) (fun k_ hk_=>⟨hk_.1.1.1,hk_.1.1.2.1,hk_.1.1.2.2⟩));have n1_:=qK (Kd.R_mono (ok':=fun k_=>((P0_0_ k_ ∨ P0_1_ k_ ∨ P0_2_ k_ ∨ P0_3_ k_ ∨ P0_4_ k_) ∨ w.heap.size≤k_)∧some k_ ≠ (.slice Ao8 l0_0.length co8:Value).ownBlock∧some k_ ≠ (.slice Ao10 l0_2.length co10:Value).ownBlock) (Kd.R_keptB ((Kd.R_apart' HO0_1.out (Kd.R_typed HO0_4.out) (by decide))) hkp (fun k_ hk_ hs_=>(hk_.2) hs_)) (fun k_ hk_=>⟨hk_.1.1.1,hk_.1.1.2.1,hk_.1.1.2.2⟩));have n2_:=qK (Kd.R_mono (ok':=fun k_=>((P0_0_ k_ ∨ P0_1_ k_ ∨ P0_2_ k_ ∨ P0_3_ k_ ∨ P0_4_ k_) ∨ w.heap.size≤k_)∧some k_ ≠ (.slice Ao8 l0_0.length co8:Value).ownBlock∧some k_ ≠ (.slice Ao9 l0_1.length co9:Value).ownBlock) (Kd.R_keptB ((Kd.R_apart' HO0_2.out (Kd.R_typed HO0_4.out) (by decide))) hkp (fun k_ hk_ hs_=>(hk_.2) hs_)) (fun k_ hk_=>⟨hk_.1.1.1,hk_.1.1.2.1,hk_.1.1.2.2⟩));have n3_:=qK (Kd.R_mono (ok':=fun k_=>((P0_0_ k_ ∨ P0_1_ k_ ∨ P0_2_ k_ ∨ P0_3_ k_ ∨ P0_4_ k_) ∨ w.heap.size≤k_)∧some k_ ≠ (.slice Ao12 l0_4.length co12:Value).ownBlock) (Kd.R_keptB (HO0_3.out) hkp (fun k_ hk_ hs_=>(hk_.2) hs_)) (fun k_ hk_=>⟨hk_.1.1,hk_.1.2⟩));have n4_:=qK (Kd.R_reok rfl hy0 (fun k_ e_=>HO0_4.out.1 k_ e_));have n5_:=qK (blk_kept (by (with_reducible repeat (first|refine qN ?_ _|refine qW ?_|refine qL ?_ _));exact BK312.out) hkp (fun hs_=>(fun e_=>(Kd.R_ne HO0_4.out BK312.out (by decide)) e_) hs_));have n6_:=qK (Kept.then_ (S:=(fun k_=>P0_0_ k_ ∨ P0_1_ k_ ∨ P0_2_ k_ ∨ P0_3_ k_ ∨ P0_4_ k_)) (by repeat (first|(with_reducible first|exact HK.out|apply Kept.alloc|apply Kept.drewN|apply Kept.drew|refine Kept.setCell ?_ (.inr GW312.out) _)|exact HK.out)) hkp (fun k_ hs_=>(fun e_=>(HO0_4.out.1 k_ e_.symm).1) hs_));have n7_:=qK (hb);clear HO0_0;clear HO0_1;clear HO0_2;clear HO0_3;clear HO0_4;clear BK312;clear HK;clear HB;have HO0_0:=n0_;have HO0_1:=n1_;have HO0_2:=n2_;have HO0_3:=n3_;have HO0_4:=n4_;have BK312:=n5_;have HK:=n6_;have HB:=n7_;clear n0_ n1_ n2_ n3_ n4_ n5_ n6_ n7_;(try clear hb);(try clear hkp);(try clear hy0)))
 go_ret
 exact ⟨by first|rfl|(simp [errW_none,errW_some] <;> rfl)|(simp [*,errW_none,errW_some] <;> rfl),by (with_reducible repeat (first|apply rL|apply rN|apply rW));exact Kd.R_mono HO0_0.out (fun _ hk=>hk.1),by (with_reducible repeat (first|apply rL|apply rN|apply rW));exact Kd.R_mono HO0_1.out (fun _ hk=>hk.1),by (with_reducible repeat (first|apply rL|apply rN|apply rW));exact Kd.R_mono HO0_2.out (fun _ hk=>hk.1),by (with_reducible repeat (first|apply rL|apply rN|apply rW));exact Kd.R_mono HO0_3.out (fun _ hk=>hk.1),by (with_reducible repeat (first|apply rL|apply rN|apply rW));exact Kd.R_mono HO0_4.out (fun _ hk=>hk.1),by repeat (first|(with_reducible first|exact HB.out|apply qA|apply qD|apply qO|refine qS ?_ GE312.out)|exact HB.out),by repeat (first|(with_reducible first|exact HK.out|apply Kept.alloc|apply Kept.drewN|apply Kept.drew|refine Kept.setCell ?_ (.inr GW312.out) _)|exact HK.out)⟩

/-! ### laws_heldStepS: function 13 -/
def laws_heldStepS.l0 : Nat→List (S47)→Int→Int→Option (Int)
 | 0,_,_,_=>none
 | k + 1,x0,x1,x5=>if x5 < (x0.length:Int) then (if 0≤x5 then (if ((rd_T47 x0 x5).f0)=x1 then (if ((rd_T47 x0 x5).f1)=(wrap64 (x1 + 1)) then (if ((rd_T47 x0 x5).f2)=(wrap64 ((wrap64 (x1 + 1)) + 1)) then (laws_heldStepS.l0 k x0 (wrap64 ((wrap64 ((wrap64 (x1 + 1)) + 1)) + 1)) (wrap64 (x5 + 1))) else (none)) else (none)) else (none)) else (none)) else (some x1)
def laws_heldStepS.f (k:Nat) (l0:List (S47)) (a1:Int):Option (Int):=laws_heldStepS.l0 k l0 a1 0
theorem laws_heldStepS.mono_l : ∀ k,(∀ y0 y1 y2,LeO (laws_heldStepS.l0 k y0 y1 y2) (laws_heldStepS.l0 (k + 1) y0 y1 y2))
 | 0=>fun _ _ _ r h=>by simp [laws_heldStepS.l0] at h
 | k + 1=>by
  have ih0:=laws_heldStepS.mono_l k
  ·intro y0 y1 y2;unfold laws_heldStepS.l0
   repeat' first
   | (with_reducible exact ih0 _ _ _)
   | (with_reducible exact LeO.refl _)
   | (with_reducible exact LeO.none _)
   | (with_reducible refine LeO.ite ?_ ?_)
   | (with_reducible refine LeO.bind ?_ (fun _=>?_))
   | exact ih0 _ _ _
   | exact LeO.none _
   | refine LeO.ite ?_ ?_
   | refine LeO.bind ?_ (fun _=>?_)
theorem laws_heldStepS.mono : ∀ a0 a1 k,LeO (laws_heldStepS.f k a0 a1) (laws_heldStepS.f (k + 1) a0 a1):=by
 intro a0 a1 k;have ih0:=laws_heldStepS.mono_l k;unfold laws_heldStepS.f
 repeat' first
   | (with_reducible exact ih0 _ _ _)
   | (with_reducible exact LeO.refl _)
   | (with_reducible exact LeO.none _)
   | (with_reducible refine LeO.ite ?_ ?_)
   | (with_reducible refine LeO.bind ?_ (fun _=>?_))
   | exact ih0 _ _ _
   | exact LeO.none _
   | refine LeO.ite ?_ ?_
   | refine LeO.bind ?_ (fun _=>?_)
set_option maxHeartbeats 8000000 in
set_option maxRecDepth 100000 in
theorem laws_heldStepS.calls (k:Nat) (A0:Option Addr) (c0:Nat) (l0:List (S47)) (a1:Int) (r:Int) (w:World) (hr0:Kd.C k47 w A0 l0.length l0) (hc0:l0.length≤c0) (h:laws_heldStepS.f k l0 a1=some r) :
  Calls Try.prog 13 #[.slice A0 l0.length c0,.int .i64 a1] w fun e w'=>e=.returned (.int .i64 r)∧Drawn0 w w':=by
 have HR0:=qK hr0;have HC0:=qK hc0;clear hr0 hc0;have H:(laws_heldStepS.l0 k l0 a1 0)=some r:=h;clear h;have H':=qK H;clear H;go_enter Try.func13,Try.ntmps13
 go_wp2
 go_loopg [1,5] k (fun kq v1 v5 w'=>∃ (x1_1:Int) (x5_1:Int),v1=.int .i64 x1_1∧v5=.int .i64 x5_1∧Aside0 (laws_heldStepS.l0 kq l0 x1_1 x5_1=some r)∧Aside0 (kq≤k)∧Drawn0 w w')
 case atStart=>exact ⟨(a1),(0),(by first|rfl|(simp;done)|(simp [*];done)),(by first|rfl|(simp;done)|(simp [*];done)),H',⟨Nat.le_refl _⟩,by repeat (first|exact Drawn0.refl _|apply Drawn0.step)⟩
 case round =>
  clear H';try clear c1
  try clear p2
  obtain ⟨x1_1,x5_1,rfl,rfl,HA,HK1,⟨m1,rfl⟩⟩:=hrel;cases gk with
  | zero=>exact absurd HA.out (by simp [laws_heldStepS.l0])
  | succ k1 =>
   have H:=HA.out;clear HA;simp only [laws_heldStepS.l0] at H;by_cases c3:x5_1 < (l0.length:Int)
   ·rw [if_pos c3] at H;have c3b0:decide (x5_1 < (l0.length:Int))=true:=decide_eq_true c3;clear c3;by_cases c4:0≤x5_1
    ·rw [if_pos c4] at H;have c4b0:decide (0≤x5_1)=true:=decide_eq_true c4;clear c4;by_cases c5:((rd_T47 l0 x5_1).f0)=x1_1
     ·rw [if_pos c5] at H;have c5b0:(((rd_T47 l0 x5_1).f0) == x1_1)=true:=beq_iff_eq.mpr c5;have c5b1:(((rd_T47 l0 x5_1).f0) != x1_1)=false:=bne_eq_false_iff_eq.mpr c5;clear c5;by_cases c6:((rd_T47 l0 x5_1).f1)=(wrap64 (x1_1 + 1))
      ·rw [if_pos c6] at H;have c6b0:(((rd_T47 l0 x5_1).f1) == (wrap64 (x1_1 + 1)))=true:=beq_iff_eq.mpr c6;have c6b1:(((rd_T47 l0 x5_1).f1) != (wrap64 (x1_1 + 1)))=false:=bne_eq_false_iff_eq.mpr c6;clear c6;by_cases c7:((rd_T47 l0 x5_1).f2)=(wrap64 ((wrap64 (x1_1 + 1)) + 1))
       ·rw [if_pos c7] at H;have c7b0:(((rd_T47 l0 x5_1).f2) == (wrap64 ((wrap64 (x1_1 + 1)) + 1)))=true:=beq_iff_eq.mpr c7;have c7b1:(((rd_T47 l0 x5_1).f2) != (wrap64 ((wrap64 (x1_1 + 1)) + 1)))=false:=bne_eq_false_iff_eq.mpr c7;clear c7;have H':=qK H;clear H;have p323:0≤(x5_1:Int):=of_decide_eq_true (by first|(with_reducible assumption)|assumption);have q323:x5_1 < (l0.length:Int):=of_decide_eq_true (by first|(with_reducible assumption)|assumption);obtain ⟨ad323,e323,hx323_0,hx323_1,hx323_2⟩:=at_T47 HR0.out x5_1 p323 q323;cases e323
        replace p323:=eq_true p323;replace q323:=eq_true q323;have p324:0≤(x5_1:Int):=of_decide_eq_true (by first|(with_reducible assumption)|assumption);have q324:x5_1 < (l0.length:Int):=of_decide_eq_true (by first|(with_reducible assumption)|assumption);obtain ⟨ad324,e324,hx324_0,hx324_1,hx324_2⟩:=at_T47 HR0.out x5_1 p324 q324;obtain rfl:ad323=ad324:=(by injection e324);replace p324:=eq_true p324;replace q324:=eq_true q324;have p325:0≤(x5_1:Int):=of_decide_eq_true (by first|(with_reducible assumption)|assumption);have q325:x5_1 < (l0.length:Int):=of_decide_eq_true (by first|(with_reducible assumption)|assumption);obtain ⟨ad325,e325,hx325_0,hx325_1,hx325_2⟩:=at_T47 HR0.out x5_1 p325 q325;obtain rfl:ad323=ad325:=(by injection e325);replace p325:=eq_true p325;replace q325:=eq_true q325;go_wp2
        go_roundg k1
        case measure=>have:=HK1.out;omega
        case rel=>exact ⟨(wrap64 ((wrap64 ((wrap64 (x1_1 + 1)) + 1)) + 1)),(wrap64 (x5_1 + 1)),(by first|rfl|(simp;done)|(simp [*];done)),(by first|rfl|(simp;done)|(simp [*];done)),H',⟨by have:=HK1.out;omega⟩,by repeat (first|exact Drawn0.refl _|apply Drawn0.step)⟩
       ·rw [if_neg c7] at H;exact absurd H (by simp)
      ·rw [if_neg c6] at H;exact absurd H (by simp)
     ·rw [if_neg c5] at H;exact absurd H (by simp)
    ·rw [if_neg c4] at H;exact absurd H (by simp)
   ·rw [if_neg c3] at H;have c3b0:decide (x5_1 < (l0.length:Int))=false:=decide_eq_false c3;clear c3;obtain rfl:=Option.some.inj H;go_wp2
    go_ret
    exact ⟨by first|rfl|(simp;done)|(simp [*];done),by repeat (first|exact Drawn0.refl _|apply Drawn0.step)⟩

end Go.Proofs.Ytfnaclgiggkbmaa.PFnExactRunDone
