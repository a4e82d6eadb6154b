/-
  A text of this claim's own, printed by a program of the session (wip/tools/xprint.py): functions of the program as Lean functions, each with what its call comes to.
-/
import Derived.Test.YtecebaeifmddnaaPFnExactBestOfx0
import Derived.Test.YtecebaeifmddnaaPFnExactBestOfx1
import Derived.Test.YtecebaeifmddnaaPFnExactBestOfx4
import Derived.Test.YtecebaeifmddnaaPFnExactBestOfx5
namespace Go.Proofs.Ytecebaeifmddnaa.PFnExactBestOf
open Go.Proofs.YtecebaeifmddnaaW.PrintWords renaming pw_below_drewN → qD, blk_cell → qC, below_drew1 → qO, below_alloc → qA, blk_frozen → qF, below_set → qS, blk_drewN → qN, blk_alloc → qL, blk_drew → qW, below_size → qZ, below_step → qT, blk_below → qB, blk_far → qR, blk_put → qP
open Go.Proofs.YtecebaeifmddnaaW.PrintWords.Aside0 renaming mk → qK
open Bool renaming true → Y, false → Z
open List renaming setIfInBounds_toArray → sIb, set_cons_zero → sZ, set_cons_succ → sS, map_toArray → mT, map_cons → mC, map_nil → mN, length_drop → lD, length_take → lT
open Go.Proofs.YtecebaeifmddnaaW.PrintWords.Kd renaming C_alloc → cL, C_drewN → cN, C_drew → cW, C_below → cB, R_alloc → rL, R_drewN → rN, R_drew → rW, R_below → rB
open Go.RowKit Go.Proofs.YtecebaeifmddnaaW.PrintWords Go.Proofs.YtecebaeifmddnaaW.PrintLast Go.Proofs.YtecebaeifmddnaaW.PrintMore
attribute [local go_sem] max2_int min2_int max_two min_two max_three min_three max_four min_four   -- for this text's walks alone
set_option linter.unusedVariables false
set_option linter.unusedSimpArgs false

/-! ### laws_eqIntSS: function 37 -/
def laws_eqIntSS.l0 : Nat→List (List Int)→List (List Int)→Int→Option (Bool)
 | 0,_,_,_=>none
 | k + 1,x0,x1,x5=>if x5 < (x0.length:Int) then (if 0≤x5 then (if x5 < (x1.length:Int) then ((laws_eqIntS.f k (rd_L1 x0 x5) (rd_L1 x1 x5)).bind fun t279=>(if t279=true then (laws_eqIntSS.l0 k x0 x1 (wrap64 (x5 + 1))) else (none))) else (none)) else (none)) else (some true)
def laws_eqIntSS.f (k:Nat) (l0:List (List Int)) (l1:List (List Int)):Option (Bool):=if (l0.length:Int)=(l1.length:Int) then (laws_eqIntSS.l0 k l0 l1 0) else (none)
theorem laws_eqIntSS.mono_l : ∀ k,(∀ y0 y1 y2,LeO (laws_eqIntSS.l0 k y0 y1 y2) (laws_eqIntSS.l0 (k + 1) y0 y1 y2))
 | 0=>fun _ _ _ r h=>by simp [laws_eqIntSS.l0] at h
 | k + 1=>by
  have ih0:=laws_eqIntSS.mono_l k
  ·intro y0 y1 y2;unfold laws_eqIntSS.l0
   repeat' first
   | (with_reducible exact ih0 _ _ _)
   | (with_reducible exact laws_eqIntS.mono _ _ _)
   | (with_reducible exact LeO.refl _)
   | (with_reducible exact LeO.none _)
   | (with_reducible refine LeO.ite ?_ ?_)
   | (with_reducible refine LeO.bind ?_ (fun _=>?_))
   | exact ih0 _ _ _
   | exact laws_eqIntS.mono _ _ _
   | exact LeO.none _
   | refine LeO.ite ?_ ?_
   | refine LeO.bind ?_ (fun _=>?_)
theorem laws_eqIntSS.mono : ∀ a0 a1 k,LeO (laws_eqIntSS.f k a0 a1) (laws_eqIntSS.f (k + 1) a0 a1):=by
 intro a0 a1 k;have ih0:=laws_eqIntSS.mono_l k;unfold laws_eqIntSS.f
 repeat' first
   | (with_reducible exact ih0 _ _ _)
   | (with_reducible exact laws_eqIntS.mono _ _ _)
   | (with_reducible exact LeO.refl _)
   | (with_reducible exact LeO.none _)
   | (with_reducible refine LeO.ite ?_ ?_)
   | (with_reducible refine LeO.bind ?_ (fun _=>?_))
   | exact ih0 _ _ _
   | exact laws_eqIntS.mono _ _ _
   | exact LeO.none _
   | refine LeO.ite ?_ ?_
   | refine LeO.bind ?_ (fun _=>?_)
set_option maxHeartbeats 8000000 in
set_option maxRecDepth 100000 in
theorem laws_eqIntSS.calls (k:Nat) (A0:Option Addr) (c0:Nat) (l0:List (List Int)) (A1:Option Addr) (c1:Nat) (l1:List (List Int)) (r:Bool) (w:World) (hr0:Kd.C (Kd.slice 3 (Kd.int .i64)) w A0 l0.length l0) (hc0:l0.length≤c0) (hr1:Kd.C (Kd.slice 3 (Kd.int .i64)) w A1 l1.length l1) (hc1:l1.length≤c1) (h:laws_eqIntSS.f k l0 l1=some r) :
  Calls Try.prog 37 #[.slice A0 l0.length c0,.slice A1 l1.length c1] w fun e w'=>e=.returned (.bool r)∧Drawn0 w w':=by
 have HR0:=qK hr0;have HC0:=qK hc0;clear hr0 hc0;have HR1:=qK hr1;have HC1:=qK hc1;clear hr1 hc1;have H:(if (l0.length:Int)=(l1.length:Int) then (laws_eqIntSS.l0 k l0 l1 0) else (none))=some r:=h;clear h;by_cases c3:(l0.length:Int)=(l1.length:Int)
 ·rw [if_pos c3] at H;have c3b0:((l0.length:Int) == (l1.length:Int))=true:=beq_iff_eq.mpr c3;have c3b1:((l0.length:Int) != (l1.length:Int))=false:=bne_eq_false_iff_eq.mpr c3;have c3b2:(l0.length == l1.length)=true:=by first|simpa using c3|(simp at c3 ⊢;omega)
  clear c3;have H':=qK H;clear H;go_enter Try.func37,Try.ntmps37
  go_wp2
  repeat (go_quiet (fail);try go_wp2)
  go_loopg [5] k (fun kq v5 w'=>∃ (x5_1:Int),v5=.int .i64 x5_1∧Aside0 (laws_eqIntSS.l0 kq l0 l1 x5_1=some r)∧Aside0 (kq≤k)∧Drawn0 w w')
  case atStart=>exact ⟨(0),(by first|rfl|(simp;done)|(simp [*];done)),H',⟨Nat.le_refl _⟩,by repeat (first|exact Drawn0.refl _|apply Drawn0.step)⟩
  case round =>
   clear H';try clear c1
   try clear p2
   try clear c3
   try clear c3b0
   try clear c3b1
   try clear c3b2
   obtain ⟨x5_1,rfl,HA,HK1,⟨m1,rfl⟩⟩:=hrel;cases gk with
   | zero=>exact absurd HA.out (by simp [laws_eqIntSS.l0])
   | succ k1 =>
    have H:=HA.out;clear HA;simp only [laws_eqIntSS.l0] at H;by_cases c4:x5_1 < (l0.length:Int)
    ·rw [if_pos c4] at H;have c4b0:decide (x5_1 < (l0.length:Int))=true:=decide_eq_true c4;clear c4;by_cases c5:0≤x5_1
     ·rw [if_pos c5] at H;have c5b0:decide (0≤x5_1)=true:=decide_eq_true c5;clear c5;by_cases c6:x5_1 < (l1.length:Int)
      ·rw [if_pos c6] at H;have c6b0:decide (x5_1 < (l1.length:Int))=true:=decide_eq_true c6;clear c6;replace H:=Option.bind_eq_some_iff.mp H;obtain ⟨t279,A70,H⟩:=H;replace H:(if t279=true then (laws_eqIntSS.l0 k1 l0 l1 (wrap64 (x5_1 + 1))) else (none))=some r:=H;have A7:=qK A70;clear A70;by_cases c8:t279=true
       ·subst c8;have H1:(laws_eqIntSS.l0 k1 l0 l1 (wrap64 (x5_1 + 1)))=some r:=by rw [if_pos rfl] at H;exact H
        clear H;have H:=H1;clear H1;have H':=qK H;clear H;have p277:0≤(x5_1:Int):=of_decide_eq_true (by first|(with_reducible assumption)|assumption);have q277:x5_1 < (l0.length:Int):=of_decide_eq_true (by first|(with_reducible assumption)|assumption);obtain ⟨ad277,A277_0,c277_0,e277,hx277_0,hl277_0,hi277_0⟩:=at_L1 HR0.out x5_1 p277 q277;cases e277
        have HR277_0:=qK hi277_0;have HC277_0:=qK hl277_0;clear hi277_0 hl277_0;replace p277:=eq_true p277;replace q277:=eq_true q277;have p278:0≤(x5_1:Int):=of_decide_eq_true (by first|(with_reducible assumption)|assumption);have q278:x5_1 < (l1.length:Int):=of_decide_eq_true (by first|(with_reducible assumption)|assumption);obtain ⟨ad278,A278_0,c278_0,e278,hx278_0,hl278_0,hi278_0⟩:=at_L1 HR1.out x5_1 p278 q278;cases e278
        have HR278_0:=qK hi278_0;have HC278_0:=qK hl278_0;clear hi278_0 hl278_0;replace p278:=eq_true p278;replace q278:=eq_true q278;go_wp2_with (first|(go_at_call 11;(with_reducible refine (laws_eqIntS.calls k1 _ _ (rd_L1 l0 x5_1) _ _ (rd_L1 l1 x5_1) true _ ?side1 ?side2 ?side3 ?side4 A7.out).mono ?_);(case side1=>repeat (first|exact HR277_0.out|(with_reducible first|refine cL ?_ _|refine cN ?_ _|refine cW ?_)));(case side2=>exact HC277_0.out);(case side3=>repeat (first|exact HR278_0.out|(with_reducible first|refine cL ?_ _|refine cN ?_ _|refine cW ?_)));(case side4=>exact HC278_0.out);rintro e w' ⟨rfl,⟨nd,rfl⟩⟩;(try first|exact ⟨rfl,_,World.drewN_drewN _ _ _⟩|exact ⟨rfl,_,Eq.trans (World.drewN_drewN _ _ _) (congrArg (World.drewN _) (Nat.add_assoc _ _ _))⟩)))
        repeat (go_quiet (first|(go_at_call 11;(with_reducible refine (laws_eqIntS.calls k1 _ _ (rd_L1 l0 x5_1) _ _ (rd_L1 l1 x5_1) true _ ?side1 ?side2 ?side3 ?side4 A7.out).mono ?_);(case side1=>repeat (first|exact HR277_0.out|(with_reducible first|refine cL ?_ _|refine cN ?_ _|refine cW ?_)));(case side2=>exact HC277_0.out);(case side3=>repeat (first|exact HR278_0.out|(with_reducible first|refine cL ?_ _|refine cN ?_ _|refine cW ?_)));(case side4=>exact HC278_0.out);rintro e w' ⟨rfl,⟨nd,rfl⟩⟩;(try first|exact ⟨rfl,_,World.drewN_drewN _ _ _⟩|exact ⟨rfl,_,Eq.trans (World.drewN_drewN _ _ _) (congrArg (World.drewN _) (Nat.add_assoc _ _ _))⟩)));try go_wp2_with (first|(go_at_call 11;(with_reducible refine (laws_eqIntS.calls k1 _ _ (rd_L1 l0 x5_1) _ _ (rd_L1 l1 x5_1) true _ ?side1 ?side2 ?side3 ?side4 A7.out).mono ?_);(case side1=>repeat (first|exact HR277_0.out|(with_reducible first|refine cL ?_ _|refine cN ?_ _|refine cW ?_)));(case side2=>exact HC277_0.out);(case side3=>repeat (first|exact HR278_0.out|(with_reducible first|refine cL ?_ _|refine cN ?_ _|refine cW ?_)));(case side4=>exact HC278_0.out);rintro e w' ⟨rfl,⟨nd,rfl⟩⟩;(try first|exact ⟨rfl,_,World.drewN_drewN _ _ _⟩|exact ⟨rfl,_,Eq.trans (World.drewN_drewN _ _ _) (congrArg (World.drewN _) (Nat.add_assoc _ _ _))⟩))))
        go_roundg k1
        case measure=>have:=HK1.out;omega
        case rel=>exact ⟨(wrap64 (x5_1 + 1)),(by first|rfl|(simp;done)|(simp [*];done)),H',⟨by have:=HK1.out;omega⟩,by repeat (first|exact Drawn0.refl _|apply Drawn0.step)⟩
       ·replace c8:=Bool.eq_false_iff.mpr c8;subst c8;have H1:(none)=some r:=by rw [if_neg (show ¬ (false=true) by decide)] at H;exact H
        clear H;have H:=H1;clear H1;exact absurd H (by simp)
      ·rw [if_neg c6] at H;exact absurd H (by simp)
     ·rw [if_neg c5] at H;exact absurd H (by simp)
    ·rw [if_neg c4] at H;have c4b0:decide (x5_1 < (l0.length:Int))=false:=decide_eq_false c4;clear c4;obtain rfl:=Option.some.inj H;go_wp2
     repeat (go_quiet (fail);try go_wp2)
     go_ret
     exact ⟨by first|rfl|(simp;done)|(simp [*];done),by repeat (first|exact Drawn0.refl _|apply Drawn0.step)⟩
 ·rw [if_neg c3] at H;exact absurd H (by simp)

/-! ### laws_eqStats: function 12 -/
def laws_eqStats.f (k:Nat) (l0_0:List Int) (l0_1:List (List Int)) (l1_0:List Int) (l1_1:List (List Int)):Option (Bool):=(laws_eqIntS.f k l0_0 l1_0).bind fun t282=>(if t282=true then ((laws_eqIntSS.f k l0_1 l1_1).bind fun t283=>(if t283=true then (some true) else (none))) else (none))
theorem laws_eqStats.mono : ∀ a0 a1 a2 a3 k,LeO (laws_eqStats.f k a0 a1 a2 a3) (laws_eqStats.f (k + 1) a0 a1 a2 a3):=by
 intro a0 a1 a2 a3 k;unfold laws_eqStats.f
 repeat' first
   | (with_reducible exact laws_eqIntS.mono _ _ _)
   | (with_reducible exact laws_eqIntSS.mono _ _ _)
   | (with_reducible exact LeO.refl _)
   | (with_reducible exact LeO.none _)
   | (with_reducible refine LeO.ite ?_ ?_)
   | (with_reducible refine LeO.bind ?_ (fun _=>?_))
   | exact laws_eqIntS.mono _ _ _
   | exact laws_eqIntSS.mono _ _ _
   | exact LeO.none _
   | refine LeO.ite ?_ ?_
   | refine LeO.bind ?_ (fun _=>?_)
set_option maxHeartbeats 8000000 in
set_option maxRecDepth 100000 in
theorem laws_eqStats.calls (k:Nat) (A0_0:Option Addr) (c0_0:Nat) (l0_0:List Int) (A0_1:Option Addr) (c0_1:Nat) (l0_1:List (List Int)) (A1_0:Option Addr) (c1_0:Nat) (l1_0:List Int) (A1_1:Option Addr) (c1_1:Nat) (l1_1:List (List Int)) (r:Bool) (w:World) (hr0_0:Kd.C (Kd.int .i64) w A0_0 l0_0.length l0_0) (hc0_0:l0_0.length≤c0_0) (hr0_1:Kd.C (Kd.slice 3 (Kd.int .i64)) w A0_1 l0_1.length l0_1) (hc0_1:l0_1.length≤c0_1) (hr1_0:Kd.C (Kd.int .i64) w A1_0 l1_0.length l1_0) (hc1_0:l1_0.length≤c1_0) (hr1_1:Kd.C (Kd.slice 3 (Kd.int .i64)) w A1_1 l1_1.length l1_1) (hc1_1:l1_1.length≤c1_1) (h:laws_eqStats.f k l0_0 l0_1 l1_0 l1_1=some r) :
  Calls Try.prog 12 #[.agg #[.slice A0_0 l0_0.length c0_0,.slice A0_1 l0_1.length c0_1],.agg #[.slice A1_0 l1_0.length c1_0,.slice A1_1 l1_1.length c1_1]] w fun e w'=>e=.returned (.bool r)∧Below w.heap.size w w':=by
 have hu29:=Try.underlying29;have HR0_0:=qK hr0_0;have HC0_0:=qK hc0_0;clear hr0_0 hc0_0;have HR0_1:=qK hr0_1;have HC0_1:=qK hc0_1;clear hr0_1 hc0_1;have HR1_0:=qK hr1_0;have HC1_0:=qK hc1_0;clear hr1_0 hc1_0;have HR1_1:=qK hr1_1;have HC1_1:=qK hc1_1;clear hr1_1 hc1_1;have HB:=qK (Below.refl w.heap.size w);have H:((laws_eqIntS.f k l0_0 l1_0).bind fun t282=>(if t282=true then ((laws_eqIntSS.f k l0_1 l1_1).bind fun t283=>(if t283=true then (some true) else (none))) else (none)))=some r:=h;clear h;replace H:=Option.bind_eq_some_iff.mp H;obtain ⟨t282,A30,H⟩:=H;replace H:(if t282=true then ((laws_eqIntSS.f k l0_1 l1_1).bind fun t283=>(if t283=true then (some true) else (none))) else (none))=some r:=H;have A3:=qK A30;clear A30;by_cases c4:t282=true
 ·subst c4;have H1:((laws_eqIntSS.f k l0_1 l1_1).bind fun t283=>(if t283=true then (some true) else (none)))=some r:=by rw [if_pos rfl] at H;exact H
  clear H;have H:=H1;clear H1;replace H:=Option.bind_eq_some_iff.mp H;obtain ⟨t283,A50,H⟩:=H;replace H:(if t283=true then (some true) else (none))=some r:=H;have A5:=qK A50;clear A50;by_cases c6:t283=true
  ·subst c6;have H1:(some true)=some r:=by rw [if_pos rfl] at H;exact H
   clear H;have H:=H1;clear H1;obtain rfl:=Option.some.inj H;go_enter Try.func12,Try.ntmps12
   go_wp2_with (first|((with_reducible refine gate_dst (N:=2) rfl ?_);refine box_event ?hg (N:=2) ?hd (cs:=#[.slice A0_0 l0_0.length c0_0,.slice A0_1 l0_1.length c0_1]) (t:=29) ?hr ?_;(case hd=>rfl);(case hg=>rfl);(case hr=>(go_simp;try rfl));intro gb280 hg w7 hbox hb;have n0_:=qK (qT (by repeat (with_reducible first|exact HB.out|apply qA|apply qD|apply qO)) hb);have n1_:=qK (hbox);have n2_:=qK ((by rw [hg];exact (qZ (by repeat (with_reducible first|exact HB.out|apply qA|apply qD|apply qO))):w.heap.size≤gb280));have n3_:=qK ((by rw [hg];exact (qZ (by repeat (with_reducible first|exact HB.out|apply qA|apply qD|apply qO))):w.heap.size≤gb280));clear HB;have HB:=n0_;have BK280:=n1_;have GW280:=n2_;have GE280:=n3_;clear n0_ n1_ n2_ n3_;clear hb hbox hg)|((with_reducible refine gate_dst (N:=3) rfl ?_);refine box_event ?hg (N:=3) ?hd (cs:=#[.slice A1_0 l1_0.length c1_0,.slice A1_1 l1_1.length c1_1]) (t:=29) ?hr ?_;(case hd=>rfl);(case hg=>rfl);(case hr=>(go_simp;try rfl));intro gb281 hg w8 hbox hb;have n0_:=qK (qB (g:=gb280) (o:=_) (by (with_reducible repeat (first|refine qN ?_ _|refine qW ?_|refine qL ?_ _));exact BK280.out) hb);have n1_:=qK (qT (by repeat (with_reducible first|exact HB.out|apply qA|apply qD|apply qO|refine qS ?_ GE280.out)) hb);have n2_:=qK (hbox);have n3_:=qK ((by rw [hg];exact (qZ (by repeat (with_reducible first|exact HB.out|apply qA|apply qD|apply qO|refine qS ?_ GE280.out))):w.heap.size≤gb281));have n4_:=qK ((by rw [hg];exact (qZ (by repeat (with_reducible first|exact HB.out|apply qA|apply qD|apply qO|refine qS ?_ GE280.out))):w.heap.size≤gb281));have n5_:=qK ((by rw [hg];exact Nat.ne_of_lt (blk_lt (g:=gb280) (o:=_) (by (with_reducible repeat (first|refine qN ?_ _|refine qW ?_|refine qL ?_ _));exact BK280.out)):gb280 ≠ gb281));have n6_:=qK ((by rw [hg];exact Nat.ne_of_gt (blk_lt (g:=gb280) (o:=_) (by (with_reducible repeat (first|refine qN ?_ _|refine qW ?_|refine qL ?_ _));exact BK280.out)):gb281 ≠ gb280));clear BK280;clear HB;have BK280:=n0_;have HB:=n1_;have BK281:=n2_;have GW281:=n3_;have GE281:=n4_;have NB280_281:=n5_;have NB281_280:=n6_;clear n0_ n1_ n2_ n3_ n4_ n5_ n6_;clear hb hbox hg;have hnb9:=NB280_281.out;have hnc9:=NB281_280.out;have hcz10_0:w8.cell? ⟨gb280,0,none⟩=some (.slice A0_0 l0_0.length c0_0):=(qC BK280.out 0).trans rfl;have hcz10_1:w8.cell? ⟨gb280,1,none⟩=some (.slice A0_1 l0_1.length c0_1):=(qC BK280.out 1).trans rfl;have hfz10_0:=qF BK280.out 0;have hfz10_1:=qF BK280.out 1;have hcz11_0:w8.cell? ⟨gb281,0,none⟩=some (.slice A1_0 l1_0.length c1_0):=(qC BK281.out 0).trans rfl;have hcz11_1:w8.cell? ⟨gb281,1,none⟩=some (.slice A1_1 l1_1.length c1_1):=(qC BK281.out 1).trans rfl;have hfz11_0:=qF BK281.out 0;have hfz11_1:=qF BK281.out 1)|((with_reducible refine gate_callee (f:=11) rfl ?_);refine goesL_ (some 9) rfl rfl Try.func11 (by kernel_rfl) rfl #[.slice A0_0 l0_0.length c0_0,.slice A1_0 l1_0.length c1_0] rfl (by (try simp only [mT,mC,mN]);first|done|rfl|(simp only [lD,lT];rfl)) ?_;(with_reducible refine (laws_eqIntS.calls k _ _ l0_0 _ _ l1_0 true _ ?side1 ?side2 ?side3 ?side4 A3.out).mono ?_);(case side1=>repeat (first|exact (cB HR0_0.out HB.out)|(with_reducible first|refine cL ?_ _|refine cN ?_ _|refine cW ?_)));(case side2=>exact HC0_0.out);(case side3=>repeat (first|exact (cB HR1_0.out HB.out)|(with_reducible first|refine cL ?_ _|refine cN ?_ _|refine cW ?_)));(case side4=>exact HC1_0.out);rintro e w' ⟨rfl,⟨nd,rfl⟩⟩;refine ⟨_,rfl,?_⟩)|((with_reducible refine gate_callee (f:=37) rfl ?_);refine goesL_ (some 15) rfl rfl Try.func37 (by kernel_rfl) rfl #[.slice A0_1 l0_1.length c0_1,.slice A1_1 l1_1.length c1_1] rfl (by (try simp only [mT,mC,mN]);first|done|rfl|(simp only [lD,lT];rfl)) ?_;(with_reducible refine (laws_eqIntSS.calls k _ _ l0_1 _ _ l1_1 true _ ?side1 ?side2 ?side3 ?side4 A5.out).mono ?_);(case side1=>repeat (first|exact (cB HR0_1.out (by repeat (with_reducible first|exact HB.out|apply qA|apply qD|apply qO|refine qS ?_ GE280.out|refine qS ?_ GE281.out)))|(with_reducible first|refine cL ?_ _|refine cN ?_ _|refine cW ?_)));(case side2=>exact HC0_1.out);(case side3=>repeat (first|exact (cB HR1_1.out (by repeat (with_reducible first|exact HB.out|apply qA|apply qD|apply qO|refine qS ?_ GE280.out|refine qS ?_ GE281.out)))|(with_reducible first|refine cL ?_ _|refine cN ?_ _|refine cW ?_)));(case side4=>exact HC1_1.out);rintro e w' ⟨rfl,⟨nd,rfl⟩⟩;refine ⟨_,rfl,?_⟩))
   go_ret
   exact ⟨by first|rfl|(simp [errW_none,errW_some] <;> rfl)|(simp [*,errW_none,errW_some] <;> rfl),by repeat (first|(with_reducible first|exact HB.out|apply qA|apply qD|apply qO|refine qS ?_ GE280.out|refine qS ?_ GE281.out)|exact HB.out)⟩
  ·replace c6:=Bool.eq_false_iff.mpr c6;subst c6;have H1:(none)=some r:=by rw [if_neg (show ¬ (false=true) by decide)] at H;exact H
   clear H;have H:=H1;clear H1;exact absurd H (by simp)
 ·replace c4:=Bool.eq_false_iff.mpr c4;subst c4;have H1:(none)=some r:=by rw [if_neg (show ¬ (false=true) by decide)] at H;exact H
  clear H;have H:=H1;clear H1;exact absurd H (by simp)

/-! ### laws_markIntS: function 14 -/
def laws_markIntS.l0 : Nat→List Int→Int→Int→Option (Int × List Int)
 | 0,_,_,_=>none
 | k + 1,x0,x1,x5=>if x5 < (x0.length:Int) then (if 0≤x5 then (laws_markIntS.l0 k (x0.set (x5:Int).toNat x1) (wrap64 (x1 + 1)) (wrap64 (x5 + 1))) else (none)) else (some (x1,x0))
def laws_markIntS.f (k:Nat) (l0:List Int) (a1:Int):Option (Int × List Int):=laws_markIntS.l0 k l0 a1 0
theorem laws_markIntS.mono_l : ∀ k,(∀ y0 y1 y2,LeO (laws_markIntS.l0 k y0 y1 y2) (laws_markIntS.l0 (k + 1) y0 y1 y2))
 | 0=>fun _ _ _ r h=>by simp [laws_markIntS.l0] at h
 | k + 1=>by
  have ih0:=laws_markIntS.mono_l k
  ·intro y0 y1 y2;unfold laws_markIntS.l0
   repeat' first
   | (with_reducible exact ih0 _ _ _)
   | (with_reducible exact LeO.refl _)
   | (with_reducible exact LeO.none _)
   | (with_reducible refine LeO.ite ?_ ?_)
   | (with_reducible refine LeO.bind ?_ (fun _=>?_))
   | exact ih0 _ _ _
   | exact LeO.none _
   | refine LeO.ite ?_ ?_
   | refine LeO.bind ?_ (fun _=>?_)
theorem laws_markIntS.mono : ∀ a0 a1 k,LeO (laws_markIntS.f k a0 a1) (laws_markIntS.f (k + 1) a0 a1):=by
 intro a0 a1 k;have ih0:=laws_markIntS.mono_l k;unfold laws_markIntS.f
 repeat' first
   | (with_reducible exact ih0 _ _ _)
   | (with_reducible exact LeO.refl _)
   | (with_reducible exact LeO.none _)
   | (with_reducible refine LeO.ite ?_ ?_)
   | (with_reducible refine LeO.bind ?_ (fun _=>?_))
   | exact ih0 _ _ _
   | exact LeO.none _
   | refine LeO.ite ?_ ?_
   | refine LeO.bind ?_ (fun _=>?_)
set_option maxHeartbeats 8000000 in
set_option maxRecDepth 100000 in
theorem laws_markIntS.calls (k:Nat) (P0_:Nat→Prop) (u9000_:Value) (l0:List Int) (a1:Int) (r1:Int) (r2:List Int) (w0 w:World) (hB:Below w0.heap.size w0 w) (ho0:Kd.R (Kd.int .i64) 3 w w0.heap.size P0_ u9000_ l0) (h:laws_markIntS.f k l0 a1=some (r1,r2)) :
  Calls Try.prog 14 #[u9000_,.int .i64 a1] w fun e w'=>e=.returned (.int .i64 r1)∧Kd.R (Kd.int .i64) 3 w' w0.heap.size (fun k_=>(P0_ k_ ∨ w.heap.size≤k_)) u9000_ r2∧Below w0.heap.size w0 w'∧Kept w w' (fun k_=>P0_ k_):=by
 have HO0:=qK (show Kd.R (Kd.int .i64) 3 w w0.heap.size (fun k_=>(P0_ k_ ∨ w.heap.size≤k_)) u9000_ l0 from Kd.R_mono ho0 (fun k_ hk=>(.inl hk)));have HK:=qK (Kept.refl w (fun k_=>P0_ k_));have HW0:=qK hB.size;have HB:=qK hB;clear hB;have H:(laws_markIntS.l0 k l0 a1 0)=some (r1,r2):=h;clear h;have H':=qK H;clear H;go_enter Try.func14,Try.ntmps14
 go_wp2
 go_loopg [1,5] k (fun kq v1 v5 w'=>∃ (x0_1:List Int) (x1_1:Int) (x5_1:Int),v1=.int .i64 x1_1∧v5=.int .i64 x5_1∧Aside0 (laws_markIntS.l0 kq x0_1 x1_1 x5_1=some (r1,r2))∧Aside0 (kq≤k)∧Aside0 (Kd.R (Kd.int .i64) 3 w' w0.heap.size (fun k_=>(P0_ k_ ∨ w.heap.size≤k_)) u9000_ x0_1)∧Aside0 (Kept w w' (fun k_=>P0_ k_))∧Aside0 (Below w0.heap.size w0 w'))
 case atStart=>exact ⟨(l0),(a1),(0),(by first|rfl|(simp;done)|(simp [*];done)),(by first|rfl|(simp;done)|(simp [*];done)),H',⟨Nat.le_refl _⟩,⟨by (with_reducible repeat (first|apply rL|apply rN|apply rW));exact HO0.out⟩,⟨by repeat (first|(with_reducible first|exact HK.out|apply Kept.alloc|apply Kept.drewN|apply Kept.drew)|exact HK.out)⟩,⟨by repeat (first|(with_reducible first|exact HB.out|apply qA|apply qD|apply qO)|exact HB.out)⟩⟩
 case round =>
  clear H';try clear c1
  try clear p2
  obtain ⟨x0_1,x1_1,x5_1,rfl,rfl,HA,HK1,HO_0,HK,HB⟩:=hrel;cases gk with
  | zero=>exact absurd HA.out (by simp [laws_markIntS.l0])
  | succ k1 =>
   have H:=HA.out;clear HA;simp only [laws_markIntS.l0] at H;by_cases c3:x5_1 < (x0_1.length:Int)
   ·rw [if_pos c3] at H;have c3b0:decide (x5_1 < (x0_1.length:Int))=true:=decide_eq_true c3;clear c3;by_cases c4:0≤x5_1
    ·rw [if_pos c4] at H;have c4b0:decide (0≤x5_1)=true:=decide_eq_true c4;clear c4;obtain ⟨y284,hy284⟩:∃ y_:List Int,y_=(x0_1.set (x5_1:Int).toNat x1_1):=⟨_,rfl⟩;replace H:(laws_markIntS.l0 k1 y284 (wrap64 (x1_1 + 1)) (wrap64 (x5_1 + 1)))=some (r1,r2):=by first|(rw [hy284];with_reducible exact H)|(have H2_:=(Option.bind_some _ _).symm.trans H;rw [hy284];with_reducible exact H2_)|(have H2_:=(Option.bind_some _ _).symm.trans H;with_reducible exact H2_)|with_reducible exact H|(rw [hy284];exact H)|exact H
     have Ny284:=qK hy284;clear hy284;have H':=qK H;clear H;obtain ⟨Ao6,co6,eo6⟩:=Kd.R_slice HO_0.out;subst eo6;have p5:0≤(x5_1:Int):=of_decide_eq_true (by first|(with_reducible assumption)|assumption);have q5:(x5_1:Int) < ((x0_1.length:Int):Int):=of_decide_eq_true (by first|(with_reducible assumption)|assumption);obtain ⟨go5,co5,eo5,gb5,gl5,cl5,HG5⟩:=Kd.R_form HO_0.out (by omega);(first|cases eo5|(injection eo5 with ea_ en_ ec_;(first|subst ea_|(injection ea_ with ea_;subst ea_));subst ec_;clear en_));have GB5:=qK gb5;have GG5:=qK HG5;clear gb5 gl5 HG5;have HMgo5:=qK (show (P0_ go5 ∨ w.heap.size≤go5) from (HO_0.out.1 _ rfl));obtain ⟨hx5_0,hf5_0⟩:=Kd.R_celln 0 HO_0.out (x5_1:Int) p5 q5;replace p5:=eq_true p5;replace q5:=eq_true q5;have HP7:=Kd.R_putg HO_0.out (x5_1:Int) x1_1;go_wp2_with (first|((with_reducible refine gate_store (t:=3) (p:=15) rfl ?_);refine store_event (t:=3) (p:=15) (v:=?vo_w8) (w1:=(wr.setCell ⟨go5,(x5_1:Int).toNat,none⟩ (.int .i64 x1_1))) ?hg ?ho ?hn ?hr ?_;(case ho=>rfl);(case hg=>rfl);(case hn=>rfl);(case hr=>(go_simp;try rfl));intro w8 hw;have hg:wr.grownBy w8 (some go5):=(by rw [hw];exact HP7.2);have hp_:Kd.R (Kd.int .i64) 3 w8 w0.heap.size (fun k_=>(P0_ k_ ∨ w.heap.size≤k_)) (.slice (some ⟨go5,0,none⟩) x0_1.length co6) y284:=(by rw [hw,Ny284.out];exact HP7.1);clear HP7;have n0_:=qK (hp_);have n1_:=qK ((by rw [hw];exact qS (HB.out) GB5.out:Below w0.heap.size w0 w8));have n2_:=qK (Kept.of_grown (S:=(fun k_=>P0_ k_)) hg (by repeat (first|(with_reducible first|exact HK.out|apply Kept.alloc|apply Kept.drewN|apply Kept.drew)|exact HK.out)) (fun k_ e_=>(HO_0.out.1 k_ e_)));clear HO_0;clear HB;clear HK;have HO_0:=n0_;have HB:=n1_;have HK:=n2_;clear n0_ n1_ n2_;clear hg hw hp_))
     go_roundg k1
     case measure=>have:=HK1.out;omega
     case rel=>exact ⟨(y284),(wrap64 (x1_1 + 1)),(wrap64 (x5_1 + 1)),(by first|rfl|(simp;done)|(simp [*];done)),(by first|rfl|(simp;done)|(simp [*];done)),H',⟨by have:=HK1.out;omega⟩,⟨by (with_reducible repeat (first|apply rL|apply rN|apply rW));exact HO_0.out⟩,⟨by repeat (first|(with_reducible first|exact HK.out|apply Kept.alloc|apply Kept.drewN|apply Kept.drew)|exact HK.out)⟩,⟨by repeat (first|(with_reducible first|exact HB.out|apply qA|apply qD|apply qO)|exact HB.out)⟩⟩
    ·rw [if_neg c4] at H;exact absurd H (by simp)
   ·rw [if_neg c3] at H;have c3b0:decide (x5_1 < (x0_1.length:Int))=false:=decide_eq_false c3;clear c3;simp only [Option.some.injEq,Prod.mk.injEq] at H;obtain ⟨rfl,rfl⟩:=H;obtain ⟨Ao9,co9,eo9⟩:=Kd.R_slice HO_0.out;subst eo9;go_wp2
    go_ret
    exact ⟨by first|rfl|(simp [errW_none,errW_some] <;> rfl)|(simp [*,errW_none,errW_some] <;> rfl),by (with_reducible repeat (first|apply rL|apply rN|apply rW));exact HO_0.out,by repeat (first|(with_reducible first|exact HB.out|apply qA|apply qD|apply qO)|exact HB.out),by repeat (first|(with_reducible first|exact HK.out|apply Kept.alloc|apply Kept.drewN|apply Kept.drew)|exact HK.out)⟩

/-! ### laws_markIntSS: function 38 -/
def laws_markIntSS.l0 : Nat → List (List Int) → Int → Int → Option (Int × List (List Int))
  | 0, _, _, _ => none
  | k + 1, x0, x1, x5 => if x5 < (x0.length : Int) then (if 0 ≤ x5 then ((laws_markIntS.f k (rdLL x0 x5) x1).bind fun m0 => laws_markIntSS.l0 k (x0.set (x5 : Int).toNat m0.2) m0.1 (wrap64 (x5 + 1))) else none) else some (x1, x0)
def laws_markIntSS.f (k : Nat) (l0 : List (List Int)) (a1 : Int) : Option (Int × List (List Int)) := laws_markIntSS.l0 k l0 a1 0
theorem laws_markIntSS.mono_l : ∀ k y0 y1 y2, LeO (laws_markIntSS.l0 k y0 y1 y2) (laws_markIntSS.l0 (k + 1) y0 y1 y2)
  | 0 => fun _ _ _ r h => by simp [laws_markIntSS.l0] at h
  | k + 1 => by
    intro y0 y1 y2
    unfold laws_markIntSS.l0
    exact LeO.ite (LeO.ite (LeO.bind (laws_markIntS.mono _ _ _) fun _ => laws_markIntSS.mono_l k _ _ _) (LeO.none _)) (LeO.refl _)
theorem laws_markIntSS.mono : ∀ a0 a1 k, LeO (laws_markIntSS.f k a0 a1) (laws_markIntSS.f (k + 1) a0 a1) := fun a0 a1 k => laws_markIntSS.mono_l k _ _ _
set_option maxHeartbeats 8000000 in
set_option maxRecDepth 100000 in
theorem laws_markIntSS.calls (k : Nat) (P0_ : Nat → Prop) (u9000_ : Value) (l0 : List (List Int)) (a1 : Int) (r1 : Int) (r2 : List (List Int)) (w0 w : World) (hB : Below w0.heap.size w0 w) (ho0 : Kd.S (Kd.slice 3 (Kd.int .i64)) 22 w w0.heap.size P0_ u9000_ l0) (h : laws_markIntSS.f k l0 a1 = some (r1, r2)) :
    Calls Try.prog 38 #[u9000_, .int .i64 a1] w fun e w' => e = .returned (.int .i64 r1) ∧ Kd.S (Kd.slice 3 (Kd.int .i64)) 22 w' w0.heap.size P0_ u9000_ r2 ∧ Below w0.heap.size w0 w' ∧ Kept w w' P0_ := by
  have HO_0 := Aside0.mk ho0
  have HK := Aside0.mk (Kept.refl w P0_)
  have HB := Aside0.mk hB
  clear hB ho0
  have H' := Aside0.mk (show laws_markIntSS.l0 k l0 a1 0 = some (r1, r2) from h)
  clear h
  go_enter Try.func38, Try.ntmps38
  go_wp2
  go_loopg [1, 5] k (fun kq v1 v5 w' => ∃ (x0_1 : List (List Int)) (x1_1 : Int) (x5_1 : Int), v1 = .int .i64 x1_1 ∧ v5 = .int .i64 x5_1 ∧ Aside0 (laws_markIntSS.l0 kq x0_1 x1_1 x5_1 = some (r1, r2)) ∧ Aside0 (kq ≤ k) ∧ Aside0 (Kd.S (Kd.slice 3 (Kd.int .i64)) 22 w' w0.heap.size P0_ u9000_ x0_1) ∧ Aside0 (Kept w w' P0_) ∧ Aside0 (Below w0.heap.size w0 w'))
  case atStart => exact ⟨l0, a1, 0, rfl, rfl, H', ⟨Nat.le_refl _⟩, HO_0, HK, HB⟩
  case round =>
    clear H' HO_0 HK HB
    obtain ⟨x0_1, x1_1, x5_1, rfl, rfl, HA, HK1, HO_0, HK, HB⟩ := hrel
    cases gk with
    | zero => exact absurd HA.out (by simp [laws_markIntSS.l0])
    | succ k1 =>
      have H := HA.out
      clear HA
      simp only [laws_markIntSS.l0] at H
      by_cases c3 : x5_1 < (x0_1.length : Int)
      · rw [if_pos c3] at H
        have c3b0 : decide (x5_1 < (x0_1.length : Int)) = true := decide_eq_true c3
        by_cases c4 : 0 ≤ x5_1
        · rw [if_pos c4] at H
          have c4b0 : decide (0 ≤ x5_1) = true := decide_eq_true c4
          have p5 := c4
          have q5 := c3
          clear c3 c4
          have L0 : x0_1.length = x0_1.length := rfl
          obtain ⟨Ao6, co6, eo6⟩ := Kd.S_slice HO_0.out
          subst eo6
          obtain ⟨go5, co5, eo5, gb5, gl5, cl5, HG5⟩ := Kd.S_form HO_0.out (by omega)
          (first | cases eo5 | (injection eo5 with ea_ en_ ec_; (first | subst ea_ | (injection ea_ with ea_; subst ea_)); subst ec_; clear en_))
          have GB5 := Aside0.mk gb5
          clear gb5 gl5 HG5 cl5
          obtain ⟨oki0, cs0, hcl0, hM0, hcc0, hfr0, hoki0, hH0⟩ := Kd.S_elem HO_0.out ([] : List Int) x5_1 p5 q5
          replace hM0 : (Kd.slice 3 (Kd.int .i64)).M wr w0.heap.size oki0 (rdLL x0_1 x5_1) cs0 := hM0
          obtain ⟨v0, rfl, g0⟩ := id hM0
          have HI0 := Aside0.mk hoki0
          have HG0 := Aside0.mk g0
          have HH0 := Aside0.mk hH0
          have hx0_ : wr.cell? ⟨go5, x5_1.toNat, none⟩ = some v0 := by have h_ := hcc0 0 _ rfl; rwa [show (Kd.slice 3 (Kd.int .i64)).sz = 1 from rfl, Nat.mul_one, Nat.add_zero] at h_
          clear hcl0 hcc0 hfr0 hoki0 g0 hH0
          skip
          obtain ⟨⟨m0, z0⟩, A0, H⟩ := Option.bind_eq_some_iff.1 H
          have B0 := Aside0.mk (show laws_markIntS.f k1 (rdLL x0_1 x5_1) x1_1 = some (m0, z0) from A0)
          have H0' := Aside0.mk H
          clear H A0
          replace p5 := eq_true p5
          replace q5 := eq_true q5
          obtain ⟨Av0, cv0, ev0⟩ := Kd.R_slice HG0.out
          subst ev0
          go_upto_region 3 with (go_at_call 14; refine (laws_markIntS.calls k1 oki0 _ _ x1_1 m0 z0 w0 _ HB.out HG0.out B0.out).mono ?_; rintro e w0_ ⟨rfl, hr, hb, hk⟩)
          have HB0 := Aside0.mk hb
          have HR0 := Aside0.mk (R_again rfl HG0.out hr)
          have HHn0 := Kd.H_kept HH0.out hk (fun k_ _ hn_ h0_ => hn_ h0_)
          have HKq0 := Aside0.mk (HK.out.then_ hk (fun k_ h0_ => .inl (HI0.out k_ h0_).1))
          have ez0 : (rdLL x0_1 x5_1).length = z0.length := (Kd.R_reads' HR0.out).1
          have HO0 := Aside0.mk (Kd.H_back HHn0 (x' := z0) (okp := oki0) ⟨_, rfl, HR0.out⟩ (fun _ hk_ => hk_))
          clear hr hb hk hx0_ HHn0 HR0 HH0 HG0 HI0 ez0 HO_0 HK HB
          go_wp2
          go_roundg k1
          case measure => have := HK1.out; omega
          case rel => exact ⟨_, m0, _, rfl, rfl, H0', ⟨by have := HK1.out; omega⟩, HO0, HKq0, HB0⟩
        · rw [if_neg c4] at H
          exact absurd H (by simp)
      · rw [if_neg c3] at H
        have c3b0 : decide (x5_1 < (x0_1.length : Int)) = false := decide_eq_false c3
        simp only [Option.some.injEq, Prod.mk.injEq] at H
        obtain ⟨rfl, rfl⟩ := H
        obtain ⟨Ao9, co9, eo9⟩ := Kd.S_slice HO_0.out
        subst eo9
        go_wp2
        go_ret
        exact ⟨rfl, HO_0.out, HB.out, HK.out⟩

/-! ### laws_markStats: function 13 -/
def laws_markStats.f (k : Nat) (l0_0 : List Int) (l0_1 : List (List Int)) (a1 : Int) : Option (Int × List Int × List (List Int)) := (laws_markIntS.f k l0_0 a1).bind fun m0 => (laws_markIntSS.f k l0_1 m0.1).bind fun m1 => some (m1.1, m0.2, m1.2)
theorem laws_markStats.mono : ∀ a0 a1 a2 k, LeO (laws_markStats.f k a0 a1 a2) (laws_markStats.f (k + 1) a0 a1 a2) := fun a0 a1 a2 k => LeO.bind (laws_markIntS.mono _ _ _) fun _ => LeO.bind (laws_markIntSS.mono _ _ _) fun _ => LeO.refl _
set_option maxHeartbeats 8000000 in
set_option maxRecDepth 100000 in
theorem laws_markStats.calls (k : Nat) (P0_ P1_ : Nat → Prop) (u0 u1 : Value) (l0_0 : List Int) (l0_1 : List (List Int)) (a1 r1 : Int) (r2 : List Int) (r3 : List (List Int)) (w0 w : World) (hB : Below w0.heap.size w0 w) (ho0_0 : Kd.R (Kd.int .i64) 3 w w0.heap.size P0_ u0 l0_0) (ho0_1 : Kd.S (Kd.slice 3 (Kd.int .i64)) 22 w w0.heap.size P1_ u1 l0_1) (hd : ∀ k, P0_ k → ¬ P1_ k) (h : laws_markStats.f k l0_0 l0_1 a1 = some (r1, r2, r3)) :
    Calls Try.prog 13 #[.agg #[u0, u1], .int .i64 a1] w fun e w' => e = .returned (.int .i64 r1) ∧ Kd.R (Kd.int .i64) 3 w' w0.heap.size P0_ u0 r2 ∧ Kd.S (Kd.slice 3 (Kd.int .i64)) 22 w' w0.heap.size P1_ u1 r3 ∧ Below w0.heap.size w0 w' ∧ Kept w w' (fun k_ => P0_ k_ ∨ P1_ k_) := by
  unfold laws_markStats.f at h
  obtain ⟨⟨m0, y0⟩, A0, h⟩ := Option.bind_eq_some_iff.1 h
  obtain ⟨⟨m1, y1⟩, A1, h⟩ := Option.bind_eq_some_iff.1 h
  simp only [Option.some.injEq, Prod.mk.injEq] at h
  obtain ⟨rfl, rfl, rfl⟩ := h
  obtain ⟨Au0, cu0, eu0⟩ := Kd.R_slice ho0_0
  subst eu0
  obtain ⟨Au1, cu1, eu1⟩ := Kd.S_slice ho0_1
  subst eu1
  have B0 := Aside0.mk A0
  have B1 := Aside0.mk A1
  have HB := Aside0.mk hB
  have F0 := Aside0.mk ho0_0
  have F1 := Aside0.mk ho0_1
  have HD := Aside0.mk hd
  have hu := Try.underlying29
  clear A0 A1 hB ho0_0 ho0_1 hd
  go_enter Try.func13, Try.ntmps13
  go_upto_region 2 with (first | ((with_reducible refine gate_dst (N := 2) rfl ?_); refine box_event ?hg (N := 2) ?hd (cs := #[.slice Au0 l0_0.length cu0, .slice Au1 l0_1.length cu1]) (t := 29) ?hr ?_; (case hd => rfl); (case hg => rfl); (case hr => first | (go_simp; done) | (go_simp; rfl)); intro gb hg w1 hbox hb; have HG := Aside0.mk (show w.heap.size ≤ gb from by rw [hg]; exact Nat.le_refl _); have HB1 := Aside0.mk (below_step HB.out hb); have HK1 := Aside0.mk (Kept.of_below hb (fun k_ => P0_ k_ ∨ P1_ k_)); have F0_ := Aside0.mk (Kd.R_mono (Kd.R_below (Kd.R_bound F0.out) hb) (fun k_ hk_ => (⟨hk_.1, hk_.2.2.1⟩ : P0_ k_ ∧ k_ < w.heap.size))); have F1_ := Aside0.mk (Kd.S_mono (Kd.S_below (Kd.S_bound F1.out) hb) (fun k_ hk_ => (⟨hk_.1, hk_.2.2.1⟩ : P1_ k_ ∧ k_ < w.heap.size))); have BK1 := Aside0.mk hbox; have hx0_ : w1.cell? ⟨gb, 0, none⟩ = some (.slice Au0 l0_0.length cu0) := (blk_cell hbox 0).trans rfl; clear hg hbox hb) | (go_at_call 14; refine (laws_markIntS.calls (w0 := w0) (hB := HB1.out) (ho0 := F0_.out) (h := B0.out)).mono ?_; rintro e w2 ⟨rfl, hy, hb, hk⟩; have HB2 := Aside0.mk hb; have G0 := Aside0.mk (R_again rfl F0_.out hy); have BK2 := Aside0.mk (blk_kept BK1.out hk (fun h_ => Nat.lt_irrefl _ (Nat.lt_of_lt_of_le h_.2 HG.out))); have G1 := Aside0.mk (Kd.S_kept F1_.out hk (fun k_ h1_ h0_ => HD.out k_ h0_.1 h1_.1)); have HK2 := Aside0.mk (HK1.out.then_ hk (fun k_ h_ => .inl (.inl h_.1))); clear hy hb hk))
  have hx1_ : w2.cell? ⟨gb, 1, none⟩ = some (.slice Au1 l0_1.length cu1) := (blk_cell BK2.out 1).trans rfl
  go_wp2_with (go_at_call 38; refine (laws_markIntSS.calls (w0 := w0) (hB := HB2.out) (ho0 := G1.out) (h := B1.out)).mono ?_; rintro e w3 ⟨rfl, hy, hb, hk⟩)
  go_ret
  exact ⟨rfl, Kd.R_mono (Kd.R_kept G0.out hk (fun k_ h0_ h1_ => HD.out k_ h0_.1 h1_.1)) (fun _ h_ => h_.1), Kd.S_mono hy (fun _ h_ => h_.1), hb, HK2.out.then_ hk (fun k_ h_ => .inl (.inr h_.1))⟩

/-! ### laws_heldIntS: function 15 -/
def laws_heldIntS.l0 : Nat→List Int→Int→Int→Option (Int)
 | 0,_,_,_=>none
 | k + 1,x0,x1,x5=>if x5 < (x0.length:Int) then (if 0≤x5 then (if (rd x0 x5)=x1 then (laws_heldIntS.l0 k x0 (wrap64 (x1 + 1)) (wrap64 (x5 + 1))) else (none)) else (none)) else (some x1)
def laws_heldIntS.f (k:Nat) (l0:List Int) (a1:Int):Option (Int):=laws_heldIntS.l0 k l0 a1 0
theorem laws_heldIntS.mono_l : ∀ k,(∀ y0 y1 y2,LeO (laws_heldIntS.l0 k y0 y1 y2) (laws_heldIntS.l0 (k + 1) y0 y1 y2))
 | 0=>fun _ _ _ r h=>by simp [laws_heldIntS.l0] at h
 | k + 1=>by
  have ih0:=laws_heldIntS.mono_l k
  ·intro y0 y1 y2;unfold laws_heldIntS.l0
   repeat' first
   | (with_reducible exact ih0 _ _ _)
   | (with_reducible exact LeO.refl _)
   | (with_reducible exact LeO.none _)
   | (with_reducible refine LeO.ite ?_ ?_)
   | (with_reducible refine LeO.bind ?_ (fun _=>?_))
   | exact ih0 _ _ _
   | exact LeO.none _
   | refine LeO.ite ?_ ?_
   | refine LeO.bind ?_ (fun _=>?_)
theorem laws_heldIntS.mono : ∀ a0 a1 k,LeO (laws_heldIntS.f k a0 a1) (laws_heldIntS.f (k + 1) a0 a1):=by
 intro a0 a1 k;have ih0:=laws_heldIntS.mono_l k;unfold laws_heldIntS.f
 repeat' first
   | (with_reducible exact ih0 _ _ _)
   | (with_reducible exact LeO.refl _)
   | (with_reducible exact LeO.none _)
   | (with_reducible refine LeO.ite ?_ ?_)
   | (with_reducible refine LeO.bind ?_ (fun _=>?_))
   | exact ih0 _ _ _
   | exact LeO.none _
   | refine LeO.ite ?_ ?_
   | refine LeO.bind ?_ (fun _=>?_)
set_option maxHeartbeats 8000000 in
set_option maxRecDepth 100000 in
theorem laws_heldIntS.calls (k:Nat) (A0:Option Addr) (c0:Nat) (l0:List Int) (a1:Int) (r:Int) (w:World) (hr0:Kd.C (Kd.int .i64) w A0 l0.length l0) (hc0:l0.length≤c0) (h:laws_heldIntS.f k l0 a1=some r) :
  Calls Try.prog 15 #[.slice A0 l0.length c0,.int .i64 a1] w fun e w'=>e=.returned (.int .i64 r)∧Drawn0 w w':=by
 have HR0:=qK hr0;have HC0:=qK hc0;clear hr0 hc0;have H:(laws_heldIntS.l0 k l0 a1 0)=some r:=h;clear h;have H':=qK H;clear H;go_enter Try.func15,Try.ntmps15
 go_wp2
 go_loopg [1,5] k (fun kq v1 v5 w'=>∃ (x1_1:Int) (x5_1:Int),v1=.int .i64 x1_1∧v5=.int .i64 x5_1∧Aside0 (laws_heldIntS.l0 kq l0 x1_1 x5_1=some r)∧Aside0 (kq≤k)∧Drawn0 w w')
 case atStart=>exact ⟨(a1),(0),(by first|rfl|(simp;done)|(simp [*];done)),(by first|rfl|(simp;done)|(simp [*];done)),H',⟨Nat.le_refl _⟩,by repeat (first|exact Drawn0.refl _|apply Drawn0.step)⟩
 case round =>
  clear H';try clear c1
  try clear p2
  obtain ⟨x1_1,x5_1,rfl,rfl,HA,HK1,⟨m1,rfl⟩⟩:=hrel;cases gk with
  | zero=>exact absurd HA.out (by simp [laws_heldIntS.l0])
  | succ k1 =>
   have H:=HA.out;clear HA;simp only [laws_heldIntS.l0] at H;by_cases c3:x5_1 < (l0.length:Int)
   ·rw [if_pos c3] at H;have c3b0:decide (x5_1 < (l0.length:Int))=true:=decide_eq_true c3;clear c3;by_cases c4:0≤x5_1
    ·rw [if_pos c4] at H;have c4b0:decide (0≤x5_1)=true:=decide_eq_true c4;clear c4;by_cases c5:(rd l0 x5_1)=x1_1
     ·rw [if_pos c5] at H;have c5b0:((rd l0 x5_1) == x1_1)=true:=beq_iff_eq.mpr c5;have c5b1:((rd l0 x5_1) != x1_1)=false:=bne_eq_false_iff_eq.mpr c5;clear c5;have H':=qK H;clear H;have p285:0≤(x5_1:Int):=of_decide_eq_true (by first|(with_reducible assumption)|assumption);have q285:x5_1 < (l0.length:Int):=of_decide_eq_true (by first|(with_reducible assumption)|assumption);obtain ⟨ad285,e285,hx285_0⟩:=Kd.at_int HR0.out x5_1 p285 q285;cases e285
      replace p285:=eq_true p285;replace q285:=eq_true q285;go_wp2
      go_roundg k1
      case measure=>have:=HK1.out;omega
      case rel=>exact ⟨(wrap64 (x1_1 + 1)),(wrap64 (x5_1 + 1)),(by first|rfl|(simp;done)|(simp [*];done)),(by first|rfl|(simp;done)|(simp [*];done)),H',⟨by have:=HK1.out;omega⟩,by repeat (first|exact Drawn0.refl _|apply Drawn0.step)⟩
     ·rw [if_neg c5] at H;exact absurd H (by simp)
    ·rw [if_neg c4] at H;exact absurd H (by simp)
   ·rw [if_neg c3] at H;have c3b0:decide (x5_1 < (l0.length:Int))=false:=decide_eq_false c3;clear c3;obtain rfl:=Option.some.inj H;go_wp2
    go_ret
    exact ⟨by first|rfl|(simp;done)|(simp [*];done),by repeat (first|exact Drawn0.refl _|apply Drawn0.step)⟩

/-! ### laws_FnExactBestOf: function 3 -/
theorem laws_szIntS_some (l : List Int) (a : Int) (h0 : 0 ≤ a) (h1 : a ≤ 1048576) (hl : l.length ≤ maxLen) : laws_szIntS.f l a = some (if a < (l.length : Int) then -1 else a - (l.length : Int)) := by
  unfold maxLen at hl
  unfold laws_szIntS.f
  rw [wrap_id (by omega) (by omega)]
  by_cases h : a < (l.length : Int)
  · rw [if_pos (by omega), if_pos h]
  · rw [if_neg (by omega), if_neg h]
theorem toIntS_ev (l : List Int) (hl : l.length ≤ 1048576) : Ev (fun k => laws_toIntS.f k l) l := by
  have loop := loop_up (n := l.length) (P := fun i => ∀ x : List Int, x.length = l.length → x.take i = l.take i → Ev (fun k => laws_toIntS.l0 k l x (i : Int)) l) ?_ ?_
  · unfold laws_toIntS.f
    refine Ev.pos (by omega) (Ev.pos (by omega) ?_)
    exact loop 0 (Nat.zero_le _) (List.replicate _ 0) (by simp) (by simp)
  · intro x hx ht
    refine Ev.succ ?_
    simp only [laws_toIntS.l0]
    refine Ev.neg (by omega) (Ev.const ?_)
    rw [List.take_of_length_le (by omega), List.take_of_length_le (by omega)] at ht
    rw [ht]
  · intro i hi ih x hx ht
    refine Ev.succ ?_
    simp only [laws_toIntS.l0]
    refine Ev.pos (by omega) (Ev.pos (by omega) (Ev.pos (by omega) ?_))
    rw [wrap_add (by omega) (by omega), rd_nat hi]
    refine ih _ (by simp [hx]) ?_
    rw [List.take_succ_eq_append_getElem (by simp [hx]; omega), List.take_succ_eq_append_getElem hi]
    simp only [Int.toNat_natCast, List.getElem_set_self]
    rw [List.take_set_of_le (by omega), ht]
theorem laws_toIntS_x (l : List Int) (hl : l.length ≤ 1048576) : ∃ k, laws_toIntS.f k l = some l := (toIntS_ev l hl).rounds
theorem eqIntS_ev (l : List Int) (hl : l.length ≤ 1048576) : Ev (fun k => laws_eqIntS.f k l l) true := by
  have loop := loop_up (n := l.length) (P := fun i => Ev (fun k => laws_eqIntS.l0 k l l (i : Int)) true) ?_ ?_
  · unfold laws_eqIntS.f
    exact Ev.pos rfl (loop 0 (Nat.zero_le _))
  · refine Ev.succ ?_
    simp only [laws_eqIntS.l0]
    exact Ev.neg (by omega) (Ev.const rfl)
  · intro i hi ih
    refine Ev.succ ?_
    simp only [laws_eqIntS.l0]
    refine Ev.pos (by omega) (Ev.pos (by omega) (Ev.pos (by omega) (Ev.pos trivial ?_)))
    rw [wrap_add (by omega) (by omega)]
    exact ih
theorem laws_eqIntS_x (l : List Int) (hl : l.length ≤ 1048576) : ∃ k, laws_eqIntS.f k l l = some true := (eqIntS_ev l hl).rounds
def markedIntS (n : Nat) (a : Int) : List Int := (List.range n).map (fun (j : Nat) => a + (j : Int))
def cntIntS (l : List Int) : Int := (l.length : Int)
theorem markIntS_ev (l : List Int) (a : Int) (hl : l.length ≤ 1048576) (h0 : 0 ≤ a) (h1 : a ≤ 1099511627776) : Ev (fun k => laws_markIntS.f k l a) (a + (l.length : Int), markedIntS l.length a) := by
  unfold markedIntS
  have loop := loop_up (n := l.length) (P := fun i => ∀ x : List Int, x.length = l.length → x.take i = (List.range i).map (fun (j : Nat) => a + (j : Int)) → Ev (fun k => laws_markIntS.l0 k x (a + (i : Int)) (i : Int)) (a + (l.length : Int), (List.range l.length).map (fun (j : Nat) => a + (j : Int)))) ?_ ?_
  · unfold laws_markIntS.f
    have := loop 0 (Nat.zero_le _) l rfl (by simp)
    rwa [show a + ((0 : Nat) : Int) = a by omega] at this
  · intro x hx ht
    refine Ev.succ ?_
    simp only [laws_markIntS.l0]
    refine Ev.neg (by omega) (Ev.const ?_)
    rw [List.take_of_length_le (by omega)] at ht
    rw [ht]
  · intro i hi ih x hx ht
    have h2 : wrap64 ((i : Int) + 1) = ((i + 1 : Nat) : Int) := by unfold wrap64; omega
    have h3 : wrap64 (a + (i : Int) + 1) = a + ((i + 1 : Nat) : Int) := by unfold wrap64; omega
    refine Ev.succ ?_
    simp only [laws_markIntS.l0]
    refine Ev.pos (by omega) (Ev.pos (by omega) ?_)
    rw [h3, h2]
    refine ih _ (by simp [hx]) ?_
    rw [List.take_succ_eq_append_getElem (by simp [hx]; omega), List.range_succ, List.map_append]
    simp only [Int.toNat_natCast, List.getElem_set_self]
    rw [List.take_set_of_le (by omega), ht]
    rfl
theorem laws_markIntS_x (l : List Int) (a : Int) (hl : l.length ≤ 1048576) (h0 : 0 ≤ a) (h1 : a ≤ 1099511627776) : ∃ k, laws_markIntS.f k l a = some (a + cntIntS l, markedIntS l.length a) := (markIntS_ev l a hl h0 h1).rounds
theorem cntIntS_ok (l : List Int) (hl : l.length ≤ 1048576) : 0 ≤ cntIntS l ∧ cntIntS l ≤ 16777216 := by unfold cntIntS; omega
theorem cntIntS_le (l : List Int) (hl : l.length ≤ 1048576) : 0 ≤ cntIntS l ∧ cntIntS l ≤ 16777216 := by unfold cntIntS; omega
theorem heldIntS_ev (n : Nat) (a : Int) (hn : n ≤ 1048576) (h0 : 0 ≤ a) (h1 : a ≤ 1099511627776) : Ev (fun k => laws_heldIntS.f k (markedIntS n a) a) (a + (n : Int)) := by
  unfold markedIntS
  have loop := loop_up (n := n) (P := fun i => Ev (fun k => laws_heldIntS.l0 k ((List.range n).map (fun (j : Nat) => a + (j : Int))) (a + (i : Int)) (i : Int)) (a + (n : Int))) ?_ ?_
  · unfold laws_heldIntS.f
    have := loop 0 (Nat.zero_le _)
    rwa [show a + ((0 : Nat) : Int) = a by omega] at this
  · refine Ev.succ ?_
    simp only [laws_heldIntS.l0]
    exact Ev.neg (by simp) (Ev.const rfl)
  · intro i hi ih
    have h2 : wrap64 ((i : Int) + 1) = ((i + 1 : Nat) : Int) := by unfold wrap64; omega
    have h3 : wrap64 (a + (i : Int) + 1) = a + ((i + 1 : Nat) : Int) := by unfold wrap64; omega
    refine Ev.succ ?_
    simp only [laws_heldIntS.l0]
    refine Ev.pos (by simp; omega) (Ev.pos (by omega) (Ev.pos (by rw [rd_nat (by simpa using hi)]; simp) ?_))
    rw [h3, h2]
    exact ih
theorem laws_heldIntS_x (l : List Int) (a : Int) (hl : l.length ≤ 1048576) (h0 : 0 ≤ a) (h1 : a ≤ 1099511627776) : ∃ k, laws_heldIntS.f k (markedIntS l.length a) a = some (a + cntIntS l) := (heldIntS_ev l.length a hl h0 h1).rounds
def okIntSS (l : List (List Int)) : Prop := l.length ≤ 1048576 ∧ (∀ x ∈ l, x.length ≤ 1048576) ∧ (l.map List.length).sum ≤ 1048576
theorem laws_eqIntSS_x (l : List (List Int)) (h : okIntSS l) : ∃ k, laws_eqIntSS.f k l l = some true := by
  obtain ⟨hl, hx, _⟩ := h
  have loop := loop_up (n := l.length) (P := fun i => Ev (fun k => laws_eqIntSS.l0 k l l (i : Int)) true) ?_ ?_
  · refine Ev.rounds ?_
    unfold laws_eqIntSS.f
    exact Ev.pos rfl (loop 0 (Nat.zero_le _))
  · refine Ev.succ ?_
    simp only [laws_eqIntSS.l0]
    exact Ev.neg (by omega) (Ev.const rfl)
  · intro i hi ih
    refine Ev.succ ?_
    simp only [laws_eqIntSS.l0]
    have hr : rd_L1 l (i : Int) = l[i] := by simp [rd_L1, hi]
    rw [hr, wrap_add (by omega) (by omega)]
    exact Ev.pos (by omega) (Ev.pos (by omega) (Ev.pos (by omega) (Ev.bind (eqIntS_ev _ (hx _ (List.getElem_mem hi))) (Ev.pos rfl ih))))
def cntIntSS (l : List (List Int)) : Int := (((l.map List.length).sum : Nat) : Int)
def markedIntSS : List (List Int) → Int → List (List Int)
  | [], _ => []
  | x :: l, a => markedIntS x.length a :: markedIntSS l (a + (x.length : Int))
theorem cntIntSS_ok (l : List (List Int)) (h : okIntSS l) : 0 ≤ cntIntSS l ∧ cntIntSS l ≤ 16777216 := by have := h.2.2; unfold cntIntSS; omega
theorem markIntSS_ev (l : List (List Int)) (a : Int) (hl : l.length ≤ 1048576) (hx : ∀ x ∈ l, x.length ≤ 1048576) (h0 : 0 ≤ a) (h1 : a + cntIntSS l ≤ 1099511627776) :
    Ev (fun k => laws_markIntSS.f k l a) (a + cntIntSS l, markedIntSS l a) := by
  have key : ∀ (d : Nat) (x : List (List Int)) (i : Nat) (p q : List (List Int)) (b : Int), x = p ++ q → p.length = i → q.length = d → x.length ≤ 1048576 → (∀ z ∈ q, z.length ≤ 1048576) → 0 ≤ b → b + cntIntSS q ≤ 1099511627776 →
      Ev (fun k => laws_markIntSS.l0 k x b (i : Int)) (b + cntIntSS q, p ++ markedIntSS q b) := by
    intro d
    induction d with
    | zero =>
      intro x i p q b hxe hp hq hxl _ _ _
      obtain rfl := List.length_eq_zero_iff.1 hq
      refine Ev.succ ?_
      simp only [laws_markIntSS.l0]
      refine Ev.neg (by rw [hxe]; simp [hp]) (Ev.const ?_)
      simp [cntIntSS, markedIntSS, hxe]
    | succ d ih =>
      intro x i p q b hxe hp hq hxl hb b0 b1
      obtain ⟨z, q, rfl⟩ : ∃ z t, q = z :: t := by cases q with
        | nil => simp at hq
        | cons z t => exact ⟨z, t, rfl⟩
      have hlen : x.length = i + (d + 1) := by rw [hxe, List.length_append, hp, hq]
      have hr : rdLL x (i : Int) = z := by rw [hxe]; simp [rdLL, ← hp]
      have c0 := hb z List.mem_cons_self
      have hc : cntIntSS (z :: q) = (z.length : Int) + cntIntSS q := by unfold cntIntSS; rw [List.map_cons, List.sum_cons]; omega
      have hn : 0 ≤ cntIntSS q := by unfold cntIntSS; omega
      rw [hc] at b1
      refine Ev.succ ?_
      simp only [laws_markIntSS.l0]
      rw [hr, wrap_add (by omega) (by omega)]
      refine Ev.pos (by omega) (Ev.pos (by omega) (Ev.bind (markIntS_ev _ b c0 b0 (by omega)) ?_))
      have hset : x.set (i : Int).toNat (markedIntS z.length b) = (p ++ [markedIntS z.length b]) ++ q := by rw [hxe, Int.toNat_natCast, ← hp]; simp
      rw [hset]
      have := ih _ (i + 1) (p ++ [markedIntS z.length b]) q (b + (z.length : Int)) rfl (by simp [hp]) (by simpa using hq) (by simp at hlen hq ⊢; omega) (fun y hy => hb y (List.mem_cons_of_mem _ hy)) (by omega) (by omega)
      have e1 : b + (z.length : Int) + cntIntSS q = b + cntIntSS (z :: q) := by rw [hc]; omega
      rw [e1] at this
      simpa [markedIntSS, List.append_assoc] using this
  exact key l.length l 0 [] l a rfl rfl rfl hl hx h0 h1
theorem laws_markIntSS_x (l : List (List Int)) (a : Int) (h : okIntSS l) (h0 : 0 ≤ a) (h1 : a + cntIntSS l ≤ 1099511627776) : ∃ k, laws_markIntSS.f k l a = some (a + cntIntSS l, markedIntSS l a) := (markIntSS_ev l a h.1 h.2.1 h0 h1).rounds
theorem sum_geL : ∀ {l : List (List Int)} {x : List Int}, x ∈ l → x.length ≤ (l.map List.length).sum
  | a :: l, x, h => by
    rw [List.map_cons, List.sum_cons]
    rcases List.mem_cons.1 h with rfl | h
    · omega
    · have := sum_geL h; omega
theorem szIntSS_ev (l : List (List Int)) (a : Int) (h0 : 0 ≤ a) (h1 : a ≤ 1048576) (hl : l.length ≤ maxLen) (hx : ∀ x ∈ l, x.length ≤ maxLen) :
    ∃ s, Ev (fun k => laws_szIntSS.f k l a) s ∧ (s < 0 ∨ (((l.length + (l.map List.length).sum : Nat) : Int) + s = a ∧ 0 ≤ s)) := by
  have hm : l.length ≤ 9223372036854775807 := by unfold maxLen at hl; omega
  have loop := loop_up (n := l.length) (P := fun i => ∀ b : Int, 0 ≤ b → b ≤ 1048576 → ∃ s, Ev (fun k => laws_szIntSS.l0 k l b (i : Int)) s ∧ (s < 0 ∨ (((((l.drop i).map List.length).sum : Nat) : Int) + s = b ∧ 0 ≤ s))) ?_ ?_
  · unfold laws_szIntSS.f
    rw [wrap_id (by omega) (by omega)]
    by_cases h : a - (l.length : Int) < 0
    · exact ⟨-1, Ev.pos h (Ev.const rfl), .inl (by omega)⟩
    · obtain ⟨s, hs, hq⟩ := loop 0 (Nat.zero_le _) (a - (l.length : Int)) (by omega) (by omega)
      refine ⟨s, Ev.neg h hs, ?_⟩
      rcases hq with hq | ⟨q1, q2⟩
      · exact .inl hq
      · rw [List.drop_zero] at q1
        exact .inr ⟨by omega, q2⟩
  · intro b b0 b1
    refine ⟨b, Ev.succ ?_, .inr ⟨by simp, b0⟩⟩
    simp only [laws_szIntSS.l0]
    exact Ev.neg (by omega) (Ev.const rfl)
  · intro i hi ih b b0 b1
    have hr : rd_L1 l (i : Int) = l[i] := by simp [rd_L1, hi]
    have hd : ((l.drop i).map List.length).sum = l[i].length + ((l.drop (i + 1)).map List.length).sum := by rw [List.drop_eq_getElem_cons hi, List.map_cons, List.sum_cons]
    have e1 := laws_szIntS_some l[i] b b0 b1 (hx _ (List.getElem_mem hi))
    by_cases c1 : b < (l[i].length : Int)
    · rw [if_pos c1] at e1
      refine ⟨-1, Ev.succ ?_, .inl (by omega)⟩
      simp only [laws_szIntSS.l0]
      rw [hr, e1]
      exact Ev.pos (by omega) (Ev.pos (by omega) (Ev.bind (Ev.const rfl) (Ev.pos (by omega) (Ev.const rfl))))
    rw [if_neg c1] at e1
    obtain ⟨s, hs, hq⟩ := ih (b - (l[i].length : Int)) (by omega) (by omega)
    refine ⟨s, Ev.succ ?_, ?_⟩
    · simp only [laws_szIntSS.l0]
      rw [hr, e1, wrap_add (by omega) (by omega)]
      exact Ev.pos (by omega) (Ev.pos (by omega) (Ev.bind (Ev.const rfl) (Ev.neg (by omega) hs)))
    · rcases hq with hq | ⟨q1, q2⟩
      · exact .inl hq
      · rw [hd]; exact .inr ⟨by omega, q2⟩
def szOk_laws_szStats (l0 : List Int) (l1 : List (List Int)) : Prop := l0.length + l1.length + (l1.map List.length).sum ≤ 1048576
theorem laws_szStats_x (l0 : List Int) (l1 : List (List Int)) (a : Int) (h0 : 0 ≤ a) (h1 : a ≤ 1048576) {p0 p1 : Int → Prop} (hl0 : l0.length ≤ maxLen ∧ ∀ x, x ∈ l0 → p0 x) (hl1 : l1.length ≤ maxLen ∧ ∀ x, x ∈ l1 → x.length ≤ maxLen ∧ ∀ y, y ∈ x → p1 y) :
    ∃ s, (∃ k, laws_szStats.f k l0 l1 a = some s) ∧ (s < 0 ∨ szOk_laws_szStats l0 l1 ∧ 0 ≤ s ∧ s ≤ 1048576) := by
  have e1 := laws_szIntS_some l0 a h0 h1 hl0.1
  unfold laws_szStats.f szOk_laws_szStats
  by_cases c1 : a < (l0.length : Int)
  · rw [if_pos c1] at e1
    refine ⟨-1, ⟨0, ?_⟩, .inl (by omega)⟩
    rw [e1]; rfl
  rw [if_neg c1] at e1
  obtain ⟨s, hs, hq⟩ := szIntSS_ev l1 (a - (l0.length : Int)) (by omega) (by omega) hl1.1 (fun x hx => (hl1.2 x hx).1)
  rcases hq with hq | ⟨q1, q2⟩
  · refine ⟨-1, Ev.rounds (Ev.bind (Ev.const e1) (Ev.neg (by omega) (Ev.bind hs (Ev.pos hq (Ev.const rfl))))), .inl (by omega)⟩
  · exact ⟨s, Ev.rounds (Ev.bind (Ev.const e1) (Ev.neg (by omega) (Ev.bind hs (Ev.neg (by omega) (Ev.const rfl))))), .inr ⟨by omega, q2, by omega⟩⟩
theorem toIntSS_ev (l : List (List Int)) (hl : l.length ≤ 1048576) (hx : ∀ x ∈ l, x.length ≤ 1048576) : Ev (fun k => laws_toIntSS.f k l) l := by
  have loop := loop_up (n := l.length) (P := fun i => ∀ x : List (List Int), x.length = l.length → x.take i = l.take i → Ev (fun k => laws_toIntSS.l0 k l x (i : Int)) l) ?_ ?_
  · unfold laws_toIntSS.f
    refine Ev.pos (by omega) (Ev.pos (by omega) ?_)
    exact loop 0 (Nat.zero_le _) (List.replicate _ []) (by simp) (by simp)
  · intro x hx2 ht
    refine Ev.succ ?_
    simp only [laws_toIntSS.l0]
    refine Ev.neg (by omega) (Ev.const ?_)
    rw [List.take_of_length_le (by omega), List.take_of_length_le (Nat.le_refl _)] at ht
    rw [ht]
  · intro i hi ih x hx2 ht
    have hr : rd_L1 l (i : Int) = l[i] := by simp [rd_L1, hi]
    refine Ev.succ ?_
    simp only [laws_toIntSS.l0]
    rw [hr, wrap_add (by omega) (by omega)]
    refine Ev.pos (by omega) (Ev.pos (by omega) (Ev.bind (toIntS_ev l[i] (hx _ (List.getElem_mem hi))) (Ev.pos (by omega) ?_)))
    refine ih _ (by simp [hx2]) ?_
    rw [List.take_succ_eq_append_getElem (by simp [hx2]; omega), List.take_succ_eq_append_getElem hi]
    simp only [Int.toNat_natCast, List.getElem_set_self]
    rw [List.take_set_of_le (by omega), ht]
def cvStats (l0 : List Int) (l1 : List (List Int)) : List Int × List (List Int) := (l0, l1)
theorem szS_le {l0 : List Int} {l1 : List (List Int)} (h : szOk_laws_szStats l0 l1) : l0.length ≤ 1048576 ∧ l1.length ≤ 1048576 ∧ (∀ x ∈ l1, x.length ≤ 1048576) := by
  unfold szOk_laws_szStats at h
  exact ⟨by omega, by omega, fun x hx => by have := sum_geL hx; omega⟩
theorem laws_toStats_x (l0 : List Int) (l1 : List (List Int)) (h : szOk_laws_szStats l0 l1) : ∃ k, laws_toStats.f k l0 l1 = some ((cvStats l0 l1).1, (cvStats l0 l1).2) := by
  obtain ⟨h0, h1, h2⟩ := szS_le h
  refine Ev.rounds ?_
  unfold laws_toStats.f
  exact Ev.bind (toIntS_ev l0 h0) (Ev.bind (toIntSS_ev l1 h1 h2) (Ev.const rfl))
def okStats (l0 : List Int) (l1 : List (List Int)) : Prop := l0.length ≤ 1048576 ∧ l1.length ≤ 1048576 ∧ (∀ x ∈ l1, x.length ≤ 1048576) ∧ (l1.map List.length).sum ≤ 1048576
theorem okStats_cv {l0 : List Int} {l1 : List (List Int)} (h : szOk_laws_szStats l0 l1) : okStats (cvStats l0 l1).1 (cvStats l0 l1).2 := by
  obtain ⟨h0, h1, h2⟩ := szS_le h
  unfold szOk_laws_szStats at h
  exact ⟨h0, h1, h2, by show (l1.map List.length).sum ≤ 1048576; omega⟩
theorem laws_eqStats_x (l0 : List Int) (l1 : List (List Int)) (h : okStats l0 l1) : ∃ k, laws_eqStats.f k l0 l1 l0 l1 = some true := by
  obtain ⟨h0, h1, h2, h3⟩ := h
  obtain ⟨k1, e1⟩ := laws_eqIntSS_x l1 ⟨h1, h2, h3⟩
  refine Ev.rounds ?_
  unfold laws_eqStats.f
  exact Ev.bind (eqIntS_ev _ h0) (Ev.pos rfl (Ev.bind (Ev.of (fun k => laws_eqIntSS.mono l1 l1 k) e1) (Ev.pos rfl (Ev.const rfl))))
def cntStats (l0 : List Int) (l1 : List (List Int)) : Int := (l0.length : Int) + cntIntSS l1
def markedStats (l0 : List Int) (l1 : List (List Int)) (a : Int) : List Int × List (List Int) := (markedIntS l0.length a, markedIntSS l1 (a + (l0.length : Int)))
theorem cntStats_ok (l0 : List Int) (l1 : List (List Int)) (h : okStats l0 l1) : 0 ≤ cntStats l0 l1 ∧ cntStats l0 l1 ≤ 16777216 := by
  obtain ⟨h0, _, _, h3⟩ := h
  unfold cntStats cntIntSS; omega
theorem cntStats_sz {l0 : List Int} {l1 : List (List Int)} (h : szOk_laws_szStats l0 l1) : 0 ≤ cntStats (cvStats l0 l1).1 (cvStats l0 l1).2 ∧ cntStats (cvStats l0 l1).1 (cvStats l0 l1).2 ≤ 16777216 := cntStats_ok _ _ (okStats_cv h)
theorem laws_markStats_x (l0 : List Int) (l1 : List (List Int)) (a : Int) (h : okStats l0 l1) (h0 : 0 ≤ a) (h1 : a + cntStats l0 l1 ≤ 1099511627776) : ∃ k, laws_markStats.f k l0 l1 a = some (a + cntStats l0 l1, (markedStats l0 l1 a).1, (markedStats l0 l1 a).2) := by
  obtain ⟨g0, g1, g2, g3⟩ := h
  have hn : 0 ≤ cntIntSS l1 := by unfold cntIntSS; omega
  unfold cntStats at *
  refine Ev.rounds ?_
  unfold laws_markStats.f
  refine Ev.bind (markIntS_ev l0 a g0 h0 (by omega)) (Ev.bind (markIntSS_ev l1 (a + (l0.length : Int)) g1 g2 (by omega) (by omega)) (Ev.const ?_))
  rw [show a + (l0.length : Int) + cntIntSS l1 = a + ((l0.length : Int) + cntIntSS l1) by omega]
  rfl
/-- THE ONE PURE STATEMENT of laws_FnExactBestOf: what the reference tells, the program tells. -/
def laws_FnExactBestOf.Pure : Prop := ∀ (l0_0 : List Int) (l0_1 : List (List Int)) (l1 : List Int), (l0_0.length ≤ maxLen ∧ ∀ x_, x_ ∈ l0_0 → (Lit.int .i64 x_).wf = true) → (l0_1.length ≤ maxLen ∧ ∀ x_, x_ ∈ l0_1 → x_.length ≤ maxLen ∧ ∀ x__, x__ ∈ x_ → (Lit.int .i64 x__).wf = true) → (l1.length ≤ maxLen ∧ ∀ x_, x_ ∈ l1 → (Lit.int .i64 x_).wf = true) → l1.length ≤ 1048576 → szOk_laws_szStats l0_0 l0_1 → ∃ (k : Nat) (r : (List Int) × Int × Bool), spec_BestOf.f k ((cvStats l0_0 l0_1).1) ((cvStats l0_0 l0_1).2) l1 = some r ∧ impl_BestOf.f k ((cvStats l0_0 l0_1).1) ((cvStats l0_0 l0_1).2) l1 = some r ∧ r.1.length ≤ 1048576
set_option maxHeartbeats 16000000 in
set_option maxRecDepth 100000 in
theorem laws_FnExactBestOf.walk (P:laws_FnExactBestOf.Pure) (A0_0:Option Addr) (c0_0:Nat) (l0_0:List Int) (A0_1:Option Addr) (c0_1:Nat) (l0_1:List (List Int)) (A1:Option Addr) (c1:Nat) (l1:List Int) (w:World) (hr0_0:Kd.C (Kd.int .i64) w A0_0 l0_0.length l0_0) (hc0_0:l0_0.length≤c0_0) (hr0_1:Kd.C (Kd.slice 3 (Kd.int .i64)) w A0_1 l0_1.length l0_1) (hc0_1:l0_1.length≤c0_1) (hr1:Kd.C (Kd.int .i64) w A1 l1.length l1) (hc1:l1.length≤c1) (wq0_0:l0_0.length≤maxLen∧∀ x_,x_ ∈ l0_0→(Lit.int .i64 x_).wf=true) (wq0_1:l0_1.length≤maxLen∧∀ x_,x_ ∈ l0_1→x_.length≤maxLen∧∀ x__,x__ ∈ x_→(Lit.int .i64 x__).wf=true) (wq1:l1.length≤maxLen∧∀ x_,x_ ∈ l1→(Lit.int .i64 x_).wf=true) :
  Calls Try.prog 3 #[.agg #[.slice A0_0 l0_0.length c0_0,.slice A0_1 l0_1.length c0_1],.slice A1 l1.length c1] w fun e w'=>e=.returned (.bool true)∧Below w.heap.size w w':=by
 have HR0_0:=qK hr0_0;have HC0_0:=qK hc0_0;clear hr0_0 hc0_0;have HR0_1:=qK hr0_1;have HC0_1:=qK hc0_1;clear hr0_1 hc0_1;have HR1:=qK hr1;have HC1:=qK hc1;clear hr1 hc1;have HB:=qK (Below.refl w.heap.size w);by_cases g0_:(l1.length:Int) > 1048576
 ·have g0_b:decide ((l1.length:Int) > 1048576)=true:=decide_eq_true g0_;clear g0_;go_enter Try.func3,Try.ntmps3
  go_wp2_with (first|((with_reducible refine gate_dst (N:=2) rfl ?_);refine box_event ?hg (N:=2) ?hd (cs:=#[.slice A0_0 l0_0.length c0_0,.slice A0_1 l0_1.length c0_1]) (t:=25) ?hr ?_;(case hd=>rfl);(case hg=>rfl);(case hr=>(go_simp;try rfl));intro gb1 hg w1 hbox hb;have HG1:=qK hg;have HST:=qK hb;have HB1:=qK (qT HB.out HST.out);have HS1:=qK (show w.heap.size≤w1.heap.size from HST.out.size);have HS1b:=qK (show gb1 < w1.heap.size from blk_lt hbox);have BK1:=qK hbox;have hc1_0_1:w1.cell? ⟨gb1,0,none⟩=some (.slice A0_0 l0_0.length c0_0):=(qC BK1.out 0).trans rfl;have hc1_1_1:w1.cell? ⟨gb1,1,none⟩=some (.slice A0_1 l0_1.length c0_1):=(qC BK1.out 1).trans rfl;clear hg hbox hb HST))
  go_ret
  exact ⟨rfl,HB1.out⟩
 have g0_b:decide ((l1.length:Int) > 1048576)=false:=decide_eq_false g0_;obtain ⟨s2_,Nr2_,q2_⟩:=laws_szStats_x l0_0 l0_1 1048576 (by omega) (by omega) wq0_0 wq0_1;obtain ⟨kz2_,Nr2_⟩:=Nr2_;have N2:=qK Nr2_;clear Nr2_;by_cases g1_:s2_ < 0
 ·have g1_b:decide (s2_ < 0)=true:=decide_eq_true g1_;clear g1_ q2_;go_enter Try.func3,Try.ntmps3
  go_wp2_with (first|((with_reducible refine gate_dst (N:=2) rfl ?_);refine box_event ?hg (N:=2) ?hd (cs:=#[.slice A0_0 l0_0.length c0_0,.slice A0_1 l0_1.length c0_1]) (t:=25) ?hr ?_;(case hd=>rfl);(case hg=>rfl);(case hr=>(go_simp;try rfl));intro gb1 hg w1 hbox hb;have HG1:=qK hg;have HST:=qK hb;have HB1:=qK (qT HB.out HST.out);have HS1:=qK (show w.heap.size≤w1.heap.size from HST.out.size);have HS1b:=qK (show gb1 < w1.heap.size from blk_lt hbox);have BK1:=qK hbox;have hc1_0_1:w1.cell? ⟨gb1,0,none⟩=some (.slice A0_0 l0_0.length c0_0):=(qC BK1.out 0).trans rfl;have hc1_1_1:w1.cell? ⟨gb1,1,none⟩=some (.slice A0_1 l0_1.length c0_1):=(qC BK1.out 1).trans rfl;clear hg hbox hb HST)|((with_reducible refine gate_callee (f:=6) rfl ?_);refine goesL_ (some 25) rfl rfl Try.func6 (by kernel_rfl) rfl #[.agg #[.slice A0_0 l0_0.length c0_0,.slice A0_1 l0_1.length c0_1],.int .i64 1048576] rfl (by (try simp only [mT,mC,mN]);first|done|rfl|(simp only [lD,lT];rfl)) ?_;(with_reducible refine (laws_szStats.calls (hr0_0:=cB HR0_0.out HB1.out) (hc0_0:=HC0_0.out) (hr0_1:=cB HR0_1.out HB1.out) (hc0_1:=HC0_1.out) (h:=N2.out)).mono ?_);rintro e w2 ⟨rfl,hb⟩;have HST:=qK (hb);have HB2:=qK (qT HB1.out HST.out);have HS2:=qK (show w1.heap.size≤w2.heap.size from HST.out.size);have BK1_:=qK (qB BK1.out HST.out);clear BK1;have BK1:=BK1_;clear BK1_;have hc1_0_2:w2.cell? ⟨gb1,0,none⟩=some (.slice A0_0 l0_0.length c0_0):=(qC BK1.out 0).trans rfl;have hc1_1_2:w2.cell? ⟨gb1,1,none⟩=some (.slice A0_1 l0_1.length c0_1):=(qC BK1.out 1).trans rfl;clear hb HST;clear HB1;refine ⟨_,rfl,?_⟩))
  go_ret
  exact ⟨rfl,HB2.out⟩
 have g1_b:decide (s2_ < 0)=false:=decide_eq_false g1_;have hz2_:szOk_laws_szStats l0_0 l0_1:=by rcases q2_ with h_|h_;exact absurd h_ g1_;exact h_.1
 have hs2_:0≤s2_∧s2_≤1048576:=by rcases q2_ with h_|h_;exact absurd h_ g1_;exact h_.2
 clear q2_;obtain ⟨k_,⟨o0_,o1_,o2_⟩,P1,P2,P3⟩:=P l0_0 l0_1 l1 wq0_0 wq0_1 wq1 (by omega) hz2_;replace P3:o0_.length≤1048576:=P3;obtain ⟨k3_,Nr3_⟩:=laws_toStats_x l0_0 l0_1 hz2_;obtain ⟨k4_,Nr4_⟩:=laws_toIntS_x l1 (show l1.length≤1048576 by omega);have Nr5_:=P1;obtain ⟨k6_,Nr6_⟩:=laws_toStats_x l0_0 l0_1 hz2_;obtain ⟨k9_,Nr9_⟩:=laws_toIntS_x l1 (show l1.length≤1048576 by omega);have Nr10_:=P2;obtain ⟨k11_,Nr11_⟩:=laws_eqIntS_x o0_ P3;obtain ⟨k12_,Nr12_⟩:=laws_toStats_x l0_0 l0_1 hz2_;obtain ⟨k13_,Nr13_⟩:=laws_eqStats_x ((cvStats l0_0 l0_1).1) ((cvStats l0_0 l0_1).2) (okStats_cv hz2_);obtain ⟨k14_,Nr14_⟩:=laws_toIntS_x l1 (show l1.length≤1048576 by omega);obtain ⟨k15_,Nr15_⟩:=laws_eqIntS_x l1 (show l1.length≤1048576 by omega);have hb16_:=cntStats_sz hz2_;obtain ⟨k16_,Nr16_⟩:=laws_markStats_x ((cvStats l0_0 l0_1).1) ((cvStats l0_0 l0_1).2) 1 (okStats_cv hz2_) (by omega) (by omega);obtain ⟨m16_,hm16_⟩:∃ z_,z_=1 + cntStats ((cvStats l0_0 l0_1).1) ((cvStats l0_0 l0_1).2):=⟨_,rfl⟩;rw [← hm16_] at Nr16_;obtain ⟨y16_0,hy16_0⟩:∃ z_,z_=(markedStats ((cvStats l0_0 l0_1).1) ((cvStats l0_0 l0_1).2) 1).1:=⟨_,rfl⟩;rw [← hy16_0] at Nr16_;clear hy16_0;obtain ⟨y16_1,hy16_1⟩:∃ z_,z_=(markedStats ((cvStats l0_0 l0_1).1) ((cvStats l0_0 l0_1).2) 1).2:=⟨_,rfl⟩;rw [← hy16_1] at Nr16_;clear hy16_1;have hb17_:=cntIntS_le _ (show l1.length≤1048576 by omega);obtain ⟨k17_,Nr17_⟩:=laws_markIntS_x l1 m16_ (show l1.length≤1048576 by omega) (by omega) (by omega);obtain ⟨m17_,hm17_⟩:∃ z_,z_=m16_ + cntIntS l1:=⟨_,rfl⟩;rw [← hm17_] at Nr17_;obtain ⟨y17_0,hy17_0⟩:∃ z_,z_=markedIntS l1.length m16_:=⟨_,rfl⟩;rw [← hy17_0] at Nr17_;clear hy17_0;obtain ⟨k18_,Nr18_⟩:=laws_eqIntS_x o0_ P3;have hb19_:=cntIntS_ok _ P3;obtain ⟨k19_,Nr19_⟩:=laws_markIntS_x o0_ 1 P3 (by omega) (by omega);obtain ⟨k20_,Nr20_⟩:=laws_heldIntS_x o0_ 1 P3 (by omega) (by omega);obtain ⟨m19_,hm19_⟩:∃ z_,z_=1 + cntIntS o0_:=⟨_,rfl⟩;rw [← hm19_] at Nr19_ Nr20_;obtain ⟨y19_0,hy19_0⟩:∃ z_,z_=markedIntS o0_.length 1:=⟨_,rfl⟩;rw [← hy19_0] at Nr19_ Nr20_;clear hy19_0;have Nr25_:=Nr20_;obtain ⟨k21_,Nr21_⟩:=laws_toStats_x l0_0 l0_1 hz2_;obtain ⟨k22_,Nr22_⟩:=laws_toIntS_x l1 (show l1.length≤1048576 by omega);have Nr23_:=P2;obtain ⟨k24_,Nr24_⟩:=laws_eqIntS_x o0_ P3;have N3:=qK Nr3_;have N4:=qK Nr4_;have N5:=qK Nr5_;have N6:=qK Nr6_;have N9:=qK Nr9_;have N10:=qK Nr10_;have N11:=qK Nr11_;have N12:=qK Nr12_;have N13:=qK Nr13_;have N14:=qK Nr14_;have N15:=qK Nr15_;have N16:=qK Nr16_;have N17:=qK Nr17_;have N18:=qK Nr18_;have N19:=qK Nr19_;have N20:=qK Nr20_;have N21:=qK Nr21_;have N22:=qK Nr22_;have N23:=qK Nr23_;have N24:=qK Nr24_;have N25:=qK Nr25_;have cdm17_:decide (m17_ < 0)=false:=decide_eq_false (by omega);have cdm19_:decide (m19_ < 0)=false:=decide_eq_false (by omega);have cnm19_:(m19_ != m19_)=false:=bne_self_eq_false _;have cno1_:(o1_ != o1_)=false:=bne_self_eq_false _;have cno2_:(o2_ != o2_)=false:=bne_self_eq_false _;clear P1 P2 P3 Nr3_ Nr4_ Nr5_ Nr6_ Nr9_ Nr10_ Nr11_ Nr12_ Nr13_ Nr14_ Nr15_ Nr16_ Nr17_ Nr18_ Nr19_ Nr20_ Nr21_ Nr22_ Nr23_ Nr24_ Nr25_ hm16_ hb16_ hm17_ hb17_ hm19_ hb19_;clear P g0_ g1_ hz2_ hs2_ wq0_0 wq0_1 wq1;go_enter Try.func3,Try.ntmps3
 go_upto_region 1 with (first|((with_reducible refine gate_dst (N:=2) rfl ?_);refine box_event ?hg (N:=2) ?hd (cs:=#[.slice A0_0 l0_0.length c0_0,.slice A0_1 l0_1.length c0_1]) (t:=25) ?hr ?_;(case hd=>rfl);(case hg=>rfl);(case hr=>(go_simp;try rfl));intro gb1 hg w1 hbox hb;have HG1:=qK hg;have HST:=qK hb;have HB1:=qK (qT HB.out HST.out);have HS1:=qK (show w.heap.size≤w1.heap.size from HST.out.size);have HS1b:=qK (show gb1 < w1.heap.size from blk_lt hbox);have BK1:=qK hbox;have hc1_0_1:w1.cell? ⟨gb1,0,none⟩=some (.slice A0_0 l0_0.length c0_0):=(qC BK1.out 0).trans rfl;have hc1_1_1:w1.cell? ⟨gb1,1,none⟩=some (.slice A0_1 l0_1.length c0_1):=(qC BK1.out 1).trans rfl;clear hg hbox hb HST))
 go_upto_region 5 with (first|((with_reducible refine gate_callee (f:=6) rfl ?_);refine goesL_ (some 25) rfl rfl Try.func6 (by kernel_rfl) rfl #[.agg #[.slice A0_0 l0_0.length c0_0,.slice A0_1 l0_1.length c0_1],.int .i64 1048576] rfl (by (try simp only [mT,mC,mN]);first|done|rfl|(simp only [lD,lT];rfl)) ?_;(with_reducible refine (laws_szStats.calls (hr0_0:=cB HR0_0.out HB1.out) (hc0_0:=HC0_0.out) (hr0_1:=cB HR0_1.out HB1.out) (hc0_1:=HC0_1.out) (h:=N2.out)).mono ?_);rintro e w2 ⟨rfl,hb⟩;have HST:=qK (hb);have HB2:=qK (qT HB1.out HST.out);have HS2:=qK (show w1.heap.size≤w2.heap.size from HST.out.size);have BK1_:=qK (qB BK1.out HST.out);clear BK1;have BK1:=BK1_;clear BK1_;have hc1_0_2:w2.cell? ⟨gb1,0,none⟩=some (.slice A0_0 l0_0.length c0_0):=(qC BK1.out 0).trans rfl;have hc1_1_2:w2.cell? ⟨gb1,1,none⟩=some (.slice A0_1 l0_1.length c0_1):=(qC BK1.out 1).trans rfl;clear hb HST;clear HB1;refine ⟨_,rfl,?_⟩))
 go_upto_region 8 with (first|((with_reducible refine gate_callee (f:=8) rfl ?_);refine goesL_ (some 30) rfl rfl Try.func8 (by kernel_rfl) rfl #[.agg #[.slice A0_0 l0_0.length c0_0,.slice A0_1 l0_1.length c0_1]] rfl (by (try simp only [mT,mC,mN]);first|done|rfl|(simp only [lD,lT];rfl)) ?_;(with_reducible refine (laws_toStats.calls (hr0_0:=cB HR0_0.out HB2.out) (hc0_0:=HC0_0.out) (hr0_1:=cB HR0_1.out HB2.out) (hc0_1:=HC0_1.out) (h:=N3.out)).mono ?_);rintro e w3 ⟨v0_,v1_,rfl,ho0,ho1,hb⟩;have HST:=qK (hb);have HB3:=qK (qT HB2.out HST.out);have HS3:=qK (show w2.heap.size≤w3.heap.size from HST.out.size);obtain ⟨Af2,cf2,ef2⟩:=Kd.R_slice ho0;subst ef2;obtain ⟨Af3,cf3,ef3⟩:=Kd.S_slice ho1;subst ef3;have F2:=qK (show Kd.R (Kd.int .i64) 3 w3 w.heap.size (fun k_=>w2.heap.size≤k_∧k_ < w3.heap.size∧some k_=(.slice Af2 (cvStats l0_0 l0_1).1.length cf2:Value).ownBlock) (.slice Af2 (cvStats l0_0 l0_1).1.length cf2) (cvStats l0_0 l0_1).1 from Kd.R_lower (Kd.R_mono (Kd.R_bound (Kd.R_tight rfl ho0)) (fun k_ hk_=>⟨hk_.2.1,hk_.2.2.1,hk_.1⟩)) (qZ HB2.out));have F3:=qK (show Kd.S (Kd.slice 3 (Kd.int .i64)) 22 w3 w.heap.size (fun k_=>w2.heap.size≤k_∧k_ < w3.heap.size∧some k_ ≠ (.slice Af2 (cvStats l0_0 l0_1).1.length cf2:Value).ownBlock) (.slice Af3 (cvStats l0_0 l0_1).2.length cf3) (cvStats l0_0 l0_1).2 from Kd.S_lower (Kd.S_mono (Kd.S_bound ho1) (fun k_ hk_=>⟨hk_.2.1,hk_.2.2.1,(by have h_:=hk_.1;first|exact h_|exact h_.1|exact h_.2|exact h_.2.1|exact h_.2.2|simp_all)⟩)) (qZ HB2.out));have BK1_:=qK (qB BK1.out HST.out);clear BK1;have BK1:=BK1_;clear BK1_;have hc1_0_3:w3.cell? ⟨gb1,0,none⟩=some (.slice A0_0 l0_0.length c0_0):=(qC BK1.out 0).trans rfl;have hc1_1_3:w3.cell? ⟨gb1,1,none⟩=some (.slice A0_1 l0_1.length c0_1):=(qC BK1.out 1).trans rfl;clear hb HST ho0 ho1;clear HB2;refine ⟨_,rfl,?_⟩)|((with_reducible refine gate_callee (f:=9) rfl ?_);refine goesL_ (some 32) rfl rfl Try.func9 (by kernel_rfl) rfl #[.slice A1 l1.length c1] rfl (by (try simp only [mT,mC,mN]);first|done|rfl|(simp only [lD,lT];rfl)) ?_;(with_reducible refine (laws_toIntS.calls (hr0:=cB HR1.out HB3.out) (hc0:=HC1.out) (h:=N4.out)).mono ?_);rintro e w4 ⟨v0_,rfl,ho0,hb⟩;have HST:=qK (hb);have HB4:=qK (qT HB3.out HST.out);have HS4:=qK (show w3.heap.size≤w4.heap.size from HST.out.size);obtain ⟨Af4,cf4,ef4⟩:=Kd.R_slice ho0;subst ef4;have F4:=qK (show Kd.R (Kd.int .i64) 3 w4 w.heap.size (fun k_=>w3.heap.size≤k_∧k_ < w4.heap.size) (.slice Af4 l1.length cf4) l1 from Kd.R_lower (Kd.R_mono (Kd.R_bound ho0) (fun k_ hk_=>⟨hk_.2.1,hk_.2.2.1⟩)) (qZ HB3.out));have F2_:=qK (rB F2.out HST.out);clear F2;have F2:=F2_;clear F2_;have F3_:=qK (Kd.S_below F3.out HST.out);clear F3;have F3:=F3_;clear F3_;have BK1_:=qK (qB BK1.out HST.out);clear BK1;have BK1:=BK1_;clear BK1_;have hc1_0_4:w4.cell? ⟨gb1,0,none⟩=some (.slice A0_0 l0_0.length c0_0):=(qC BK1.out 0).trans rfl;have hc1_1_4:w4.cell? ⟨gb1,1,none⟩=some (.slice A0_1 l0_1.length c0_1):=(qC BK1.out 1).trans rfl;clear hb HST ho0;clear HB3;refine ⟨_,rfl,?_⟩)|((with_reducible refine gate_callee (f:=7) rfl ?_);refine goesL_ (some 33) rfl rfl Try.func7 (by kernel_rfl) rfl #[.agg #[.slice Af2 (cvStats l0_0 l0_1).1.length cf2,.slice Af3 (cvStats l0_0 l0_1).2.length cf3],.slice Af4 l1.length cf4] rfl (by (try simp only [mT,mC,mN]);first|done|rfl|(simp only [lD,lT];rfl)) ?_;(with_reducible refine (spec_BestOf.calls (hr0_0:=(Kd.R_reads' F2.out).2.2) (hc0_0:=(Kd.R_reads' F2.out).2.1) (hr0_1:=(Kd.S_reads' F3.out).2.2) (hc0_1:=(Kd.S_reads' F3.out).2.1) (hr1:=(Kd.R_reads' F4.out).2.2) (hc1:=(Kd.R_reads' F4.out).2.1) (h:=N5.out)).mono ?_);rintro e w5 ⟨v0_,rfl,ho0,hb⟩;have HST:=qK (hb);have HB5:=qK (qT HB4.out HST.out);have HS5:=qK (show w4.heap.size≤w5.heap.size from HST.out.size);obtain ⟨Af5,cf5,ef5⟩:=Kd.R_slice ho0;subst ef5;have F5:=qK (show Kd.R (Kd.int .i64) 3 w5 w.heap.size (fun k_=>w4.heap.size≤k_∧k_ < w5.heap.size) (.slice Af5 o0_.length cf5) o0_ from Kd.R_lower (Kd.R_mono (Kd.R_bound ho0) (fun k_ hk_=>⟨hk_.2.1,hk_.2.2.1⟩)) (qZ HB4.out));clear F2;clear F3;clear F4;have BK1_:=qK (qB BK1.out HST.out);clear BK1;have BK1:=BK1_;clear BK1_;have hc1_0_5:w5.cell? ⟨gb1,0,none⟩=some (.slice A0_0 l0_0.length c0_0):=(qC BK1.out 0).trans rfl;have hc1_1_5:w5.cell? ⟨gb1,1,none⟩=some (.slice A0_1 l0_1.length c0_1):=(qC BK1.out 1).trans rfl;clear hb HST ho0;clear HB4;refine ⟨_,rfl,?_⟩))
 go_upto_region 9 with (first|((with_reducible refine gate_callee (f:=8) rfl ?_);refine goesL_ (some 38) rfl rfl Try.func8 (by kernel_rfl) rfl #[.agg #[.slice A0_0 l0_0.length c0_0,.slice A0_1 l0_1.length c0_1]] rfl (by (try simp only [mT,mC,mN]);first|done|rfl|(simp only [lD,lT];rfl)) ?_;(with_reducible refine (laws_toStats.calls (hr0_0:=cB HR0_0.out HB5.out) (hc0_0:=HC0_0.out) (hr0_1:=cB HR0_1.out HB5.out) (hc0_1:=HC0_1.out) (h:=N6.out)).mono ?_);rintro e w6 ⟨v0_,v1_,rfl,ho0,ho1,hb⟩;have HST:=qK (hb);have HB6:=qK (qT HB5.out HST.out);have HS6:=qK (show w5.heap.size≤w6.heap.size from HST.out.size);obtain ⟨Af6,cf6,ef6⟩:=Kd.R_slice ho0;subst ef6;obtain ⟨Af7,cf7,ef7⟩:=Kd.S_slice ho1;subst ef7;have F6:=qK (show Kd.R (Kd.int .i64) 3 w6 w.heap.size (fun k_=>w5.heap.size≤k_∧k_ < w6.heap.size∧some k_=(.slice Af6 (cvStats l0_0 l0_1).1.length cf6:Value).ownBlock) (.slice Af6 (cvStats l0_0 l0_1).1.length cf6) (cvStats l0_0 l0_1).1 from Kd.R_lower (Kd.R_mono (Kd.R_bound (Kd.R_tight rfl ho0)) (fun k_ hk_=>⟨hk_.2.1,hk_.2.2.1,hk_.1⟩)) (qZ HB5.out));have F7:=qK (show Kd.S (Kd.slice 3 (Kd.int .i64)) 22 w6 w.heap.size (fun k_=>w5.heap.size≤k_∧k_ < w6.heap.size∧some k_ ≠ (.slice Af6 (cvStats l0_0 l0_1).1.length cf6:Value).ownBlock) (.slice Af7 (cvStats l0_0 l0_1).2.length cf7) (cvStats l0_0 l0_1).2 from Kd.S_lower (Kd.S_mono (Kd.S_bound ho1) (fun k_ hk_=>⟨hk_.2.1,hk_.2.2.1,(by have h_:=hk_.1;first|exact h_|exact h_.1|exact h_.2|exact h_.2.1|exact h_.2.2|simp_all)⟩)) (qZ HB5.out));have F5_:=qK (rB F5.out HST.out);clear F5;have F5:=F5_;clear F5_;have BK1_:=qK (qB BK1.out HST.out);clear BK1;have BK1:=BK1_;clear BK1_;have hc1_0_6:w6.cell? ⟨gb1,0,none⟩=some (.slice A0_0 l0_0.length c0_0):=(qC BK1.out 0).trans rfl;have hc1_1_6:w6.cell? ⟨gb1,1,none⟩=some (.slice A0_1 l0_1.length c0_1):=(qC BK1.out 1).trans rfl;clear hb HST ho0 ho1;clear HB5;refine ⟨_,rfl,?_⟩)|((with_reducible refine gate_dst (N:=9) rfl ?_);refine box_event ?hg (N:=9) ?hd (cs:=#[.slice none 0 0,.slice none 0 0]) (t:=29) ?hr ?_;(case hd=>rfl);(case hg=>rfl);(case hr=>(go_simp;try rfl));intro gb8 hg w7 hbox hb;have HG8:=qK hg;have HST:=qK hb;have HB7:=qK (qT HB6.out HST.out);have HS7:=qK (show w6.heap.size≤w7.heap.size from HST.out.size);have HS7b:=qK (show gb8 < w7.heap.size from blk_lt hbox);have F5_:=qK (rB F5.out HST.out);clear F5;have F5:=F5_;clear F5_;have F6_:=qK (rB F6.out HST.out);clear F6;have F6:=F6_;clear F6_;have F7_:=qK (Kd.S_below F7.out HST.out);clear F7;have F7:=F7_;clear F7_;have BK1_:=qK (qB BK1.out HST.out);clear BK1;have BK1:=BK1_;clear BK1_;have hc1_0_7:w7.cell? ⟨gb1,0,none⟩=some (.slice A0_0 l0_0.length c0_0):=(qC BK1.out 0).trans rfl;have hc1_1_7:w7.cell? ⟨gb1,1,none⟩=some (.slice A0_1 l0_1.length c0_1):=(qC BK1.out 1).trans rfl;have BK8:=qK hbox;have hc8_0_7:w7.cell? ⟨gb8,0,none⟩=some (.slice none 0 0):=(qC BK8.out 0).trans rfl;have hc8_1_7:w7.cell? ⟨gb8,1,none⟩=some (.slice none 0 0):=(qC BK8.out 1).trans rfl;have hf8_0_7:=qF BK8.out 0;have hf8_1_7:=qF BK8.out 1;clear hg hbox hb HST HB6))
 obtain ⟨w8,hwS⟩:∃ z_,z_=((w7.setCell ⟨gb8,0,none⟩ (.slice Af6 (cvStats l0_0 l0_1).1.length cf6)).setCell ⟨gb8,1,none⟩ (.slice Af7 (cvStats l0_0 l0_1).2.length cf7)):=⟨_,rfl⟩;rw [← hwS];have HGE8:=qK (show w.heap.size≤gb8 from by rw [HG8.out];have z1_:=HS1.out;have z2_:=HS2.out;have z3_:=HS3.out;have z4_:=HS4.out;have z5_:=HS5.out;have z6_:=HS6.out;omega);have HKK:=qK (show Kept w7 w8 (fun k_=>k_=gb8) from by rw [hwS];exact ((((Kept.refl w7 (fun k_=>k_=gb8)).setCell (p:=⟨gb8,0,none⟩) (.inl rfl) _)).setCell (p:=⟨gb8,1,none⟩) (.inl rfl) _));have HB8:=qK (show Below w.heap.size w w8 from by rw [hwS];exact (qS (qS HB7.out HGE8.out) HGE8.out));have HS8:=qK (show w7.heap.size≤w8.heap.size from HKK.out.1);have BK8_:=qK (show w8.heap[gb8]?=some (.cells #[.slice Af6 (cvStats l0_0 l0_1).1.length cf6,.slice Af7 (cvStats l0_0 l0_1).2.length cf7] 29 (0,0)) from by rw [hwS];exact (qP (cs:=#[.slice Af6 (cvStats l0_0 l0_1).1.length cf6,.slice none 0 0]) (qP (cs:=#[.slice none 0 0,.slice none 0 0]) BK8.out 0 _ rfl) 1 _ rfl));clear BK8;have BK8:=BK8_;clear BK8_;have F5_:=qK (Kd.R_kept F5.out HKK.out (fun k_ h1_ h2_=>by have h5_:=h1_.1;have h6_:=h1_.2;have z0_:=HG8.out;have zb_:=HS7b.out;subst h2_;have z1_:=HS1.out;have z2_:=HS2.out;have z3_:=HS3.out;have z4_:=HS4.out;have z5_:=HS5.out;have z6_:=HS6.out;have z7_:=HS7.out;omega));clear F5;have F5:=F5_;clear F5_;have F6_:=qK (Kd.R_kept F6.out HKK.out (fun k_ h1_ h2_=>by have h5_:=h1_.1;have h6_:=h1_.2.1;have z0_:=HG8.out;have zb_:=HS7b.out;subst h2_;have z1_:=HS1.out;have z2_:=HS2.out;have z3_:=HS3.out;have z4_:=HS4.out;have z5_:=HS5.out;have z6_:=HS6.out;have z7_:=HS7.out;omega));clear F6;have F6:=F6_;clear F6_;have F7_:=qK (Kd.S_kept F7.out HKK.out (fun k_ h1_ h2_=>by have h5_:=h1_.1;have h6_:=h1_.2.1;have z0_:=HG8.out;have zb_:=HS7b.out;subst h2_;have z1_:=HS1.out;have z2_:=HS2.out;have z3_:=HS3.out;have z4_:=HS4.out;have z5_:=HS5.out;have z6_:=HS6.out;have z7_:=HS7.out;omega));clear F7;have F7:=F7_;clear F7_;have BK1_:=qK (blk_kept BK1.out HKK.out (fun e_=>by have z0_:=HG8.out;have z1_:=HG1.out;have y1_:=HS1.out;have y2_:=HS2.out;have y3_:=HS3.out;have y4_:=HS4.out;have y5_:=HS5.out;have y6_:=HS6.out;have y7_:=HS7.out;have x1_:=HS1b.out;have x7_:=HS7b.out;omega));clear BK1;have BK1:=BK1_;clear BK1_;have hc1_0_8:w8.cell? ⟨gb1,0,none⟩=some (.slice A0_0 l0_0.length c0_0):=(qC BK1.out 0).trans rfl;have hc1_1_8:w8.cell? ⟨gb1,1,none⟩=some (.slice A0_1 l0_1.length c0_1):=(qC BK1.out 1).trans rfl;have hc8_0_8:w8.cell? ⟨gb8,0,none⟩=some (.slice Af6 (cvStats l0_0 l0_1).1.length cf6):=(qC BK8.out 0).trans rfl;have hc8_1_8:w8.cell? ⟨gb8,1,none⟩=some (.slice Af7 (cvStats l0_0 l0_1).2.length cf7):=(qC BK8.out 1).trans rfl;clear hwS HKK HB7;go_upto_region 10 with (first|((with_reducible refine gate_callee (f:=9) rfl ?_);refine goesL_ (some 40) rfl rfl Try.func9 (by kernel_rfl) rfl #[.slice A1 l1.length c1] rfl (by (try simp only [mT,mC,mN]);first|done|rfl|(simp only [lD,lT];rfl)) ?_;(with_reducible refine (laws_toIntS.calls (hr0:=cB HR1.out HB8.out) (hc0:=HC1.out) (h:=N9.out)).mono ?_);rintro e w9 ⟨v0_,rfl,ho0,hb⟩;have HST:=qK (hb);have HB9:=qK (qT HB8.out HST.out);have HS9:=qK (show w8.heap.size≤w9.heap.size from HST.out.size);obtain ⟨Af9,cf9,ef9⟩:=Kd.R_slice ho0;subst ef9;have F9:=qK (show Kd.R (Kd.int .i64) 3 w9 w.heap.size (fun k_=>w8.heap.size≤k_∧k_ < w9.heap.size) (.slice Af9 l1.length cf9) l1 from Kd.R_lower (Kd.R_mono (Kd.R_bound ho0) (fun k_ hk_=>⟨hk_.2.1,hk_.2.2.1⟩)) (qZ HB8.out));have F5_:=qK (rB F5.out HST.out);clear F5;have F5:=F5_;clear F5_;have F6_:=qK (rB F6.out HST.out);clear F6;have F6:=F6_;clear F6_;have F7_:=qK (Kd.S_below F7.out HST.out);clear F7;have F7:=F7_;clear F7_;have BK1_:=qK (qB BK1.out HST.out);clear BK1;have BK1:=BK1_;clear BK1_;have hc1_0_9:w9.cell? ⟨gb1,0,none⟩=some (.slice A0_0 l0_0.length c0_0):=(qC BK1.out 0).trans rfl;have hc1_1_9:w9.cell? ⟨gb1,1,none⟩=some (.slice A0_1 l0_1.length c0_1):=(qC BK1.out 1).trans rfl;have BK8_:=qK (qB BK8.out HST.out);clear BK8;have BK8:=BK8_;clear BK8_;have hc8_0_9:w9.cell? ⟨gb8,0,none⟩=some (.slice Af6 (cvStats l0_0 l0_1).1.length cf6):=(qC BK8.out 0).trans rfl;have hc8_1_9:w9.cell? ⟨gb8,1,none⟩=some (.slice Af7 (cvStats l0_0 l0_1).2.length cf7):=(qC BK8.out 1).trans rfl;clear hb HST ho0;clear HB8;refine ⟨_,rfl,?_⟩))
 go_upto_region 11 with (first|((with_reducible refine gate_callee (f:=10) rfl ?_);refine goesL_ (some 44) rfl rfl Try.func10 (by kernel_rfl) rfl #[.agg #[.slice Af6 (cvStats l0_0 l0_1).1.length cf6,.slice Af7 (cvStats l0_0 l0_1).2.length cf7],.slice Af9 l1.length cf9] rfl (by (try simp only [mT,mC,mN]);first|done|rfl|(simp only [lD,lT];rfl)) ?_;(with_reducible refine (impl_BestOf.calls (hr0_0:=(Kd.R_reads' F6.out).2.2) (hc0_0:=(Kd.R_reads' F6.out).2.1) (hr0_1:=(Kd.S_reads' F7.out).2.2) (hc0_1:=(Kd.S_reads' F7.out).2.1) (hr1:=(Kd.R_reads' F9.out).2.2) (hc1:=(Kd.R_reads' F9.out).2.1) (h:=N10.out)).mono ?_);rintro e w10 ⟨v0_,rfl,ho0,hb⟩;have HST:=qK (hb);have HB10:=qK (qT HB9.out HST.out);have HS10:=qK (show w9.heap.size≤w10.heap.size from HST.out.size);obtain ⟨Af10,cf10,ef10⟩:=Kd.R_slice ho0;subst ef10;have F10:=qK (show Kd.R (Kd.int .i64) 3 w10 w.heap.size (fun k_=>w9.heap.size≤k_∧k_ < w10.heap.size) (.slice Af10 o0_.length cf10) o0_ from Kd.R_lower (Kd.R_mono (Kd.R_bound ho0) (fun k_ hk_=>⟨hk_.2.1,hk_.2.2.1⟩)) (qZ HB9.out));have F5_:=qK (rB F5.out HST.out);clear F5;have F5:=F5_;clear F5_;have F6_:=qK (rB F6.out HST.out);clear F6;have F6:=F6_;clear F6_;have F7_:=qK (Kd.S_below F7.out HST.out);clear F7;have F7:=F7_;clear F7_;have F9_:=qK (rB F9.out HST.out);clear F9;have F9:=F9_;clear F9_;have BK1_:=qK (qB BK1.out HST.out);clear BK1;have BK1:=BK1_;clear BK1_;have hc1_0_10:w10.cell? ⟨gb1,0,none⟩=some (.slice A0_0 l0_0.length c0_0):=(qC BK1.out 0).trans rfl;have hc1_1_10:w10.cell? ⟨gb1,1,none⟩=some (.slice A0_1 l0_1.length c0_1):=(qC BK1.out 1).trans rfl;have BK8_:=qK (qB BK8.out HST.out);clear BK8;have BK8:=BK8_;clear BK8_;have hc8_0_10:w10.cell? ⟨gb8,0,none⟩=some (.slice Af6 (cvStats l0_0 l0_1).1.length cf6):=(qC BK8.out 0).trans rfl;have hc8_1_10:w10.cell? ⟨gb8,1,none⟩=some (.slice Af7 (cvStats l0_0 l0_1).2.length cf7):=(qC BK8.out 1).trans rfl;clear hb HST ho0;clear HB9;refine ⟨_,rfl,?_⟩))
 go_upto_region 13 with (first|((with_reducible refine gate_callee (f:=11) rfl ?_);refine goesL_ (some 50) rfl rfl Try.func11 (by kernel_rfl) rfl #[.slice Af10 o0_.length cf10,.slice Af5 o0_.length cf5] rfl (by (try simp only [mT,mC,mN]);first|done|rfl|(simp only [lD,lT];rfl)) ?_;(with_reducible refine (laws_eqIntS.calls (hr0:=(Kd.R_reads' F10.out).2.2) (hc0:=(Kd.R_reads' F10.out).2.1) (hr1:=(Kd.R_reads' F5.out).2.2) (hc1:=(Kd.R_reads' F5.out).2.1) (h:=N11.out)).mono ?_);rintro e w11 ⟨rfl,hdr⟩;have HST:=qK (hdr.below);have HB11:=qK (qT HB10.out HST.out);have HS11:=qK (show w10.heap.size≤w11.heap.size from HST.out.size);have F5_:=qK (rB F5.out HST.out);clear F5;have F5:=F5_;clear F5_;have F6_:=qK (rB F6.out HST.out);clear F6;have F6:=F6_;clear F6_;have F7_:=qK (Kd.S_below F7.out HST.out);clear F7;have F7:=F7_;clear F7_;have F9_:=qK (rB F9.out HST.out);clear F9;have F9:=F9_;clear F9_;have F10_:=qK (rB F10.out HST.out);clear F10;have F10:=F10_;clear F10_;have BK1_:=qK (qB BK1.out HST.out);clear BK1;have BK1:=BK1_;clear BK1_;have hc1_0_11:w11.cell? ⟨gb1,0,none⟩=some (.slice A0_0 l0_0.length c0_0):=(qC BK1.out 0).trans rfl;have hc1_1_11:w11.cell? ⟨gb1,1,none⟩=some (.slice A0_1 l0_1.length c0_1):=(qC BK1.out 1).trans rfl;have BK8_:=qK (qB BK8.out HST.out);clear BK8;have BK8:=BK8_;clear BK8_;have hc8_0_11:w11.cell? ⟨gb8,0,none⟩=some (.slice Af6 (cvStats l0_0 l0_1).1.length cf6):=(qC BK8.out 0).trans rfl;have hc8_1_11:w11.cell? ⟨gb8,1,none⟩=some (.slice Af7 (cvStats l0_0 l0_1).2.length cf7):=(qC BK8.out 1).trans rfl;clear hdr HST;clear HB10;refine ⟨_,rfl,?_⟩))
 go_upto_region 13 with (fail)
 go_wp2_with (fail)
 have F5_:=qK (rW F5.out);clear F5;have F5:=F5_;clear F5_;have F6_:=qK (rW F6.out);clear F6;have F6:=F6_;clear F6_;have F7_:=qK (Kd.S_drew F7.out);clear F7;have F7:=F7_;clear F7_;have F9_:=qK (rW F9.out);clear F9;have F9:=F9_;clear F9_;have F10_:=qK (rW F10.out);clear F10;have F10:=F10_;clear F10_;have BK1_:=qK (qW BK1.out);clear BK1;have BK1:=BK1_;clear BK1_;have BK8_:=qK (qW BK8.out);clear BK8;have BK8:=BK8_;clear BK8_;have HB11_:=qK (qO HB11.out);clear HB11;have HB11:=HB11_;clear HB11_;have HSD13:=qK (show w11.heap.size=w11.drew.heap.size from rfl);refine start_ (n:=5) (S:=fun w'=>w'.cell? ⟨gb8,0,none⟩=some (.slice Af6 (cvStats l0_0 l0_1).1.length cf6)∧w'.cell? ⟨gb8,1,none⟩=some (.slice Af7 (cvStats l0_0 l0_1).2.length cf7)∧w'.cell? ⟨gb1,0,none⟩=some (.slice A0_0 l0_0.length c0_0)∧w'.cell? ⟨gb1,1,none⟩=some (.slice A0_1 l0_1.length c0_1)) (ds:=[]) #[Z,Z,Z,Z,Z] (by kernel_rfl) rfl rfl ⟨(qC BK8.out 0).trans rfl,(qC BK8.out 1).trans rfl,(qC BK1.out 0).trans rfl,(qC BK1.out 1).trans rfl⟩ (fun hHeld=>?_);generalize w11.drew=wd13 at F5 F6 F7 F9 F10 BK1 BK8  HB11 HSD13 hHeld ⊢
 have HSE13:=qK (show w11.heap.size≤wd13.heap.size from Nat.le_of_eq HSD13.out);refine take_ (i:=0) (N:=some 62) (v:=?_) (a':=?_) #[Y,Z,Z,Z,Z] rfl rfl (by kernel_rfl) (fun _ _ _ h=>h) (Or.inl ⟨by rfl,?_⟩) hHeld ?_ ?_;rotate_left
 ·rintro w' ⟨s0,s1,s2,s3⟩;go_simp;with_reducible rfl
 rotate_left
 ·simp only [Act.put,sIb,sZ,sS,i64_w,i32_w];rfl
 refine take_ (i:=1) (N:=some 63) (v:=?_) (a':=?_) #[Y,Y,Z,Z,Z] rfl rfl (by kernel_rfl) (fun _ _ _ h=>h) (Or.inl ⟨by rfl,?_⟩) hHeld ?_ ?_;rotate_left
 ·rintro w' ⟨s0,s1,s2,s3⟩;go_simp;with_reducible rfl
 rotate_left
 ·simp only [Act.put,sIb,sZ,sS,i64_w,i32_w];rfl
 refine one_ (i:=2) (N:=some 64) #[Y,Y,Y,Z,Z] rfl rfl (by kernel_rfl) (by decide) (fun K hK=>?_);refine goes_ Try.func8 (by kernel_rfl) rfl #[.agg #[.slice A0_0 l0_0.length c0_0,.slice A0_1 l0_1.length c0_1]] (by rfl) rfl rfl (by (try simp only [mT,mC,mN]);first|done|rfl|(simp only [lD,lT];rfl)) ?_;(with_reducible refine (laws_toStats.calls (hr0_0:=cB HR0_0.out HB11.out) (hc0_0:=HC0_0.out) (hr0_1:=cB HR0_1.out HB11.out) (hc0_1:=HC0_1.out) (h:=N12.out)).mono ?_);rintro e w12 ⟨v0_,v1_,rfl,ho0,ho1,hb⟩;refine ⟨_,rfl,?_⟩;have HST:=qK (hb);have HB12:=qK (qT HB11.out HST.out);have HS12:=qK (show wd13.heap.size≤w12.heap.size from HST.out.size);obtain ⟨Af11,cf11,ef11⟩:=Kd.R_slice ho0;subst ef11;obtain ⟨Af12,cf12,ef12⟩:=Kd.S_slice ho1;subst ef12;have F11:=qK (show Kd.R (Kd.int .i64) 3 w12 w.heap.size (fun k_=>wd13.heap.size≤k_∧k_ < w12.heap.size∧some k_=(.slice Af11 (cvStats l0_0 l0_1).1.length cf11:Value).ownBlock) (.slice Af11 (cvStats l0_0 l0_1).1.length cf11) (cvStats l0_0 l0_1).1 from Kd.R_lower (Kd.R_mono (Kd.R_bound (Kd.R_tight rfl ho0)) (fun k_ hk_=>⟨hk_.2.1,hk_.2.2.1,hk_.1⟩)) (qZ HB11.out));have F12:=qK (show Kd.S (Kd.slice 3 (Kd.int .i64)) 22 w12 w.heap.size (fun k_=>wd13.heap.size≤k_∧k_ < w12.heap.size∧some k_ ≠ (.slice Af11 (cvStats l0_0 l0_1).1.length cf11:Value).ownBlock) (.slice Af12 (cvStats l0_0 l0_1).2.length cf12) (cvStats l0_0 l0_1).2 from Kd.S_lower (Kd.S_mono (Kd.S_bound ho1) (fun k_ hk_=>⟨hk_.2.1,hk_.2.2.1,(by have h_:=hk_.1;first|exact h_|exact h_.1|exact h_.2|exact h_.2.1|exact h_.2.2|simp_all)⟩)) (qZ HB11.out));have F5_:=qK (rB F5.out HST.out);clear F5;have F5:=F5_;clear F5_;have F6_:=qK (rB F6.out HST.out);clear F6;have F6:=F6_;clear F6_;have F7_:=qK (Kd.S_below F7.out HST.out);clear F7;have F7:=F7_;clear F7_;have F9_:=qK (rB F9.out HST.out);clear F9;have F9:=F9_;clear F9_;have F10_:=qK (rB F10.out HST.out);clear F10;have F10:=F10_;clear F10_;have BK1_:=qK (qB BK1.out HST.out);clear BK1;have BK1:=BK1_;clear BK1_;have hc1_0_12:w12.cell? ⟨gb1,0,none⟩=some (.slice A0_0 l0_0.length c0_0):=(qC BK1.out 0).trans rfl;have hc1_1_12:w12.cell? ⟨gb1,1,none⟩=some (.slice A0_1 l0_1.length c0_1):=(qC BK1.out 1).trans rfl;have BK8_:=qK (qB BK8.out HST.out);clear BK8;have BK8:=BK8_;clear BK8_;have hc8_0_12:w12.cell? ⟨gb8,0,none⟩=some (.slice Af6 (cvStats l0_0 l0_1).1.length cf6):=(qC BK8.out 0).trans rfl;have hc8_1_12:w12.cell? ⟨gb8,1,none⟩=some (.slice Af7 (cvStats l0_0 l0_1).2.length cf7):=(qC BK8.out 1).trans rfl;clear hb HST ho0 ho1;clear HB11;refine hK.out _ _ ⟨(qC BK8.out 0).trans rfl,(qC BK8.out 1).trans rfl,(qC BK1.out 0).trans rfl,(qC BK1.out 1).trans rfl⟩ (fun hHeld=>?_);clear hK K;refine norm_ (a':=?_) ?_ ?_;rotate_left
 ·show Act.put _ (some 64) _=_
  simp only [Act.put,sIb,sZ,sS,i64_w,i32_w];rfl
 refine one_ (i:=3) (N:=some 65) #[Y,Y,Y,Y,Z] rfl rfl (by kernel_rfl) (by decide) (fun K hK=>?_);refine goes_ Try.func12 (by kernel_rfl) rfl #[.agg #[.slice Af6 (cvStats l0_0 l0_1).1.length cf6,.slice Af7 (cvStats l0_0 l0_1).2.length cf7],.agg #[.slice Af11 (cvStats l0_0 l0_1).1.length cf11,.slice Af12 (cvStats l0_0 l0_1).2.length cf12]] (by rfl) rfl rfl (by (try simp only [mT,mC,mN]);first|done|rfl|(simp only [lD,lT];rfl)) ?_;(with_reducible refine (laws_eqStats.calls (hr0_0:=(Kd.R_reads' F6.out).2.2) (hc0_0:=(Kd.R_reads' F6.out).2.1) (hr0_1:=(Kd.S_reads' F7.out).2.2) (hc0_1:=(Kd.S_reads' F7.out).2.1) (hr1_0:=(Kd.R_reads' F11.out).2.2) (hc1_0:=(Kd.R_reads' F11.out).2.1) (hr1_1:=(Kd.S_reads' F12.out).2.2) (hc1_1:=(Kd.S_reads' F12.out).2.1) (h:=N13.out)).mono ?_);rintro e w13 ⟨rfl,hb⟩;refine ⟨_,rfl,?_⟩;have HST:=qK (hb);have HB13:=qK (qT HB12.out HST.out);have HS13:=qK (show w12.heap.size≤w13.heap.size from HST.out.size);have F5_:=qK (rB F5.out HST.out);clear F5;have F5:=F5_;clear F5_;have F6_:=qK (rB F6.out HST.out);clear F6;have F6:=F6_;clear F6_;have F7_:=qK (Kd.S_below F7.out HST.out);clear F7;have F7:=F7_;clear F7_;have F9_:=qK (rB F9.out HST.out);clear F9;have F9:=F9_;clear F9_;have F10_:=qK (rB F10.out HST.out);clear F10;have F10:=F10_;clear F10_;clear F11;clear F12;have BK1_:=qK (qB BK1.out HST.out);clear BK1;have BK1:=BK1_;clear BK1_;have hc1_0_13:w13.cell? ⟨gb1,0,none⟩=some (.slice A0_0 l0_0.length c0_0):=(qC BK1.out 0).trans rfl;have hc1_1_13:w13.cell? ⟨gb1,1,none⟩=some (.slice A0_1 l0_1.length c0_1):=(qC BK1.out 1).trans rfl;have BK8_:=qK (qB BK8.out HST.out);clear BK8;have BK8:=BK8_;clear BK8_;have hc8_0_13:w13.cell? ⟨gb8,0,none⟩=some (.slice Af6 (cvStats l0_0 l0_1).1.length cf6):=(qC BK8.out 0).trans rfl;have hc8_1_13:w13.cell? ⟨gb8,1,none⟩=some (.slice Af7 (cvStats l0_0 l0_1).2.length cf7):=(qC BK8.out 1).trans rfl;clear hb HST;clear HB12;refine hK.out _ _ ⟨(qC BK8.out 0).trans rfl,(qC BK8.out 1).trans rfl,(qC BK1.out 0).trans rfl,(qC BK1.out 1).trans rfl⟩ (fun hHeld=>?_);clear hK K;refine norm_ (a':=?_) ?_ ?_;rotate_left
 ·show Act.put _ (some 65) _=_
  simp only [Act.put,sIb,sZ,sS,i64_w,i32_w];rfl
 refine pure_ (i:=4) (N:=some 66) (v:=?_) (a':=?_) #[Y,Y,Y,Y,Y] rfl rfl (by kernel_rfl) (fun _ _ _ h=>h) (Or.inl ⟨by rfl,?_⟩) ?_ ?_;rotate_left
 ·intro w';go_simp;with_reducible rfl
 rotate_left
 ·simp only [Act.put,sIb,sZ,sS,i64_w,i32_w];rfl
 refine done_ (by kernel_rfl) ?_;go_upto_region 17 with (first|((with_reducible refine gate_callee (f:=9) rfl ?_);refine goesL_ (some 69) rfl rfl Try.func9 (by kernel_rfl) rfl #[.slice A1 l1.length c1] rfl (by (try simp only [mT,mC,mN]);first|done|rfl|(simp only [lD,lT];rfl)) ?_;(with_reducible refine (laws_toIntS.calls (hr0:=cB HR1.out HB13.out) (hc0:=HC1.out) (h:=N14.out)).mono ?_);rintro e w14 ⟨v0_,rfl,ho0,hb⟩;have HST:=qK (hb);have HB14:=qK (qT HB13.out HST.out);have HS14:=qK (show w13.heap.size≤w14.heap.size from HST.out.size);obtain ⟨Af13,cf13,ef13⟩:=Kd.R_slice ho0;subst ef13;have F13:=qK (show Kd.R (Kd.int .i64) 3 w14 w.heap.size (fun k_=>w13.heap.size≤k_∧k_ < w14.heap.size) (.slice Af13 l1.length cf13) l1 from Kd.R_lower (Kd.R_mono (Kd.R_bound ho0) (fun k_ hk_=>⟨hk_.2.1,hk_.2.2.1⟩)) (qZ HB13.out));have F5_:=qK (rB F5.out HST.out);clear F5;have F5:=F5_;clear F5_;have F6_:=qK (rB F6.out HST.out);clear F6;have F6:=F6_;clear F6_;have F7_:=qK (Kd.S_below F7.out HST.out);clear F7;have F7:=F7_;clear F7_;have F9_:=qK (rB F9.out HST.out);clear F9;have F9:=F9_;clear F9_;have F10_:=qK (rB F10.out HST.out);clear F10;have F10:=F10_;clear F10_;have BK1_:=qK (qB BK1.out HST.out);clear BK1;have BK1:=BK1_;clear BK1_;have hc1_0_14:w14.cell? ⟨gb1,0,none⟩=some (.slice A0_0 l0_0.length c0_0):=(qC BK1.out 0).trans rfl;have hc1_1_14:w14.cell? ⟨gb1,1,none⟩=some (.slice A0_1 l0_1.length c0_1):=(qC BK1.out 1).trans rfl;have BK8_:=qK (qB BK8.out HST.out);clear BK8;have BK8:=BK8_;clear BK8_;have hc8_0_14:w14.cell? ⟨gb8,0,none⟩=some (.slice Af6 (cvStats l0_0 l0_1).1.length cf6):=(qC BK8.out 0).trans rfl;have hc8_1_14:w14.cell? ⟨gb8,1,none⟩=some (.slice Af7 (cvStats l0_0 l0_1).2.length cf7):=(qC BK8.out 1).trans rfl;clear hb HST ho0;clear HB13;refine ⟨_,rfl,?_⟩)|((with_reducible refine gate_callee (f:=11) rfl ?_);refine goesL_ (some 70) rfl rfl Try.func11 (by kernel_rfl) rfl #[.slice Af9 l1.length cf9,.slice Af13 l1.length cf13] rfl (by (try simp only [mT,mC,mN]);first|done|rfl|(simp only [lD,lT];rfl)) ?_;(with_reducible refine (laws_eqIntS.calls (hr0:=(Kd.R_reads' F9.out).2.2) (hc0:=(Kd.R_reads' F9.out).2.1) (hr1:=(Kd.R_reads' F13.out).2.2) (hc1:=(Kd.R_reads' F13.out).2.1) (h:=N15.out)).mono ?_);rintro e w15 ⟨rfl,hdr⟩;have HST:=qK (hdr.below);have HB15:=qK (qT HB14.out HST.out);have HS15:=qK (show w14.heap.size≤w15.heap.size from HST.out.size);have F5_:=qK (rB F5.out HST.out);clear F5;have F5:=F5_;clear F5_;have F6_:=qK (rB F6.out HST.out);clear F6;have F6:=F6_;clear F6_;have F7_:=qK (Kd.S_below F7.out HST.out);clear F7;have F7:=F7_;clear F7_;have F9_:=qK (rB F9.out HST.out);clear F9;have F9:=F9_;clear F9_;have F10_:=qK (rB F10.out HST.out);clear F10;have F10:=F10_;clear F10_;clear F13;have BK1_:=qK (qB BK1.out HST.out);clear BK1;have BK1:=BK1_;clear BK1_;have hc1_0_15:w15.cell? ⟨gb1,0,none⟩=some (.slice A0_0 l0_0.length c0_0):=(qC BK1.out 0).trans rfl;have hc1_1_15:w15.cell? ⟨gb1,1,none⟩=some (.slice A0_1 l0_1.length c0_1):=(qC BK1.out 1).trans rfl;have BK8_:=qK (qB BK8.out HST.out);clear BK8;have BK8:=BK8_;clear BK8_;have hc8_0_15:w15.cell? ⟨gb8,0,none⟩=some (.slice Af6 (cvStats l0_0 l0_1).1.length cf6):=(qC BK8.out 0).trans rfl;have hc8_1_15:w15.cell? ⟨gb8,1,none⟩=some (.slice Af7 (cvStats l0_0 l0_1).2.length cf7):=(qC BK8.out 1).trans rfl;clear hdr HST;clear HB14;refine ⟨_,rfl,?_⟩))
 go_upto_region 19 with (first|((with_reducible refine gate_callee (f:=13) rfl ?_);refine goesL_ (some 74) rfl rfl Try.func13 (by kernel_rfl) rfl #[.agg #[.slice Af6 (cvStats l0_0 l0_1).1.length cf6,.slice Af7 (cvStats l0_0 l0_1).2.length cf7],.int .i64 1] rfl (by (try simp only [mT,mC,mN]);first|done|rfl|(simp only [lD,lT];rfl)) ?_;have C_:=(laws_markStats.calls (w0:=w) (hB:=HB15.out) (ho0_0:=F6.out) (ho0_1:=F7.out) (hd:=(fun k_ h1_ h2_=>(h2_.2.2) h1_.2.2)) (h:=N16.out));refine C_.mono ?_;clear C_;rintro e w16 ⟨rfl,hy0,hy1,hb,hk⟩;have HB16:=qK hb;have HKK:=qK hk;have HS16:=qK (show w15.heap.size≤w16.heap.size from hk.1);have HEy16_0:=qK (show (cvStats l0_0 l0_1).1.length=y16_0.length from (Kd.R_reads' hy0).1);have F6_:=qK (show Kd.R (Kd.int .i64) 3 w16 w.heap.size (fun k_=>w5.heap.size≤k_∧k_ < w6.heap.size∧some k_=(.slice Af6 (cvStats l0_0 l0_1).1.length cf6:Value).ownBlock) (.slice Af6 y16_0.length cf6) y16_0 from by have hz_:=R_again rfl F6.out hy0;have he_:(cvStats l0_0 l0_1).1.length=y16_0.length:=(by have:=(Kd.R_reads' hz_).1;omega);rw [← he_];exact hz_);have HEy16_1:=qK (show (cvStats l0_0 l0_1).2.length=y16_1.length from (Kd.S_reads' hy1).1);have F7_:=qK (show Kd.S (Kd.slice 3 (Kd.int .i64)) 22 w16 w.heap.size (fun k_=>w5.heap.size≤k_∧k_ < w6.heap.size∧some k_ ≠ (.slice Af6 (cvStats l0_0 l0_1).1.length cf6:Value).ownBlock) (.slice Af7 y16_1.length cf7) y16_1 from by have hz_:=hy1;have he_:(cvStats l0_0 l0_1).2.length=y16_1.length:=(by have:=(Kd.S_reads' hz_).1;omega);rw [← he_];exact hz_);have F5_:=qK (Kd.R_kept F5.out HKK.out (fun k_ h1_=>by intro h2_;exact (Or.elim h2_ (fun e_=>(fun k_ h1_ h2_=>by have h3_:=h1_.1;have h4_:=h1_.2;have h5_:=h2_.1;have h6_:=h2_.2.1;have zd13_:=HSE13.out;omega) k_ h1_ e_) (fun r_=>(fun k_ h1_ h2_=>by have h3_:=h1_.1;have h4_:=h1_.2;have h5_:=h2_.1;have h6_:=h2_.2.1;have zd13_:=HSE13.out;omega) k_ h1_ r_))));clear F5;have F5:=F5_;clear F5_;clear F6 F6_;clear F7 F7_;have F9_:=qK (Kd.R_kept F9.out HKK.out (fun k_ h1_=>by intro h2_;exact (Or.elim h2_ (fun e_=>(fun k_ h1_ h2_=>by have h3_:=h1_.1;have h4_:=h1_.2;have h5_:=h2_.1;have h6_:=h2_.2.1;have z7_:=HS7.out;have z8_:=HS8.out;have zd13_:=HSE13.out;omega) k_ h1_ e_) (fun r_=>(fun k_ h1_ h2_=>by have h3_:=h1_.1;have h4_:=h1_.2;have h5_:=h2_.1;have h6_:=h2_.2.1;have z7_:=HS7.out;have z8_:=HS8.out;have zd13_:=HSE13.out;omega) k_ h1_ r_))));clear F9;have F9:=F9_;clear F9_;have F10_:=qK (Kd.R_kept F10.out HKK.out (fun k_ h1_=>by intro h2_;exact (Or.elim h2_ (fun e_=>(fun k_ h1_ h2_=>by have h3_:=h1_.1;have h4_:=h1_.2;have h5_:=h2_.1;have h6_:=h2_.2.1;have z7_:=HS7.out;have z8_:=HS8.out;have z9_:=HS9.out;have zd13_:=HSE13.out;omega) k_ h1_ e_) (fun r_=>(fun k_ h1_ h2_=>by have h3_:=h1_.1;have h4_:=h1_.2;have h5_:=h2_.1;have h6_:=h2_.2.1;have z7_:=HS7.out;have z8_:=HS8.out;have z9_:=HS9.out;have zd13_:=HSE13.out;omega) k_ h1_ r_))));clear F10;have F10:=F10_;clear F10_;have BK1_:=qK (blk_kept BK1.out HKK.out (fun hs_=>(Or.elim hs_ (fun e_=>(fun h2_=>by have h5_:=h2_.1;have h6_:=h2_.2.1;have z0_:=HG1.out;have zb_:=HS1b.out;have z1_:=HS1.out;have z2_:=HS2.out;have z3_:=HS3.out;have z4_:=HS4.out;have z5_:=HS5.out;have z6_:=HS6.out;have z7_:=HS7.out;have z8_:=HS8.out;have z9_:=HS9.out;have z10_:=HS10.out;have z11_:=HS11.out;have z12_:=HS12.out;have z13_:=HS13.out;have z14_:=HS14.out;have z15_:=HS15.out;have zd13_:=HSE13.out;omega) e_) (fun r_=>(fun h2_=>by have h5_:=h2_.1;have h6_:=h2_.2.1;have z0_:=HG1.out;have zb_:=HS1b.out;have z1_:=HS1.out;have z2_:=HS2.out;have z3_:=HS3.out;have z4_:=HS4.out;have z5_:=HS5.out;have z6_:=HS6.out;have z7_:=HS7.out;have z8_:=HS8.out;have z9_:=HS9.out;have z10_:=HS10.out;have z11_:=HS11.out;have z12_:=HS12.out;have z13_:=HS13.out;have z14_:=HS14.out;have z15_:=HS15.out;have zd13_:=HSE13.out;omega) r_))));clear BK1;have BK1:=BK1_;clear BK1_;have hc1_0_16:w16.cell? ⟨gb1,0,none⟩=some (.slice A0_0 l0_0.length c0_0):=(qC BK1.out 0).trans rfl;have hc1_1_16:w16.cell? ⟨gb1,1,none⟩=some (.slice A0_1 l0_1.length c0_1):=(qC BK1.out 1).trans rfl;clear BK8;clear hb hk HKK hy0 hy1;clear HB15;refine ⟨_,rfl,?_⟩))
 go_upto_region 20 with (first|((with_reducible refine gate_callee (f:=14) rfl ?_);refine goesL_ (some 77) rfl rfl Try.func14 (by kernel_rfl) rfl #[.slice Af9 l1.length cf9,.int .i64 m16_] rfl (by (try simp only [mT,mC,mN]);first|done|rfl|(simp only [lD,lT];rfl)) ?_;have C_:=(laws_markIntS.calls (w0:=w) (hB:=HB16.out) (ho0:=F9.out) (h:=N17.out));refine C_.mono ?_;clear C_;rintro e w17 ⟨rfl,hy0,hb,hk⟩;have HB17:=qK hb;have HKK:=qK hk;have HS17:=qK (show w16.heap.size≤w17.heap.size from hk.1);have HEy17_0:=qK (show l1.length=y17_0.length from (Kd.R_reads' hy0).1);have F9_:=qK (show Kd.R (Kd.int .i64) 3 w17 w.heap.size (fun k_=>w8.heap.size≤k_∧k_ < w9.heap.size) (.slice Af9 y17_0.length cf9) y17_0 from by have hz_:=R_again rfl F9.out hy0;have he_:l1.length=y17_0.length:=(by have:=(Kd.R_reads' hz_).1;omega);rw [← he_];exact hz_);have F5_:=qK (Kd.R_kept F5.out HKK.out (fun k_ h1_=>by intro h2_;exact (fun k_ h1_ h2_=>by have h3_:=h1_.1;have h4_:=h1_.2;have h5_:=h2_.1;have h6_:=h2_.2;have z6_:=HS6.out;have z7_:=HS7.out;have z8_:=HS8.out;have zd13_:=HSE13.out;omega) k_ h1_ h2_));clear F5;have F5:=F5_;clear F5_;clear F9 F9_;have F10_:=qK (Kd.R_kept F10.out HKK.out (fun k_ h1_=>by intro h2_;exact (fun k_ h1_ h2_=>by have h3_:=h1_.1;have h4_:=h1_.2;have h5_:=h2_.1;have h6_:=h2_.2;have zd13_:=HSE13.out;omega) k_ h1_ h2_));clear F10;have F10:=F10_;clear F10_;have BK1_:=qK (blk_kept BK1.out HKK.out (fun hs_=>(fun h2_=>by have h5_:=h2_.1;have h6_:=h2_.2;have z0_:=HG1.out;have zb_:=HS1b.out;have z1_:=HS1.out;have z2_:=HS2.out;have z3_:=HS3.out;have z4_:=HS4.out;have z5_:=HS5.out;have z6_:=HS6.out;have z7_:=HS7.out;have z8_:=HS8.out;have z9_:=HS9.out;have z10_:=HS10.out;have z11_:=HS11.out;have z12_:=HS12.out;have z13_:=HS13.out;have z14_:=HS14.out;have z15_:=HS15.out;have z16_:=HS16.out;have zd13_:=HSE13.out;omega) hs_));clear BK1;have BK1:=BK1_;clear BK1_;have hc1_0_17:w17.cell? ⟨gb1,0,none⟩=some (.slice A0_0 l0_0.length c0_0):=(qC BK1.out 0).trans rfl;have hc1_1_17:w17.cell? ⟨gb1,1,none⟩=some (.slice A0_1 l0_1.length c0_1):=(qC BK1.out 1).trans rfl;clear hb hk HKK hy0;clear HB16;refine ⟨_,rfl,?_⟩))
 go_upto_region 22 with (first|(go_at_call 11;(with_reducible refine (laws_eqIntS.calls (hr0:=(Kd.R_reads' F10.out).2.2) (hc0:=(Kd.R_reads' F10.out).2.1) (hr1:=(Kd.R_reads' F5.out).2.2) (hc1:=(Kd.R_reads' F5.out).2.1) (h:=N18.out)).mono ?_);rintro e w18 ⟨rfl,hdr⟩;have HST:=qK (hdr.below);have HB18:=qK (qT HB17.out HST.out);have HS18:=qK (show w17.heap.size≤w18.heap.size from HST.out.size);have F5_:=qK (rB F5.out HST.out);clear F5;have F5:=F5_;clear F5_;have F10_:=qK (rB F10.out HST.out);clear F10;have F10:=F10_;clear F10_;have BK1_:=qK (qB BK1.out HST.out);clear BK1;have BK1:=BK1_;clear BK1_;have hc1_0_18:w18.cell? ⟨gb1,0,none⟩=some (.slice A0_0 l0_0.length c0_0):=(qC BK1.out 0).trans rfl;have hc1_1_18:w18.cell? ⟨gb1,1,none⟩=some (.slice A0_1 l0_1.length c0_1):=(qC BK1.out 1).trans rfl;clear hdr HST;clear HB17))
 go_upto_region 24 with (first|((with_reducible refine gate_callee (f:=14) rfl ?_);refine goesL_ (some 98) rfl rfl Try.func14 (by kernel_rfl) rfl #[.slice Af10 o0_.length cf10,.int .i64 1] rfl (by (try simp only [mT,mC,mN]);first|done|rfl|(simp only [lD,lT];rfl)) ?_;have C_:=(laws_markIntS.calls (w0:=w) (hB:=HB18.out) (ho0:=F10.out) (h:=N19.out));refine C_.mono ?_;clear C_;rintro e w19 ⟨rfl,hy0,hb,hk⟩;have HB19:=qK hb;have HKK:=qK hk;have HS19:=qK (show w18.heap.size≤w19.heap.size from hk.1);have HEy19_0:=qK (show o0_.length=y19_0.length from (Kd.R_reads' hy0).1);have F10_:=qK (show Kd.R (Kd.int .i64) 3 w19 w.heap.size (fun k_=>w9.heap.size≤k_∧k_ < w10.heap.size) (.slice Af10 y19_0.length cf10) y19_0 from by have hz_:=R_again rfl F10.out hy0;have he_:o0_.length=y19_0.length:=(by have:=(Kd.R_reads' hz_).1;omega);rw [← he_];exact hz_);have F5_:=qK (Kd.R_kept F5.out HKK.out (fun k_ h1_=>by intro h2_;exact (fun k_ h1_ h2_=>by have h3_:=h1_.1;have h4_:=h1_.2;have h5_:=h2_.1;have h6_:=h2_.2;have z6_:=HS6.out;have z7_:=HS7.out;have z8_:=HS8.out;have z9_:=HS9.out;have zd13_:=HSE13.out;omega) k_ h1_ h2_));clear F5;have F5:=F5_;clear F5_;clear F10;have F10:=F10_;clear F10_;have BK1_:=qK (blk_kept BK1.out HKK.out (fun hs_=>(fun h2_=>by have h5_:=h2_.1;have h6_:=h2_.2;have z0_:=HG1.out;have zb_:=HS1b.out;have z1_:=HS1.out;have z2_:=HS2.out;have z3_:=HS3.out;have z4_:=HS4.out;have z5_:=HS5.out;have z6_:=HS6.out;have z7_:=HS7.out;have z8_:=HS8.out;have z9_:=HS9.out;have z10_:=HS10.out;have z11_:=HS11.out;have z12_:=HS12.out;have z13_:=HS13.out;have z14_:=HS14.out;have z15_:=HS15.out;have z16_:=HS16.out;have z17_:=HS17.out;have z18_:=HS18.out;have zd13_:=HSE13.out;omega) hs_));clear BK1;have BK1:=BK1_;clear BK1_;have hc1_0_19:w19.cell? ⟨gb1,0,none⟩=some (.slice A0_0 l0_0.length c0_0):=(qC BK1.out 0).trans rfl;have hc1_1_19:w19.cell? ⟨gb1,1,none⟩=some (.slice A0_1 l0_1.length c0_1):=(qC BK1.out 1).trans rfl;clear hb hk HKK hy0;clear HB18;refine ⟨_,rfl,?_⟩))
 go_upto_region 26 with (first|((with_reducible refine gate_callee (f:=15) rfl ?_);refine goesL_ (some 101) rfl rfl Try.func15 (by kernel_rfl) rfl #[.slice Af10 o0_.length cf10,.int .i64 1] rfl (by (try simp only [mT,mC,mN]);first|done|rfl|(simp only [lD,lT];rfl)) ?_;refine calls_of_args (args':=#[.slice Af10 y19_0.length cf10,.int .i64 1]) (by rw [HEy19_0.out]) ?_;(with_reducible refine (laws_heldIntS.calls (hr0:=(Kd.R_reads' F10.out).2.2) (hc0:=(Kd.R_reads' F10.out).2.1) (h:=N20.out)).mono ?_);rintro e w20 ⟨rfl,hdr⟩;have HST:=qK (hdr.below);have HB20:=qK (qT HB19.out HST.out);have HS20:=qK (show w19.heap.size≤w20.heap.size from HST.out.size);have F5_:=qK (rB F5.out HST.out);clear F5;have F5:=F5_;clear F5_;have F10_:=qK (rB F10.out HST.out);clear F10;have F10:=F10_;clear F10_;have BK1_:=qK (qB BK1.out HST.out);clear BK1;have BK1:=BK1_;clear BK1_;have hc1_0_20:w20.cell? ⟨gb1,0,none⟩=some (.slice A0_0 l0_0.length c0_0):=(qC BK1.out 0).trans rfl;have hc1_1_20:w20.cell? ⟨gb1,1,none⟩=some (.slice A0_1 l0_1.length c0_1):=(qC BK1.out 1).trans rfl;clear hdr HST;clear HB19;refine ⟨_,rfl,?_⟩))
 go_upto_region 31 with (first|((with_reducible refine gate_callee (f:=8) rfl ?_);refine goesL_ (some 109) rfl rfl Try.func8 (by kernel_rfl) rfl #[.agg #[.slice A0_0 l0_0.length c0_0,.slice A0_1 l0_1.length c0_1]] rfl (by (try simp only [mT,mC,mN]);first|done|rfl|(simp only [lD,lT];rfl)) ?_;(with_reducible refine (laws_toStats.calls (hr0_0:=cB HR0_0.out HB20.out) (hc0_0:=HC0_0.out) (hr0_1:=cB HR0_1.out HB20.out) (hc0_1:=HC0_1.out) (h:=N21.out)).mono ?_);rintro e w21 ⟨v0_,v1_,rfl,ho0,ho1,hb⟩;have HST:=qK (hb);have HB21:=qK (qT HB20.out HST.out);have HS21:=qK (show w20.heap.size≤w21.heap.size from HST.out.size);obtain ⟨Af14,cf14,ef14⟩:=Kd.R_slice ho0;subst ef14;obtain ⟨Af15,cf15,ef15⟩:=Kd.S_slice ho1;subst ef15;have F14:=qK (show Kd.R (Kd.int .i64) 3 w21 w.heap.size (fun k_=>w20.heap.size≤k_∧k_ < w21.heap.size∧some k_=(.slice Af14 (cvStats l0_0 l0_1).1.length cf14:Value).ownBlock) (.slice Af14 (cvStats l0_0 l0_1).1.length cf14) (cvStats l0_0 l0_1).1 from Kd.R_lower (Kd.R_mono (Kd.R_bound (Kd.R_tight rfl ho0)) (fun k_ hk_=>⟨hk_.2.1,hk_.2.2.1,hk_.1⟩)) (qZ HB20.out));have F15:=qK (show Kd.S (Kd.slice 3 (Kd.int .i64)) 22 w21 w.heap.size (fun k_=>w20.heap.size≤k_∧k_ < w21.heap.size∧some k_ ≠ (.slice Af14 (cvStats l0_0 l0_1).1.length cf14:Value).ownBlock) (.slice Af15 (cvStats l0_0 l0_1).2.length cf15) (cvStats l0_0 l0_1).2 from Kd.S_lower (Kd.S_mono (Kd.S_bound ho1) (fun k_ hk_=>⟨hk_.2.1,hk_.2.2.1,(by have h_:=hk_.1;first|exact h_|exact h_.1|exact h_.2|exact h_.2.1|exact h_.2.2|simp_all)⟩)) (qZ HB20.out));have F5_:=qK (rB F5.out HST.out);clear F5;have F5:=F5_;clear F5_;have F10_:=qK (rB F10.out HST.out);clear F10;have F10:=F10_;clear F10_;clear BK1;clear hb HST ho0 ho1;clear HB20;refine ⟨_,rfl,?_⟩)|((with_reducible refine gate_callee (f:=9) rfl ?_);refine goesL_ (some 111) rfl rfl Try.func9 (by kernel_rfl) rfl #[.slice A1 l1.length c1] rfl (by (try simp only [mT,mC,mN]);first|done|rfl|(simp only [lD,lT];rfl)) ?_;(with_reducible refine (laws_toIntS.calls (hr0:=cB HR1.out HB21.out) (hc0:=HC1.out) (h:=N22.out)).mono ?_);rintro e w22 ⟨v0_,rfl,ho0,hb⟩;have HST:=qK (hb);have HB22:=qK (qT HB21.out HST.out);have HS22:=qK (show w21.heap.size≤w22.heap.size from HST.out.size);obtain ⟨Af16,cf16,ef16⟩:=Kd.R_slice ho0;subst ef16;have F16:=qK (show Kd.R (Kd.int .i64) 3 w22 w.heap.size (fun k_=>w21.heap.size≤k_∧k_ < w22.heap.size) (.slice Af16 l1.length cf16) l1 from Kd.R_lower (Kd.R_mono (Kd.R_bound ho0) (fun k_ hk_=>⟨hk_.2.1,hk_.2.2.1⟩)) (qZ HB21.out));have F5_:=qK (rB F5.out HST.out);clear F5;have F5:=F5_;clear F5_;have F10_:=qK (rB F10.out HST.out);clear F10;have F10:=F10_;clear F10_;have F14_:=qK (rB F14.out HST.out);clear F14;have F14:=F14_;clear F14_;have F15_:=qK (Kd.S_below F15.out HST.out);clear F15;have F15:=F15_;clear F15_;clear hb HST ho0;clear HB21;refine ⟨_,rfl,?_⟩)|((with_reducible refine gate_callee (f:=10) rfl ?_);refine goesL_ (some 112) rfl rfl Try.func10 (by kernel_rfl) rfl #[.agg #[.slice Af14 (cvStats l0_0 l0_1).1.length cf14,.slice Af15 (cvStats l0_0 l0_1).2.length cf15],.slice Af16 l1.length cf16] rfl (by (try simp only [mT,mC,mN]);first|done|rfl|(simp only [lD,lT];rfl)) ?_;(with_reducible refine (impl_BestOf.calls (hr0_0:=(Kd.R_reads' F14.out).2.2) (hc0_0:=(Kd.R_reads' F14.out).2.1) (hr0_1:=(Kd.S_reads' F15.out).2.2) (hc0_1:=(Kd.S_reads' F15.out).2.1) (hr1:=(Kd.R_reads' F16.out).2.2) (hc1:=(Kd.R_reads' F16.out).2.1) (h:=N23.out)).mono ?_);rintro e w23 ⟨v0_,rfl,ho0,hb⟩;have HST:=qK (hb);have HB23:=qK (qT HB22.out HST.out);have HS23:=qK (show w22.heap.size≤w23.heap.size from HST.out.size);obtain ⟨Af17,cf17,ef17⟩:=Kd.R_slice ho0;subst ef17;have F17:=qK (show Kd.R (Kd.int .i64) 3 w23 w.heap.size (fun k_=>w22.heap.size≤k_∧k_ < w23.heap.size) (.slice Af17 o0_.length cf17) o0_ from Kd.R_lower (Kd.R_mono (Kd.R_bound ho0) (fun k_ hk_=>⟨hk_.2.1,hk_.2.2.1⟩)) (qZ HB22.out));have F5_:=qK (rB F5.out HST.out);clear F5;have F5:=F5_;clear F5_;have F10_:=qK (rB F10.out HST.out);clear F10;have F10:=F10_;clear F10_;clear F14;clear F15;clear F16;clear hb HST ho0;clear HB22;refine ⟨_,rfl,?_⟩))
 go_upto_region 33 with (first|((with_reducible refine gate_callee (f:=11) rfl ?_);refine goesL_ (some 118) rfl rfl Try.func11 (by kernel_rfl) rfl #[.slice Af17 o0_.length cf17,.slice Af5 o0_.length cf5] rfl (by (try simp only [mT,mC,mN]);first|done|rfl|(simp only [lD,lT];rfl)) ?_;(with_reducible refine (laws_eqIntS.calls (hr0:=(Kd.R_reads' F17.out).2.2) (hc0:=(Kd.R_reads' F17.out).2.1) (hr1:=(Kd.R_reads' F5.out).2.2) (hc1:=(Kd.R_reads' F5.out).2.1) (h:=N24.out)).mono ?_);rintro e w24 ⟨rfl,hdr⟩;have HST:=qK (hdr.below);have HB24:=qK (qT HB23.out HST.out);have HS24:=qK (show w23.heap.size≤w24.heap.size from HST.out.size);clear F5;have F10_:=qK (rB F10.out HST.out);clear F10;have F10:=F10_;clear F10_;clear F17;clear hdr HST;clear HB23;refine ⟨_,rfl,?_⟩))
 go_upto_region 35 with (first|((with_reducible refine gate_callee (f:=15) rfl ?_);refine goesL_ (some 132) rfl rfl Try.func15 (by kernel_rfl) rfl #[.slice Af10 o0_.length cf10,.int .i64 1] rfl (by (try simp only [mT,mC,mN]);first|done|rfl|(simp only [lD,lT];rfl)) ?_;refine calls_of_args (args':=#[.slice Af10 y19_0.length cf10,.int .i64 1]) (by rw [HEy19_0.out]) ?_;(with_reducible refine (laws_heldIntS.calls (hr0:=(Kd.R_reads' F10.out).2.2) (hc0:=(Kd.R_reads' F10.out).2.1) (h:=N25.out)).mono ?_);rintro e w25 ⟨rfl,hdr⟩;have HST:=qK (hdr.below);have HB25:=qK (qT HB24.out HST.out);have HS25:=qK (show w24.heap.size≤w25.heap.size from HST.out.size);clear F10;clear hdr HST;clear HB24;refine ⟨_,rfl,?_⟩))
 go_wp2
 go_ret
 exact ⟨rfl,HB25.out⟩

end Go.Proofs.Ytecebaeifmddnaa.PFnExactBestOf
