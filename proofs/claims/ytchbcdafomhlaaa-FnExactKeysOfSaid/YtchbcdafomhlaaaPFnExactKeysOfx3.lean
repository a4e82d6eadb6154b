/-
  A text of this claim's own, printed by a program of the session (wip/tools/xprint.py): functions of the program as Lean functions, each with what its call comes to.
-/
import Derived.Test.YtchbcdafomhlaaaPFnExactKeysOfx0
import Derived.Test.YtchbcdafomhlaaaPFnExactKeysOfx2
namespace Go.Proofs.Ytchbcdafomhlaaa.PFnExactKeysOf
open Go.Proofs.YtchbcdafomhlaaaW.PrintWords renaming pw_below_drewN → qD, blk_cell → qC, below_drew1 → qO, below_alloc → qA, blk_frozen → qF, below_set → qS, blk_drewN → qN, blk_alloc → qL, blk_drew → qW, below_size → qZ, below_step → qT, blk_below → qB, blk_far → qR, blk_put → qP
open Go.Proofs.YtchbcdafomhlaaaW.PrintWords.Aside0 renaming mk → qK
open Bool renaming true → Y, false → Z
open List renaming setIfInBounds_toArray → sIb, set_cons_zero → sZ, set_cons_succ → sS, map_toArray → mT, map_cons → mC, map_nil → mN, length_drop → lD, length_take → lT
open Go.Proofs.YtchbcdafomhlaaaW.PrintWords.Kd renaming C_alloc → cL, C_drewN → cN, C_drew → cW, C_below → cB, R_alloc → rL, R_drewN → rN, R_drew → rW, R_below → rB
open Go.RowKit Go.Proofs.YtchbcdafomhlaaaW.PrintWords Go.Proofs.YtchbcdafomhlaaaW.PrintLast Go.Proofs.YtchbcdafomhlaaaW.PrintMore
attribute [local go_sem] max2_int min2_int max_two min_two max_three min_three max_four min_four   -- for this text's walks alone
set_option linter.unusedVariables false
set_option linter.unusedSimpArgs false

/-! ### spec_l1Has: function 62 -/
def spec_l1Has.l0 : Nat→Int→List Int→Int→Int→Option (Bool)
 | 0,_,_,_,_=>none
 | k + 1,x1,x7,x8,x9=>if x9 < x8 then (if 0≤x9 then (if x9 < (x7.length:Int) then (if (rd x7 x9)=x1 then (some true) else (spec_l1Has.l0 k x1 x7 x8 (wrap64 (x9 + 1)))) else (none)) else (none)) else (some false)
def spec_l1Has.f (k:Nat) (l0:List Int) (a1:Int):Option (Bool):=spec_l1Has.l0 k a1 l0 (l0.length:Int) 0
theorem spec_l1Has.mono_l : ∀ k,(∀ y0 y1 y2 y3,LeO (spec_l1Has.l0 k y0 y1 y2 y3) (spec_l1Has.l0 (k + 1) y0 y1 y2 y3))
 | 0=>fun _ _ _ _ r h=>by simp [spec_l1Has.l0] at h
 | k + 1=>by
  have ih0:=spec_l1Has.mono_l k
  ·intro y0 y1 y2 y3;unfold spec_l1Has.l0
   repeat' first
   | (with_reducible exact ih0 _ _ _ _)
   | (with_reducible exact LeO.refl _)
   | (with_reducible exact LeO.none _)
   | (with_reducible refine LeO.ite ?_ ?_)
   | (with_reducible refine LeO.bind ?_ (fun _=>?_))
   | exact ih0 _ _ _ _
   | exact LeO.none _
   | refine LeO.ite ?_ ?_
   | refine LeO.bind ?_ (fun _=>?_)
theorem spec_l1Has.mono : ∀ a0 a1 k,LeO (spec_l1Has.f k a0 a1) (spec_l1Has.f (k + 1) a0 a1):=by
 intro a0 a1 k;have ih0:=spec_l1Has.mono_l k;unfold spec_l1Has.f
 repeat' first
   | (with_reducible exact ih0 _ _ _ _)
   | (with_reducible exact LeO.refl _)
   | (with_reducible exact LeO.none _)
   | (with_reducible refine LeO.ite ?_ ?_)
   | (with_reducible refine LeO.bind ?_ (fun _=>?_))
   | exact ih0 _ _ _ _
   | exact LeO.none _
   | refine LeO.ite ?_ ?_
   | refine LeO.bind ?_ (fun _=>?_)
set_option maxHeartbeats 8000000 in
set_option maxRecDepth 100000 in
theorem spec_l1Has.calls (k:Nat) (A0:Option Addr) (c0:Nat) (l0:List Int) (a1:Int) (r:Bool) (w:World) (hr0:Kd.C (Kd.int .i64) w A0 l0.length l0) (hc0:l0.length≤c0) (h:spec_l1Has.f k l0 a1=some r) :
  Calls Try.prog 62 #[.slice A0 l0.length c0,.int .i64 a1] w fun e w'=>e=.returned (.bool r)∧Drawn0 w w':=by
 have HR0:=qK hr0;have HC0:=qK hc0;clear hr0 hc0;have H:(spec_l1Has.l0 k a1 l0 (l0.length:Int) 0)=some r:=h;clear h;have H':=qK H;clear H;go_enter Try.func62,Try.ntmps62
 go_wp2
 go_loopg [9] k (fun kq v9 w'=>∃ (x9_1:Int),v9=.int .i64 x9_1∧Aside0 (spec_l1Has.l0 kq a1 l0 (l0.length:Int) x9_1=some r)∧Aside0 (kq≤k)∧Drawn0 w w')
 case atStart=>exact ⟨(0),(by first|rfl|(simp;done)|(simp [*];done)),H',⟨Nat.le_refl _⟩,by repeat (first|exact Drawn0.refl _|apply Drawn0.step)⟩
 case round =>
  clear H';try clear p2
  obtain ⟨x9_1,rfl,HA,HK1,⟨m1,rfl⟩⟩:=hrel;cases gk with
  | zero=>exact absurd HA.out (by simp [spec_l1Has.l0])
  | succ k1 =>
   have H:=HA.out;clear HA;simp only [spec_l1Has.l0] at H;by_cases c3:x9_1 < (l0.length:Int)
   ·rw [if_pos c3] at H;have c3b0:decide (x9_1 < (l0.length:Int))=true:=decide_eq_true c3;clear c3;by_cases c4:0≤x9_1
    ·rw [if_pos c4] at H;have c4b0:decide (0≤x9_1)=true:=decide_eq_true c4;clear c4;by_cases c5:x9_1 < (l0.length:Int)
     ·rw [if_pos c5] at H;have c5b0:decide (x9_1 < (l0.length:Int))=true:=decide_eq_true c5;clear c5;by_cases c6:(rd l0 x9_1)=a1
      ·rw [if_pos c6] at H;have c6b0:((rd l0 x9_1) == a1)=true:=beq_iff_eq.mpr c6;have c6b1:((rd l0 x9_1) != a1)=false:=bne_eq_false_iff_eq.mpr c6;clear c6;obtain rfl:=Option.some.inj H;have p172:0≤(x9_1:Int):=of_decide_eq_true (by first|(with_reducible assumption)|assumption);have q172:x9_1 < (l0.length:Int):=of_decide_eq_true (by first|(with_reducible assumption)|assumption);obtain ⟨ad172,e172,hx172_0⟩:=Kd.at_int HR0.out x9_1 p172 q172;cases e172
       replace p172:=eq_true p172;replace q172:=eq_true q172;go_wp2
       go_ret
       exact ⟨by first|rfl|(simp;done)|(simp [*];done),by repeat (first|exact Drawn0.refl _|apply Drawn0.step)⟩
      ·rw [if_neg c6] at H;have c6b0:((rd l0 x9_1) == a1)=false:=beq_eq_false_iff_ne.mpr c6;have c6b1:((rd l0 x9_1) != a1)=true:=bne_iff_ne.mpr c6;have H':=qK H;clear H;have p172:0≤(x9_1:Int):=of_decide_eq_true (by first|(with_reducible assumption)|assumption);have q172:x9_1 < (l0.length:Int):=of_decide_eq_true (by first|(with_reducible assumption)|assumption);obtain ⟨ad172,e172,hx172_0⟩:=Kd.at_int HR0.out x9_1 p172 q172;cases e172
       replace p172:=eq_true p172;replace q172:=eq_true q172;go_wp2
       go_roundg k1
       case measure=>have:=HK1.out;omega
       case rel=>exact ⟨(wrap64 (x9_1 + 1)),(by first|rfl|(simp;done)|(simp [*];done)),H',⟨by have:=HK1.out;omega⟩,by repeat (first|exact Drawn0.refl _|apply Drawn0.step)⟩
     ·rw [if_neg c5] at H;exact absurd H (by simp)
    ·rw [if_neg c4] at H;exact absurd H (by simp)
   ·rw [if_neg c3] at H;have c3b0:decide (x9_1 < (l0.length:Int))=false:=decide_eq_false c3;clear c3;obtain rfl:=Option.some.inj H;go_wp2
    go_ret
    exact ⟨by first|rfl|(simp;done)|(simp [*];done),by repeat (first|exact Drawn0.refl _|apply Drawn0.step)⟩

/-! ### spec_l7All: function 65 -/
def spec_l7All.l0 : Nat→List Int→List Int→Int→Int→Option (Bool)
 | 0,_,_,_,_=>none
 | k + 1,x0,x7,x8,x9=>if x9 < x8 then (if 0≤x9 then (if x9 < (x7.length:Int) then ((spec_l1Has.f k x0 (rd x7 x9)).bind fun t174=>(if t174=true then (spec_l7All.l0 k x0 x7 x8 (wrap64 (x9 + 1))) else (some false))) else (none)) else (none)) else (some true)
def spec_l7All.f (k:Nat) (l0:List Int) (l1:List Int):Option (Bool):=spec_l7All.l0 k l0 l1 (l1.length:Int) 0
theorem spec_l7All.mono_l : ∀ k,(∀ y0 y1 y2 y3,LeO (spec_l7All.l0 k y0 y1 y2 y3) (spec_l7All.l0 (k + 1) y0 y1 y2 y3))
 | 0=>fun _ _ _ _ r h=>by simp [spec_l7All.l0] at h
 | k + 1=>by
  have ih0:=spec_l7All.mono_l k
  ·intro y0 y1 y2 y3;unfold spec_l7All.l0
   repeat' first
   | (with_reducible exact ih0 _ _ _ _)
   | (with_reducible exact spec_l1Has.mono _ _ _)
   | (with_reducible exact LeO.refl _)
   | (with_reducible exact LeO.none _)
   | (with_reducible refine LeO.ite ?_ ?_)
   | (with_reducible refine LeO.bind ?_ (fun _=>?_))
   | exact ih0 _ _ _ _
   | exact spec_l1Has.mono _ _ _
   | exact LeO.none _
   | refine LeO.ite ?_ ?_
   | refine LeO.bind ?_ (fun _=>?_)
theorem spec_l7All.mono : ∀ a0 a1 k,LeO (spec_l7All.f k a0 a1) (spec_l7All.f (k + 1) a0 a1):=by
 intro a0 a1 k;have ih0:=spec_l7All.mono_l k;unfold spec_l7All.f
 repeat' first
   | (with_reducible exact ih0 _ _ _ _)
   | (with_reducible exact spec_l1Has.mono _ _ _)
   | (with_reducible exact LeO.refl _)
   | (with_reducible exact LeO.none _)
   | (with_reducible refine LeO.ite ?_ ?_)
   | (with_reducible refine LeO.bind ?_ (fun _=>?_))
   | exact ih0 _ _ _ _
   | exact spec_l1Has.mono _ _ _
   | exact LeO.none _
   | refine LeO.ite ?_ ?_
   | refine LeO.bind ?_ (fun _=>?_)
set_option maxHeartbeats 8000000 in
set_option maxRecDepth 100000 in
theorem spec_l7All.calls (k:Nat) (A0:Option Addr) (c0:Nat) (l0:List Int) (A1:Option Addr) (c1:Nat) (l1:List Int) (r:Bool) (w:World) (hr0:Kd.C (Kd.int .i64) w A0 l0.length l0) (hc0:l0.length≤c0) (hr1:Kd.C (Kd.int .i64) w A1 l1.length l1) (hc1:l1.length≤c1) (h:spec_l7All.f k l0 l1=some r) :
  Calls Try.prog 65 #[.slice A0 l0.length c0,.slice A1 l1.length c1] w fun e w'=>e=.returned (.bool r)∧Drawn0 w w':=by
 have HR0:=qK hr0;have HC0:=qK hc0;clear hr0 hc0;have HR1:=qK hr1;have HC1:=qK hc1;clear hr1 hc1;have H:(spec_l7All.l0 k l0 l1 (l1.length:Int) 0)=some r:=h;clear h;have H':=qK H;clear H;go_enter Try.func65,Try.ntmps65
 go_wp2
 go_loopg [9] k (fun kq v9 w'=>∃ (x9_1:Int),v9=.int .i64 x9_1∧Aside0 (spec_l7All.l0 kq l0 l1 (l1.length:Int) x9_1=some r)∧Aside0 (kq≤k)∧Drawn0 w w')
 case atStart=>exact ⟨(0),(by first|rfl|(simp;done)|(simp [*];done)),H',⟨Nat.le_refl _⟩,by repeat (first|exact Drawn0.refl _|apply Drawn0.step)⟩
 case round =>
  clear H';try clear c1
  try clear p2
  obtain ⟨x9_1,rfl,HA,HK1,⟨m1,rfl⟩⟩:=hrel;cases gk with
  | zero=>exact absurd HA.out (by simp [spec_l7All.l0])
  | succ k1 =>
   have H:=HA.out;clear HA;simp only [spec_l7All.l0] at H;by_cases c3:x9_1 < (l1.length:Int)
   ·rw [if_pos c3] at H;have c3b0:decide (x9_1 < (l1.length:Int))=true:=decide_eq_true c3;clear c3;by_cases c4:0≤x9_1
    ·rw [if_pos c4] at H;have c4b0:decide (0≤x9_1)=true:=decide_eq_true c4;clear c4;by_cases c5:x9_1 < (l1.length:Int)
     ·rw [if_pos c5] at H;have c5b0:decide (x9_1 < (l1.length:Int))=true:=decide_eq_true c5;clear c5;replace H:=Option.bind_eq_some_iff.mp H;obtain ⟨t174,A60,H⟩:=H;replace H:(if t174=true then (spec_l7All.l0 k1 l0 l1 (l1.length:Int) (wrap64 (x9_1 + 1))) else (some false))=some r:=H;have A6:=qK A60;clear A60;by_cases c7:t174=true
      ·subst c7;have H1:(spec_l7All.l0 k1 l0 l1 (l1.length:Int) (wrap64 (x9_1 + 1)))=some r:=by rw [if_pos rfl] at H;exact H
       clear H;have H:=H1;clear H1;have H':=qK H;clear H;have p173:0≤(x9_1:Int):=of_decide_eq_true (by first|(with_reducible assumption)|assumption);have q173:x9_1 < (l1.length:Int):=of_decide_eq_true (by first|(with_reducible assumption)|assumption);obtain ⟨ad173,e173,hx173_0⟩:=Kd.at_int HR1.out x9_1 p173 q173;cases e173
       replace p173:=eq_true p173;replace q173:=eq_true q173;go_wp2_with (first|((with_reducible refine gate_callee (f:=62) rfl ?_);refine goesL_ (some 15) rfl rfl Try.func62 (by kernel_rfl) rfl #[.slice A0 l0.length c0,.int .i64 (rd l1 x9_1)] rfl (by (try simp only [mT,mC,mN]);first|done|rfl|(simp only [lD,lT];rfl)) ?_;(with_reducible refine (spec_l1Has.calls k1 _ _ l0 (rd l1 x9_1) true _ ?side1 ?side2 A6.out).mono ?_);(case side1=>repeat (first|exact HR0.out|(with_reducible first|refine cL ?_ _|refine cN ?_ _|refine cW ?_)));(case side2=>exact HC0.out);rintro e w' ⟨rfl,⟨nd,rfl⟩⟩;refine ⟨_,rfl,?_⟩))
       go_roundg k1
       case measure=>have:=HK1.out;omega
       case rel=>exact ⟨(wrap64 (x9_1 + 1)),(by first|rfl|(simp;done)|(simp [*];done)),H',⟨by have:=HK1.out;omega⟩,by repeat (first|exact Drawn0.refl _|apply Drawn0.step)⟩
      ·replace c7:=Bool.eq_false_iff.mpr c7;subst c7;have H1:(some false)=some r:=by rw [if_neg (show ¬ (false=true) by decide)] at H;exact H
       clear H;have H:=H1;clear H1;obtain rfl:=Option.some.inj H;have p173:0≤(x9_1:Int):=of_decide_eq_true (by first|(with_reducible assumption)|assumption);have q173:x9_1 < (l1.length:Int):=of_decide_eq_true (by first|(with_reducible assumption)|assumption);obtain ⟨ad173,e173,hx173_0⟩:=Kd.at_int HR1.out x9_1 p173 q173;cases e173
       replace p173:=eq_true p173;replace q173:=eq_true q173;go_wp2_with (first|((with_reducible refine gate_callee (f:=62) rfl ?_);refine goesL_ (some 15) rfl rfl Try.func62 (by kernel_rfl) rfl #[.slice A0 l0.length c0,.int .i64 (rd l1 x9_1)] rfl (by (try simp only [mT,mC,mN]);first|done|rfl|(simp only [lD,lT];rfl)) ?_;(with_reducible refine (spec_l1Has.calls k1 _ _ l0 (rd l1 x9_1) false _ ?side1 ?side2 A6.out).mono ?_);(case side1=>repeat (first|exact HR0.out|(with_reducible first|refine cL ?_ _|refine cN ?_ _|refine cW ?_)));(case side2=>exact HC0.out);rintro e w' ⟨rfl,⟨nd,rfl⟩⟩;refine ⟨_,rfl,?_⟩))
       go_ret
       exact ⟨by first|rfl|(simp;done)|(simp [*];done),by repeat (first|exact Drawn0.refl _|apply Drawn0.step)⟩
     ·rw [if_neg c5] at H;exact absurd H (by simp)
    ·rw [if_neg c4] at H;exact absurd H (by simp)
   ·rw [if_neg c3] at H;have c3b0:decide (x9_1 < (l1.length:Int))=false:=decide_eq_false c3;clear c3;obtain rfl:=Option.some.inj H;go_wp2
    go_ret
    exact ⟨by first|rfl|(simp;done)|(simp [*];done),by repeat (first|exact Drawn0.refl _|apply Drawn0.step)⟩

/-! ### spec_l7Put: function 71 -/
def spec_l7Put.l0 : Nat→List Int→Int→Int→Option (List Int)
 | 0,_,_,_=>none
 | k + 1,x0,x1,x5=>if x5 < (x0.length:Int) then (if 0≤x5 then (if (rd x0 x5) < x1 then (spec_l7Put.l0 k x0 x1 (wrap64 (x5 + 1))) else (if x5≤(x0.length:Int) then ((some (x0.take (x5:Int).toNat:List Int)).bind fun y177=>(if ([]:List Int).length + y177.length < 17592186044416 then ((some (([]:List Int) ++ y177:List Int)).bind fun y182=>(if y182.length < 17592186044416 then ((some (y182 ++ [x1]:List Int)).bind fun y185=>((some (x0.drop (x5:Int).toNat:List Int)).bind fun y188=>(if y185.length + y188.length < 17592186044416 then (some (y185 ++ y188)) else (none)))) else (none))) else (none))) else (none))) else (none)) else (if 0≤x5 then (if x5≤(x0.length:Int) then ((some (x0.take (x5:Int).toNat:List Int)).bind fun y196=>(if ([]:List Int).length + y196.length < 17592186044416 then ((some (([]:List Int) ++ y196:List Int)).bind fun y201=>(if y201.length < 17592186044416 then ((some (y201 ++ [x1]:List Int)).bind fun y204=>((some (x0.drop (x5:Int).toNat:List Int)).bind fun y207=>(if y204.length + y207.length < 17592186044416 then (some (y204 ++ y207)) else (none)))) else (none))) else (none))) else (none)) else (none))
def spec_l7Put.f (k:Nat) (l0:List Int) (a1:Int):Option (List Int):=(spec_l1Has.f k l0 a1).bind fun t175=>(if t175=true then (some l0) else (spec_l7Put.l0 k l0 a1 0))
theorem spec_l7Put.mono_l : ∀ k,(∀ y0 y1 y2,LeO (spec_l7Put.l0 k y0 y1 y2) (spec_l7Put.l0 (k + 1) y0 y1 y2))
 | 0=>fun _ _ _ r h=>by simp [spec_l7Put.l0] at h
 | k + 1=>by
  have ih0:=spec_l7Put.mono_l k
  ·intro y0 y1 y2;unfold spec_l7Put.l0
   repeat' first
   | (with_reducible exact ih0 _ _ _)
   | (with_reducible exact spec_l1Has.mono _ _ _)
   | (with_reducible exact LeO.refl _)
   | (with_reducible exact LeO.none _)
   | (with_reducible refine LeO.ite ?_ ?_)
   | (with_reducible refine LeO.bind ?_ (fun _=>?_))
   | exact ih0 _ _ _
   | exact spec_l1Has.mono _ _ _
   | exact LeO.none _
   | refine LeO.ite ?_ ?_
   | refine LeO.bind ?_ (fun _=>?_)
theorem spec_l7Put.mono : ∀ a0 a1 k,LeO (spec_l7Put.f k a0 a1) (spec_l7Put.f (k + 1) a0 a1):=by
 intro a0 a1 k;have ih0:=spec_l7Put.mono_l k;unfold spec_l7Put.f
 repeat' first
   | (with_reducible exact ih0 _ _ _)
   | (with_reducible exact spec_l1Has.mono _ _ _)
   | (with_reducible exact LeO.refl _)
   | (with_reducible exact LeO.none _)
   | (with_reducible refine LeO.ite ?_ ?_)
   | (with_reducible refine LeO.bind ?_ (fun _=>?_))
   | exact ih0 _ _ _
   | exact spec_l1Has.mono _ _ _
   | exact LeO.none _
   | refine LeO.ite ?_ ?_
   | refine LeO.bind ?_ (fun _=>?_)
set_option maxHeartbeats 8000000 in
set_option maxRecDepth 100000 in
theorem spec_l7Put.calls (k:Nat) (P0_:Nat→Prop) (A0:Option Addr) (c0:Nat) (l0:List Int) (a1:Int) (r:List Int) (w:World) (hs0:Kd.V (Kd.int .i64) 3 w w.heap.size (fun k_=>P0_ k_) (.slice A0 l0.length c0) l0) (h:spec_l7Put.f k l0 a1=some r) :
  Calls Try.prog 71 #[.slice A0 l0.length c0,.int .i64 a1] w fun e w'=>∃ v0_:Value,e=.returned (v0_)∧Kd.V (Kd.int .i64) 3 w' w.heap.size (fun k_=>(P0_ k_ ∨ w.heap.size≤k_)) v0_ r∧Below w.heap.size w w':=by
 have HO0:=qK (show Kd.V (Kd.int .i64) 3 w w.heap.size (fun k_=>(P0_ k_ ∨ w.heap.size≤k_)) (.slice A0 l0.length c0) l0 from Kd.V_mono hs0 (fun k_ hk=>.inl hk));have HB:=qK (Below.refl w.heap.size w);have H:((spec_l1Has.f k l0 a1).bind fun t175=>(if t175=true then (some l0) else (spec_l7Put.l0 k l0 a1 0)))=some r:=h;clear h;replace H:=Option.bind_eq_some_iff.mp H;obtain ⟨t175,A30,H⟩:=H;replace H:(if t175=true then (some l0) else (spec_l7Put.l0 k l0 a1 0))=some r:=H;have A3:=qK A30;clear A30;by_cases c4:t175=true
 ·subst c4;have H1:(some l0)=some r:=by rw [if_pos rfl] at H;exact H
  clear H;have H:=H1;clear H1;obtain rfl:=Option.some.inj H;go_enter Try.func71,Try.ntmps71
  go_wp2_with (first|((with_reducible refine gate_callee (f:=62) rfl ?_);refine goesL_ (some 9) rfl rfl Try.func62 (by kernel_rfl) rfl #[.slice A0 l0.length c0,.int .i64 a1] rfl (by (try simp only [mT,mC,mN]);first|done|rfl|(simp only [lD,lT];rfl)) ?_;(with_reducible refine (spec_l1Has.calls k _ _ l0 a1 true _ ?side1 ?side2 A3.out).mono ?_);(case side1=>repeat (first|exact (Kd.V_reads' HO0.out).2.2|(with_reducible first|refine cL ?_ _|refine cN ?_ _|refine cW ?_)));(case side2=>exact (Kd.V_reads' HO0.out).2.1);rintro e w' ⟨rfl,⟨nd,rfl⟩⟩;refine ⟨_,rfl,?_⟩))
  go_ret
  exact ⟨_,by first|rfl|(simp [errW_none,errW_some] <;> rfl)|(simp [*,errW_none,errW_some] <;> rfl),by (with_reducible repeat (first|apply Kd.V_alloc|apply Kd.V_drewN|apply Kd.V_drew));exact HO0.out,by repeat (first|(with_reducible first|exact HB.out|apply qA|apply qD|apply qO)|exact HB.out)⟩
 ·replace c4:=Bool.eq_false_iff.mpr c4;subst c4;have H1:(spec_l7Put.l0 k l0 a1 0)=some r:=by rw [if_neg (show ¬ (false=true) by decide)] at H;exact H
  clear H;have H:=H1;clear H1;have H':=qK H;clear H;go_enter Try.func71,Try.ntmps71
  go_wp2_with (first|((with_reducible refine gate_callee (f:=62) rfl ?_);refine goesL_ (some 9) rfl rfl Try.func62 (by kernel_rfl) rfl #[.slice A0 l0.length c0,.int .i64 a1] rfl (by (try simp only [mT,mC,mN]);first|done|rfl|(simp only [lD,lT];rfl)) ?_;(with_reducible refine (spec_l1Has.calls k _ _ l0 a1 false _ ?side1 ?side2 A3.out).mono ?_);(case side1=>repeat (first|exact (Kd.V_reads' HO0.out).2.2|(with_reducible first|refine cL ?_ _|refine cN ?_ _|refine cW ?_)));(case side2=>exact (Kd.V_reads' HO0.out).2.1);rintro e w' ⟨rfl,⟨nd,rfl⟩⟩;refine ⟨_,rfl,?_⟩))
  go_loopg [5] k (fun kq v5 w'=>∃ (x5_1:Int),v5=.int .i64 x5_1∧Aside0 (spec_l7Put.l0 kq l0 a1 x5_1=some r)∧Aside0 (kq≤k)∧Aside0 (Kd.V (Kd.int .i64) 3 w' w.heap.size (fun k_=>(P0_ k_ ∨ w.heap.size≤k_)) (.slice A0 l0.length c0) l0)∧Aside0 (Below w.heap.size w w'))
  case atStart=>exact ⟨(0),(by first|rfl|(simp;done)|(simp [*];done)),H',⟨Nat.le_refl _⟩,⟨by (with_reducible repeat (first|apply Kd.V_alloc|apply Kd.V_drewN|apply Kd.V_drew));exact HO0.out⟩,⟨by repeat (first|(with_reducible first|exact HB.out|apply qA|apply qD|apply qO)|exact HB.out)⟩⟩
  case round =>
   clear H';try clear p2
   try clear c4
   obtain ⟨x5_1,rfl,HA,HK1,HO_0,HB⟩:=hrel;cases gk with
   | zero=>exact absurd HA.out (by simp [spec_l7Put.l0])
   | succ k1 =>
    have H:=HA.out;clear HA;simp only [spec_l7Put.l0] at H;by_cases c5:x5_1 < (l0.length:Int)
    ·rw [if_pos c5] at H;have c5b0:decide (x5_1 < (l0.length:Int))=true:=decide_eq_true c5;clear c5;by_cases c6:0≤x5_1
     ·rw [if_pos c6] at H;have c6b0:decide (0≤x5_1)=true:=decide_eq_true c6;clear c6;by_cases c7:(rd l0 x5_1) < a1
      ·rw [if_pos c7] at H;have c7b0:decide ((rd l0 x5_1) < a1)=true:=decide_eq_true c7;clear c7;have H':=qK H;clear H;have p176:0≤(x5_1:Int):=of_decide_eq_true (by first|(with_reducible assumption)|assumption);have q176:x5_1 < (l0.length:Int):=of_decide_eq_true (by first|(with_reducible assumption)|assumption);obtain ⟨ad176,e176,hx176_0⟩:=Kd.at_int (Kd.V_reads' HO_0.out).2.2 x5_1 p176 q176;cases e176
       replace p176:=eq_true p176;replace q176:=eq_true q176;go_wp2
       go_roundg k1
       case measure=>have:=HK1.out;omega
       case rel=>exact ⟨(wrap64 (x5_1 + 1)),(by first|rfl|(simp;done)|(simp [*];done)),H',⟨by have:=HK1.out;omega⟩,⟨by (with_reducible repeat (first|apply Kd.V_alloc|apply Kd.V_drewN|apply Kd.V_drew));exact HO_0.out⟩,⟨by repeat (first|(with_reducible first|exact HB.out|apply qA|apply qD|apply qO)|exact HB.out)⟩⟩
      ·rw [if_neg c7] at H;have c7b0:decide ((rd l0 x5_1) < a1)=false:=decide_eq_false c7;clear c7;have c8b0:=eq_true (of_decide_eq_true (by first|(with_reducible assumption)|assumption):0≤x5_1);by_cases c9:x5_1≤(l0.length:Int)
       ·rw [if_pos c9] at H;have c9b0:=eq_true c9;have c9b1:decide (x5_1≤(l0.length:Int))=true:=decide_eq_true c9;clear c9;obtain ⟨y177,hy177⟩:∃ y_:List Int,y_=(l0.take (x5_1:Int).toNat):=⟨_,rfl⟩;replace H:(if ([]:List Int).length + y177.length < 17592186044416 then ((some (([]:List Int) ++ y177:List Int)).bind fun y182=>(if y182.length < 17592186044416 then ((some (y182 ++ [a1]:List Int)).bind fun y185=>((some (l0.drop (x5_1:Int).toNat:List Int)).bind fun y188=>(if y185.length + y188.length < 17592186044416 then (some (y185 ++ y188)) else (none)))) else (none))) else (none))=some r:=by first|(rw [hy177];with_reducible exact H)|(have H2_:=(Option.bind_some _ _).symm.trans H;rw [hy177];with_reducible exact H2_)|(have H2_:=(Option.bind_some _ _).symm.trans H;with_reducible exact H2_)|with_reducible exact H|(rw [hy177];exact H)|exact H
        have Ny177:=qK hy177;clear hy177;by_cases c10:([]:List Int).length + y177.length < 17592186044416
        ·rw [if_pos c10] at H;have LMc10:=qK c10;clear c10;obtain ⟨y182,hy182⟩:∃ y_:List Int,y_=(([]:List Int) ++ y177):=⟨_,rfl⟩;replace H:(if y182.length < 17592186044416 then ((some (y182 ++ [a1]:List Int)).bind fun y185=>((some (l0.drop (x5_1:Int).toNat:List Int)).bind fun y188=>(if y185.length + y188.length < 17592186044416 then (some (y185 ++ y188)) else (none)))) else (none))=some r:=by first|(rw [hy182];with_reducible exact H)|(have H2_:=(Option.bind_some _ _).symm.trans H;rw [hy182];with_reducible exact H2_)|(have H2_:=(Option.bind_some _ _).symm.trans H;with_reducible exact H2_)|with_reducible exact H|(rw [hy182];exact H)|exact H
         have Ny182:=qK hy182;clear hy182;by_cases c11:y182.length < 17592186044416
         ·rw [if_pos c11] at H;have LMc11:=qK c11;clear c11;obtain ⟨y185,hy185⟩:∃ y_:List Int,y_=(y182 ++ [a1]):=⟨_,rfl⟩;replace H:((some (l0.drop (x5_1:Int).toNat:List Int)).bind fun y188=>(if y185.length + y188.length < 17592186044416 then (some (y185 ++ y188)) else (none)))=some r:=by first|(rw [hy185];with_reducible exact H)|(have H2_:=(Option.bind_some _ _).symm.trans H;rw [hy185];with_reducible exact H2_)|(have H2_:=(Option.bind_some _ _).symm.trans H;with_reducible exact H2_)|with_reducible exact H|(rw [hy185];exact H)|exact H
          have Ny185:=qK hy185;clear hy185;have c12b0:=eq_true (of_decide_eq_true (by first|(with_reducible assumption)|assumption):0≤x5_1);have c13b0:=eq_true (of_decide_eq_true (by first|(with_reducible assumption)|assumption):x5_1≤(l0.length:Int));obtain ⟨y188,hy188⟩:∃ y_:List Int,y_=(l0.drop (x5_1:Int).toNat):=⟨_,rfl⟩;replace H:(if y185.length + y188.length < 17592186044416 then (some (y185 ++ y188)) else (none))=some r:=by first|(rw [hy188];with_reducible exact H)|(have H2_:=(Option.bind_some _ _).symm.trans H;rw [hy188];with_reducible exact H2_)|(have H2_:=(Option.bind_some _ _).symm.trans H;with_reducible exact H2_)|with_reducible exact H|(rw [hy188];exact H)|exact H
          have Ny188:=qK hy188;clear hy188;by_cases c14:y185.length + y188.length < 17592186044416
          ·rw [if_pos c14] at H;have LMc14:=qK c14;clear c14;obtain ⟨y193,hy193⟩:∃ y_:List Int,y_=(y185 ++ y188):=⟨_,rfl⟩;replace H:(some y193)=some r:=by first|(rw [hy193];with_reducible exact H)|(have H2_:=(Option.bind_some _ _).symm.trans H;rw [hy193];with_reducible exact H2_)|(have H2_:=(Option.bind_some _ _).symm.trans H;with_reducible exact H2_)|with_reducible exact H|(rw [hy193];exact H)|exact H
           have Ny193:=qK hy193;clear hy193;obtain rfl:=Option.some.inj H;have p176:0≤(x5_1:Int):=of_decide_eq_true (by first|(with_reducible assumption)|assumption);have q176:x5_1 < (l0.length:Int):=of_decide_eq_true (by first|(with_reducible assumption)|assumption);obtain ⟨ad176,e176,hx176_0⟩:=Kd.at_int (Kd.V_reads' HO_0.out).2.2 x5_1 p176 q176;cases e176
           replace p176:=eq_true p176;replace q176:=eq_true q176;have q15:(x5_1:Int)≤((l0.length:Int):Int):=of_decide_eq_true (by first|(with_reducible assumption)|assumption);obtain ⟨i015,hi015,_,hsz15,_⟩:=info_parts info3;have hroom15:l0.length≤c0:=(Kd.V_reads' HO_0.out).2.1;have hC15:Kd.F (Kd.int .i64) _ _ (some ad176) l0.length l0:=(Kd.V_at (base:=w.heap.size) HO_0.out).2.2;have hcut15:=cut_to (P:=Try.prog) 24 3 .i64 Try.underlying24 hi015 (some ad176) l0.length c0 x5_1 (of_decide_eq_true (by first|(with_reducible assumption)|assumption)) q15 hroom15;have hr15:=Kd.F_take (m:=(x5_1:Int).toNat) hC15 (by omega);have hy15:y177.length=(x5_1:Int).toNat:=(by rw [Ny177.out,lT];omega);rw [← Ny177.out] at hr15;rw [← hy15] at hcut15;have HO181:=qK (show Kd.V (Kd.int .i64) 3 _ w.heap.size _ (.slice (some ad176) y177.length c0) y177 from Kd.V_mk (by omega) hr15);have HC181:=qK (show y177.length≤c0 from by omega);clear hr15 hC15 hroom15 hi015 hsz15;have KY15:=qK hy15;clear hy15;replace q15:=eq_true q15;go_wp2_with (first|((with_reducible refine gate_builtin (b:=.append) (xs:=#[.tmp 25,.tmp 28]) rfl ?_);at_builtin;refine Kd.R_append_rows (Kd.int .i64) (w0:=w) w.heap.size rfl (.tmp 25) (.tmp 28) 24 3 (.int .i64 0) 8 rfl Try.underlying24 info3 rfl (by decide) (by omega) (.slice none 0 0) ([]:List Int) y177 _ _ _ (fun k_=>(w.heap.size≤k_)) (fun _=>False) rfl rfl ?aO ?aR (fun _ _ h=>h) (fun _ h=>h.elim) ?aF ?aB ?aS ?aL ?_;(case aR=>repeat (first|exact (Kd.V_reads' HO181.out).2.2|(with_reducible first|refine cL ?_ _|refine cN ?_ _|refine cW ?_)));(case aB=>exact (by repeat (with_reducible first|exact HB.out|apply qA|apply qD|apply qO)));(case aF=>exact (fun k_ hk=>(Nat.le_trans (qZ (by repeat (with_reducible first|exact HB.out|apply qA|apply qD|apply qO))) hk)));(case aO=>exact ((Kd.R_nil _ _ _ _ (fun k_=>(w.heap.size≤k_)))));(case aS=>exact (qZ (by repeat (with_reducible first|exact HB.out|apply qA|apply qD|apply qO))));(case aL=>have:=LMc10.out;omega);intro v183 w16 ho hb hg hat;rw [← Ny182.out] at ho;have n0_:=qK (Kd.V_afterv (Kd.V_apart_nil (by (with_reducible repeat (first|apply Kd.V_alloc|apply Kd.V_drewN|apply Kd.V_drew));exact HO_0.out)) hg hat);have n1_:=qK (Kd.V_afterv (Kd.V_apart_nil (by (with_reducible repeat (first|apply Kd.V_alloc|apply Kd.V_drewN|apply Kd.V_drew));exact HO181.out)) hg hat);have n2_:=qK (hb);have n3_:=qK (ho);clear HO_0;clear HO181;clear HB;have HO_0:=n0_;have HO181:=n1_;have HB:=n2_;have HO184:=n3_;clear n0_ n1_ n2_ n3_;clear ho hb hg hat)|((with_reducible refine gate_builtin (b:=.append) (xs:=#[.tmp 30,.tmp 32]) rfl ?_);at_builtin;refine Kd.R_append (Kd.int .i64) (w0:=w) w.heap.size rfl (.tmp 30) (.tmp 32) 24 3 (.int .i64 0) 8 rfl Try.underlying24 info3 rfl (by decide) (by omega) v183 y182 a1 [.int .i64 a1] (fun k_=>(w.heap.size≤k_)) (fun _=>False) rfl rfl ?aP (fun _ hk=>hk.elim) ?aF ?aO ?aB ?aS ?aL ?_;(case aP=>exact rfl);(case aB=>exact (by repeat (with_reducible first|exact HB.out|apply qA|apply qD|apply qO)));(case aF=>exact (fun k_ hk=>(Nat.le_trans (qZ (by repeat (with_reducible first|exact HB.out|apply qA|apply qD|apply qO))) hk)));(case aO=>exact (by (with_reducible repeat (first|apply rL|apply rN|apply rW));exact HO184.out));(case aS=>exact (qZ (by repeat (with_reducible first|exact HB.out|apply qA|apply qD|apply qO))));(case aL=>have:=LMc11.out;omega);intro v186 w17 ho hb hg hat;rw [← Ny185.out] at ho;have n0_:=qK (Kd.V_afterv (ok:=(fun k_=>(P0_ k_ ∨ w.heap.size≤k_))) (by (with_reducible repeat (first|apply Kd.V_alloc|apply Kd.V_drewN|apply Kd.V_drew));exact HO_0.out) hg hat);have n1_:=qK (Kd.V_afterv (ok:=(fun k_=>(P0_ k_ ∨ w.heap.size≤k_))) (by (with_reducible repeat (first|apply Kd.V_alloc|apply Kd.V_drewN|apply Kd.V_drew));exact HO181.out) hg hat);have n2_:=qK (hb);have n3_:=qK (ho);clear HO_0;clear HO181;clear HB;clear HO184;have HO_0:=n0_;have HO181:=n1_;have HB:=n2_;have HO187:=n3_;clear n0_ n1_ n2_ n3_;clear ho hb hg hat;have q18:(x5_1:Int)≤((l0.length:Int):Int):=of_decide_eq_true (by first|(with_reducible assumption)|assumption);obtain ⟨i018,hi018,_,hsz18,_⟩:=info_parts info3;have hroom18:l0.length≤c0:=(Kd.V_reads' HO_0.out).2.1;have hC18:Kd.F (Kd.int .i64) _ _ (some ad176) l0.length l0:=(Kd.V_at (base:=w.heap.size) HO_0.out).2.2;have q018:(0:Int)≤(x5_1:Int):=of_decide_eq_true (by first|(with_reducible assumption)|assumption);have hcut18:=cut_from (P:=Try.prog) 24 3 .i64 Try.underlying24 hi018 1 hsz18 (some ad176) l0.length c0 x5_1 q018 q18;have hr18:=Kd.F_cut (m:=(x5_1:Int).toNat) (c:=c0) hC18 (by omega) hroom18;obtain ⟨A18,hA18⟩:∃ A1,A1=(if c0=(x5_1:Int).toNat then (some ad176) else ((some ad176):Option Addr).map (·.add ((x5_1:Int).toNat * 1))):=⟨_,rfl⟩;obtain ⟨c18,hc18⟩:∃ c1,c1=c0 - (x5_1:Int).toNat:=⟨_,rfl⟩;have hy18:y188.length=l0.length - (x5_1:Int).toNat:=(by rw [Ny188.out,lD] <;> omega);rw [show (l0).drop (x5_1:Int).toNat=y188 from Ny188.out.symm] at hr18;replace hr18:Kd.F (Kd.int .i64) _ _ A18 y188.length y188:=(by rw [hA18];exact hr18);rw [← hy18,← hA18,← hc18] at hcut18;have HO192:=qK (show Kd.V (Kd.int .i64) 3 _ w.heap.size _ (.slice A18 y188.length c18) y188 from Kd.V_mk (by rw [hy18,hc18];exact Nat.sub_le_sub_right hroom18 _) hr18);have HC192:=qK (show y188.length≤c18 from by rw [hy18,hc18];exact Nat.sub_le_sub_right hroom18 _);clear hr18 hC18 hroom18 hi018 hsz18 hc18;have KY18:=qK hy18;have KA18:=qK hA18;clear hy18 hA18;replace q18:=eq_true q18)|((with_reducible refine gate_builtin (b:=.append) (xs:=#[.tmp 34,.tmp 37]) rfl ?_);at_builtin;refine Kd.R_append_rows (Kd.int .i64) (w0:=w) w.heap.size rfl (.tmp 34) (.tmp 37) 24 3 (.int .i64 0) 8 rfl Try.underlying24 info3 rfl (by decide) (by omega) v186 y185 y188 _ _ _ (fun k_=>(w.heap.size≤k_)) (fun _=>False) rfl rfl ?aO ?aR (fun _ _ h=>h) (fun _ h=>h.elim) ?aF ?aB ?aS ?aL ?_;(case aR=>repeat (first|exact (Kd.V_reads' HO192.out).2.2|(with_reducible first|refine cL ?_ _|refine cN ?_ _|refine cW ?_)));(case aB=>exact (by repeat (with_reducible first|exact HB.out|apply qA|apply qD|apply qO)));(case aF=>exact (fun k_ hk=>(Nat.le_trans (qZ (by repeat (with_reducible first|exact HB.out|apply qA|apply qD|apply qO))) hk)));(case aO=>exact (by (with_reducible repeat (first|apply rL|apply rN|apply rW));exact HO187.out));(case aS=>exact (qZ (by repeat (with_reducible first|exact HB.out|apply qA|apply qD|apply qO))));(case aL=>have:=LMc14.out;omega);intro v194 w19 ho hb hg hat;rw [← Ny193.out] at ho;have n0_:=qK (Kd.V_afterv (ok:=(fun k_=>(P0_ k_ ∨ w.heap.size≤k_))) (by (with_reducible repeat (first|apply Kd.V_alloc|apply Kd.V_drewN|apply Kd.V_drew));exact HO_0.out) hg hat);have n1_:=qK (Kd.V_afterv (ok:=(fun k_=>(P0_ k_ ∨ w.heap.size≤k_))) (by (with_reducible repeat (first|apply Kd.V_alloc|apply Kd.V_drewN|apply Kd.V_drew));exact HO181.out) hg hat);have n2_:=qK (Kd.V_afterv (ok:=(fun k_=>(P0_ k_ ∨ w.heap.size≤k_))) (by (with_reducible repeat (first|apply Kd.V_alloc|apply Kd.V_drewN|apply Kd.V_drew));exact HO192.out) hg hat);have n3_:=qK (hb);have n4_:=qK (ho);clear HO_0;clear HO181;clear HO192;clear HB;clear HO187;have HO_0:=n0_;have HO181:=n1_;have HO192:=n2_;have HB:=n3_;have HO195:=n4_;clear n0_ n1_ n2_ n3_ n4_;clear ho hb hg hat))
           go_ret
           exact ⟨_,by first|rfl|(simp [errW_none,errW_some] <;> rfl)|(simp [*,errW_none,errW_some] <;> rfl),Kd.V_mono (Kd.R_V (by (with_reducible repeat (first|apply rL|apply rN|apply rW));exact HO195.out)) (fun k_ hk=>by first|exact ⟨(.inr (hk.1)),hk.2⟩|exact (.inr (hk))),by repeat (first|(with_reducible first|exact HB.out|apply qA|apply qD|apply qO)|exact HB.out)⟩
          ·rw [if_neg c14] at H;exact absurd H (by simp)
         ·rw [if_neg c11] at H;exact absurd H (by simp)
        ·rw [if_neg c10] at H;exact absurd H (by simp)
       ·rw [if_neg c9] at H;exact absurd H (by simp)
     ·rw [if_neg c6] at H;exact absurd H (by simp)
    ·rw [if_neg c5] at H;have c5b0:decide (x5_1 < (l0.length:Int))=false:=decide_eq_false c5;clear c5;by_cases c20:0≤x5_1
     ·rw [if_pos c20] at H;have c20b0:=eq_true c20;have c20b1:decide (0≤x5_1)=true:=decide_eq_true c20;clear c20;by_cases c21:x5_1≤(l0.length:Int)
      ·rw [if_pos c21] at H;have c21b0:=eq_true c21;have c21b1:decide (x5_1≤(l0.length:Int))=true:=decide_eq_true c21;clear c21;obtain ⟨y196,hy196⟩:∃ y_:List Int,y_=(l0.take (x5_1:Int).toNat):=⟨_,rfl⟩;replace H:(if ([]:List Int).length + y196.length < 17592186044416 then ((some (([]:List Int) ++ y196:List Int)).bind fun y201=>(if y201.length < 17592186044416 then ((some (y201 ++ [a1]:List Int)).bind fun y204=>((some (l0.drop (x5_1:Int).toNat:List Int)).bind fun y207=>(if y204.length + y207.length < 17592186044416 then (some (y204 ++ y207)) else (none)))) else (none))) else (none))=some r:=by first|(rw [hy196];with_reducible exact H)|(have H2_:=(Option.bind_some _ _).symm.trans H;rw [hy196];with_reducible exact H2_)|(have H2_:=(Option.bind_some _ _).symm.trans H;with_reducible exact H2_)|with_reducible exact H|(rw [hy196];exact H)|exact H
       have Ny196:=qK hy196;clear hy196;by_cases c22:([]:List Int).length + y196.length < 17592186044416
       ·rw [if_pos c22] at H;have LMc22:=qK c22;clear c22;obtain ⟨y201,hy201⟩:∃ y_:List Int,y_=(([]:List Int) ++ y196):=⟨_,rfl⟩;replace H:(if y201.length < 17592186044416 then ((some (y201 ++ [a1]:List Int)).bind fun y204=>((some (l0.drop (x5_1:Int).toNat:List Int)).bind fun y207=>(if y204.length + y207.length < 17592186044416 then (some (y204 ++ y207)) else (none)))) else (none))=some r:=by first|(rw [hy201];with_reducible exact H)|(have H2_:=(Option.bind_some _ _).symm.trans H;rw [hy201];with_reducible exact H2_)|(have H2_:=(Option.bind_some _ _).symm.trans H;with_reducible exact H2_)|with_reducible exact H|(rw [hy201];exact H)|exact H
        have Ny201:=qK hy201;clear hy201;by_cases c23:y201.length < 17592186044416
        ·rw [if_pos c23] at H;have LMc23:=qK c23;clear c23;obtain ⟨y204,hy204⟩:∃ y_:List Int,y_=(y201 ++ [a1]):=⟨_,rfl⟩;replace H:((some (l0.drop (x5_1:Int).toNat:List Int)).bind fun y207=>(if y204.length + y207.length < 17592186044416 then (some (y204 ++ y207)) else (none)))=some r:=by first|(rw [hy204];with_reducible exact H)|(have H2_:=(Option.bind_some _ _).symm.trans H;rw [hy204];with_reducible exact H2_)|(have H2_:=(Option.bind_some _ _).symm.trans H;with_reducible exact H2_)|with_reducible exact H|(rw [hy204];exact H)|exact H
         have Ny204:=qK hy204;clear hy204;have c24b0:=eq_true (of_decide_eq_true (by first|(with_reducible assumption)|assumption):0≤x5_1);have c25b0:=eq_true (of_decide_eq_true (by first|(with_reducible assumption)|assumption):x5_1≤(l0.length:Int));obtain ⟨y207,hy207⟩:∃ y_:List Int,y_=(l0.drop (x5_1:Int).toNat):=⟨_,rfl⟩;replace H:(if y204.length + y207.length < 17592186044416 then (some (y204 ++ y207)) else (none))=some r:=by first|(rw [hy207];with_reducible exact H)|(have H2_:=(Option.bind_some _ _).symm.trans H;rw [hy207];with_reducible exact H2_)|(have H2_:=(Option.bind_some _ _).symm.trans H;with_reducible exact H2_)|with_reducible exact H|(rw [hy207];exact H)|exact H
         have Ny207:=qK hy207;clear hy207;by_cases c26:y204.length + y207.length < 17592186044416
         ·rw [if_pos c26] at H;have LMc26:=qK c26;clear c26;obtain ⟨y212,hy212⟩:∃ y_:List Int,y_=(y204 ++ y207):=⟨_,rfl⟩;replace H:(some y212)=some r:=by first|(rw [hy212];with_reducible exact H)|(have H2_:=(Option.bind_some _ _).symm.trans H;rw [hy212];with_reducible exact H2_)|(have H2_:=(Option.bind_some _ _).symm.trans H;with_reducible exact H2_)|with_reducible exact H|(rw [hy212];exact H)|exact H
          have Ny212:=qK hy212;clear hy212;obtain rfl:=Option.some.inj H;have q27:(x5_1:Int)≤((l0.length:Int):Int):=of_decide_eq_true (by first|(with_reducible assumption)|assumption);obtain ⟨i027,hi027,_,hsz27,_⟩:=info_parts info3;have hroom27:l0.length≤c0:=(Kd.V_reads' HO_0.out).2.1;have hC27:Kd.F (Kd.int .i64) _ _ A0 l0.length l0:=(Kd.V_at (base:=w.heap.size) HO_0.out).2.2;have hcut27:=cut_to (P:=Try.prog) 24 3 .i64 Try.underlying24 hi027 A0 l0.length c0 x5_1 (of_decide_eq_true (by first|(with_reducible assumption)|assumption)) q27 hroom27;have hr27:=Kd.F_take (m:=(x5_1:Int).toNat) hC27 (by omega);have hy27:y196.length=(x5_1:Int).toNat:=(by rw [Ny196.out,lT];omega);rw [← Ny196.out] at hr27;rw [← hy27] at hcut27;have HO200:=qK (show Kd.V (Kd.int .i64) 3 _ w.heap.size _ (.slice A0 y196.length c0) y196 from Kd.V_mk (by omega) hr27);have HC200:=qK (show y196.length≤c0 from by omega);clear hr27 hC27 hroom27 hi027 hsz27;have KY27:=qK hy27;clear hy27;replace q27:=eq_true q27;go_wp2_with (first|((with_reducible refine gate_builtin (b:=.append) (xs:=#[.tmp 25,.tmp 28]) rfl ?_);at_builtin;refine Kd.R_append_rows (Kd.int .i64) (w0:=w) w.heap.size rfl (.tmp 25) (.tmp 28) 24 3 (.int .i64 0) 8 rfl Try.underlying24 info3 rfl (by decide) (by omega) (.slice none 0 0) ([]:List Int) y196 _ _ _ (fun k_=>(w.heap.size≤k_)) (fun _=>False) rfl rfl ?aO ?aR (fun _ _ h=>h) (fun _ h=>h.elim) ?aF ?aB ?aS ?aL ?_;(case aR=>repeat (first|exact (Kd.V_reads' HO200.out).2.2|(with_reducible first|refine cL ?_ _|refine cN ?_ _|refine cW ?_)));(case aB=>exact (by repeat (with_reducible first|exact HB.out|apply qA|apply qD|apply qO)));(case aF=>exact (fun k_ hk=>(Nat.le_trans (qZ (by repeat (with_reducible first|exact HB.out|apply qA|apply qD|apply qO))) hk)));(case aO=>exact ((Kd.R_nil _ _ _ _ (fun k_=>(w.heap.size≤k_)))));(case aS=>exact (qZ (by repeat (with_reducible first|exact HB.out|apply qA|apply qD|apply qO))));(case aL=>have:=LMc22.out;omega);intro v202 w28 ho hb hg hat;rw [← Ny201.out] at ho;have n0_:=qK (Kd.V_afterv (Kd.V_apart_nil (by (with_reducible repeat (first|apply Kd.V_alloc|apply Kd.V_drewN|apply Kd.V_drew));exact HO_0.out)) hg hat);have n1_:=qK (Kd.V_afterv (Kd.V_apart_nil (by (with_reducible repeat (first|apply Kd.V_alloc|apply Kd.V_drewN|apply Kd.V_drew));exact HO200.out)) hg hat);have n2_:=qK (hb);have n3_:=qK (ho);clear HO_0;clear HO200;clear HB;have HO_0:=n0_;have HO200:=n1_;have HB:=n2_;have HO203:=n3_;clear n0_ n1_ n2_ n3_;clear ho hb hg hat)|((with_reducible refine gate_builtin (b:=.append) (xs:=#[.tmp 30,.tmp 32]) rfl ?_);at_builtin;refine Kd.R_append (Kd.int .i64) (w0:=w) w.heap.size rfl (.tmp 30) (.tmp 32) 24 3 (.int .i64 0) 8 rfl Try.underlying24 info3 rfl (by decide) (by omega) v202 y201 a1 [.int .i64 a1] (fun k_=>(w.heap.size≤k_)) (fun _=>False) rfl rfl ?aP (fun _ hk=>hk.elim) ?aF ?aO ?aB ?aS ?aL ?_;(case aP=>exact rfl);(case aB=>exact (by repeat (with_reducible first|exact HB.out|apply qA|apply qD|apply qO)));(case aF=>exact (fun k_ hk=>(Nat.le_trans (qZ (by repeat (with_reducible first|exact HB.out|apply qA|apply qD|apply qO))) hk)));(case aO=>exact (by (with_reducible repeat (first|apply rL|apply rN|apply rW));exact HO203.out));(case aS=>exact (qZ (by repeat (with_reducible first|exact HB.out|apply qA|apply qD|apply qO))));(case aL=>have:=LMc23.out;omega);intro v205 w29 ho hb hg hat;rw [← Ny204.out] at ho;have n0_:=qK (Kd.V_afterv (ok:=(fun k_=>(P0_ k_ ∨ w.heap.size≤k_))) (by (with_reducible repeat (first|apply Kd.V_alloc|apply Kd.V_drewN|apply Kd.V_drew));exact HO_0.out) hg hat);have n1_:=qK (Kd.V_afterv (ok:=(fun k_=>(P0_ k_ ∨ w.heap.size≤k_))) (by (with_reducible repeat (first|apply Kd.V_alloc|apply Kd.V_drewN|apply Kd.V_drew));exact HO200.out) hg hat);have n2_:=qK (hb);have n3_:=qK (ho);clear HO_0;clear HO200;clear HB;clear HO203;have HO_0:=n0_;have HO200:=n1_;have HB:=n2_;have HO206:=n3_;clear n0_ n1_ n2_ n3_;clear ho hb hg hat;have q30:(x5_1:Int)≤((l0.length:Int):Int):=of_decide_eq_true (by first|(with_reducible assumption)|assumption);obtain ⟨i030,hi030,_,hsz30,_⟩:=info_parts info3;have hroom30:l0.length≤c0:=(Kd.V_reads' HO_0.out).2.1;have hC30:Kd.F (Kd.int .i64) _ _ A0 l0.length l0:=(Kd.V_at (base:=w.heap.size) HO_0.out).2.2;have q030:(0:Int)≤(x5_1:Int):=of_decide_eq_true (by first|(with_reducible assumption)|assumption);have hcut30:=cut_from (P:=Try.prog) 24 3 .i64 Try.underlying24 hi030 1 hsz30 A0 l0.length c0 x5_1 q030 q30;have hr30:=Kd.F_cut (m:=(x5_1:Int).toNat) (c:=c0) hC30 (by omega) hroom30;obtain ⟨A30,hA30⟩:∃ A1,A1=(if c0=(x5_1:Int).toNat then A0 else (A0:Option Addr).map (·.add ((x5_1:Int).toNat * 1))):=⟨_,rfl⟩;obtain ⟨c30,hc30⟩:∃ c1,c1=c0 - (x5_1:Int).toNat:=⟨_,rfl⟩;have hy30:y207.length=l0.length - (x5_1:Int).toNat:=(by rw [Ny207.out,lD] <;> omega);rw [show (l0).drop (x5_1:Int).toNat=y207 from Ny207.out.symm] at hr30;replace hr30:Kd.F (Kd.int .i64) _ _ A30 y207.length y207:=(by rw [hA30];exact hr30);rw [← hy30,← hA30,← hc30] at hcut30;have HO211:=qK (show Kd.V (Kd.int .i64) 3 _ w.heap.size _ (.slice A30 y207.length c30) y207 from Kd.V_mk (by rw [hy30,hc30];exact Nat.sub_le_sub_right hroom30 _) hr30);have HC211:=qK (show y207.length≤c30 from by rw [hy30,hc30];exact Nat.sub_le_sub_right hroom30 _);clear hr30 hC30 hroom30 hi030 hsz30 hc30;have KY30:=qK hy30;have KA30:=qK hA30;clear hy30 hA30;replace q30:=eq_true q30)|((with_reducible refine gate_builtin (b:=.append) (xs:=#[.tmp 34,.tmp 37]) rfl ?_);at_builtin;refine Kd.R_append_rows (Kd.int .i64) (w0:=w) w.heap.size rfl (.tmp 34) (.tmp 37) 24 3 (.int .i64 0) 8 rfl Try.underlying24 info3 rfl (by decide) (by omega) v205 y204 y207 _ _ _ (fun k_=>(w.heap.size≤k_)) (fun _=>False) rfl rfl ?aO ?aR (fun _ _ h=>h) (fun _ h=>h.elim) ?aF ?aB ?aS ?aL ?_;(case aR=>repeat (first|exact (Kd.V_reads' HO211.out).2.2|(with_reducible first|refine cL ?_ _|refine cN ?_ _|refine cW ?_)));(case aB=>exact (by repeat (with_reducible first|exact HB.out|apply qA|apply qD|apply qO)));(case aF=>exact (fun k_ hk=>(Nat.le_trans (qZ (by repeat (with_reducible first|exact HB.out|apply qA|apply qD|apply qO))) hk)));(case aO=>exact (by (with_reducible repeat (first|apply rL|apply rN|apply rW));exact HO206.out));(case aS=>exact (qZ (by repeat (with_reducible first|exact HB.out|apply qA|apply qD|apply qO))));(case aL=>have:=LMc26.out;omega);intro v213 w31 ho hb hg hat;rw [← Ny212.out] at ho;have n0_:=qK (Kd.V_afterv (ok:=(fun k_=>(P0_ k_ ∨ w.heap.size≤k_))) (by (with_reducible repeat (first|apply Kd.V_alloc|apply Kd.V_drewN|apply Kd.V_drew));exact HO_0.out) hg hat);have n1_:=qK (Kd.V_afterv (ok:=(fun k_=>(P0_ k_ ∨ w.heap.size≤k_))) (by (with_reducible repeat (first|apply Kd.V_alloc|apply Kd.V_drewN|apply Kd.V_drew));exact HO200.out) hg hat);have n2_:=qK (Kd.V_afterv (ok:=(fun k_=>(P0_ k_ ∨ w.heap.size≤k_))) (by (with_reducible repeat (first|apply Kd.V_alloc|apply Kd.V_drewN|apply Kd.V_drew));exact HO211.out) hg hat);have n3_:=qK (hb);have n4_:=qK (ho);clear HO_0;clear HO200;clear HO211;clear HB;clear HO206;have HO_0:=n0_;have HO200:=n1_;have HO211:=n2_;have HB:=n3_;have HO214:=n4_;clear n0_ n1_ n2_ n3_ n4_;clear ho hb hg hat))
          go_ret
          exact ⟨_,by first|rfl|(simp [errW_none,errW_some] <;> rfl)|(simp [*,errW_none,errW_some] <;> rfl),Kd.V_mono (Kd.R_V (by (with_reducible repeat (first|apply rL|apply rN|apply rW));exact HO214.out)) (fun k_ hk=>by first|exact ⟨(.inr (hk.1)),hk.2⟩|exact (.inr (hk))),by repeat (first|(with_reducible first|exact HB.out|apply qA|apply qD|apply qO)|exact HB.out)⟩
         ·rw [if_neg c26] at H;exact absurd H (by simp)
        ·rw [if_neg c23] at H;exact absurd H (by simp)
       ·rw [if_neg c22] at H;exact absurd H (by simp)
      ·rw [if_neg c21] at H;exact absurd H (by simp)
     ·rw [if_neg c20] at H;exact absurd H (by simp)

/-! ### spec_l7Closure: function 42 -/
mutual
def spec_l7Closure.l0 : Nat→List (S68)→List Int→Option (List Int)
 | 0,_,_=>none
 | k + 1,x0,x5=>spec_l7Closure.l1 k x0 x5 (x5.length:Int) x0 (x0.length:Int) 0
def spec_l7Closure.l1 : Nat→List (S68)→List Int→Int→List (S68)→Int→Int→Option (List Int)
 | 0,_,_,_,_,_,_=>none
 | k + 1,x0,x5,x6,x16,x17,x18=>if x18 < x17 then (if 0≤x18 then (if x18 < (x16.length:Int) then ((spec_l7All.f k x5 ((rd_T68 x16 x18).f0)).bind fun t223=>(if t223=true then (spec_l7Closure.l2 k x0 x5 x6 x16 x17 x18 ((rd_T68 x16 x18).f1) (((rd_T68 x16 x18).f1).length:Int) 0) else (spec_l7Closure.l1 k x0 x5 x6 x16 x17 (wrap64 (x18 + 1))))) else (none)) else (none)) else (if (x5.length:Int)=x6 then (some x5) else (spec_l7Closure.l0 k x0 x5))
def spec_l7Closure.l2 : Nat→List (S68)→List Int→Int→List (S68)→Int→Int→List Int→Int→Int→Option (List Int)
 | 0,_,_,_,_,_,_,_,_,_=>none
 | k + 1,x0,x5,x6,x16,x17,x18,x27,x28,x29=>if x29 < x28 then (if 0≤x29 then (if x29 < (x27.length:Int) then ((spec_l7Put.f k x5 (rd x27 x29)).bind fun t225=>(spec_l7Closure.l2 k x0 t225 x6 x16 x17 x18 x27 x28 (wrap64 (x29 + 1)))) else (none)) else (none)) else (spec_l7Closure.l1 k x0 x5 x6 x16 x17 (wrap64 (x18 + 1)))
end
def spec_l7Closure.f (k:Nat) (l0:List (S68)) (l1:List Int):Option (List Int):=(some (([]:List Int):List Int)).bind fun y215=>(if y215.length + l1.length < 17592186044416 then (spec_l7Closure.l0 k l0 (y215 ++ l1)) else (none))
theorem spec_l7Closure.mono_l : ∀ k,(∀ y0 y1,LeO (spec_l7Closure.l0 k y0 y1) (spec_l7Closure.l0 (k + 1) y0 y1))∧(∀ y0 y1 y2 y3 y4 y5,LeO (spec_l7Closure.l1 k y0 y1 y2 y3 y4 y5) (spec_l7Closure.l1 (k + 1) y0 y1 y2 y3 y4 y5))∧(∀ y0 y1 y2 y3 y4 y5 y6 y7 y8,LeO (spec_l7Closure.l2 k y0 y1 y2 y3 y4 y5 y6 y7 y8) (spec_l7Closure.l2 (k + 1) y0 y1 y2 y3 y4 y5 y6 y7 y8))
 | 0=>⟨fun _ _ r h=>by simp [spec_l7Closure.l0] at h,fun _ _ _ _ _ _ r h=>by simp [spec_l7Closure.l1] at h,fun _ _ _ _ _ _ _ _ _ r h=>by simp [spec_l7Closure.l2] at h⟩
 | k + 1=>by
  obtain ⟨ih0,ih1,ih2⟩:=spec_l7Closure.mono_l k;refine ⟨?_,?_,?_⟩
  ·intro y0 y1;unfold spec_l7Closure.l0
   repeat' first
   | (with_reducible exact ih0 _ _)
   | (with_reducible exact ih1 _ _ _ _ _ _)
   | (with_reducible exact ih2 _ _ _ _ _ _ _ _ _)
   | (with_reducible exact spec_l7All.mono _ _ _)
   | (with_reducible exact spec_l7Put.mono _ _ _)
   | (with_reducible exact LeO.refl _)
   | (with_reducible exact LeO.none _)
   | (with_reducible refine LeO.ite ?_ ?_)
   | (with_reducible refine LeO.bind ?_ (fun _=>?_))
   | exact ih0 _ _
   | exact ih1 _ _ _ _ _ _
   | exact ih2 _ _ _ _ _ _ _ _ _
   | exact spec_l7All.mono _ _ _
   | exact spec_l7Put.mono _ _ _
   | exact LeO.none _
   | refine LeO.ite ?_ ?_
   | refine LeO.bind ?_ (fun _=>?_)
  ·intro y0 y1 y2 y3 y4 y5;unfold spec_l7Closure.l1
   repeat' first
   | (with_reducible exact ih0 _ _)
   | (with_reducible exact ih1 _ _ _ _ _ _)
   | (with_reducible exact ih2 _ _ _ _ _ _ _ _ _)
   | (with_reducible exact spec_l7All.mono _ _ _)
   | (with_reducible exact spec_l7Put.mono _ _ _)
   | (with_reducible exact LeO.refl _)
   | (with_reducible exact LeO.none _)
   | (with_reducible refine LeO.ite ?_ ?_)
   | (with_reducible refine LeO.bind ?_ (fun _=>?_))
   | exact ih0 _ _
   | exact ih1 _ _ _ _ _ _
   | exact ih2 _ _ _ _ _ _ _ _ _
   | exact spec_l7All.mono _ _ _
   | exact spec_l7Put.mono _ _ _
   | exact LeO.none _
   | refine LeO.ite ?_ ?_
   | refine LeO.bind ?_ (fun _=>?_)
  ·intro y0 y1 y2 y3 y4 y5 y6 y7 y8;unfold spec_l7Closure.l2
   repeat' first
   | (with_reducible exact ih0 _ _)
   | (with_reducible exact ih1 _ _ _ _ _ _)
   | (with_reducible exact ih2 _ _ _ _ _ _ _ _ _)
   | (with_reducible exact spec_l7All.mono _ _ _)
   | (with_reducible exact spec_l7Put.mono _ _ _)
   | (with_reducible exact LeO.refl _)
   | (with_reducible exact LeO.none _)
   | (with_reducible refine LeO.ite ?_ ?_)
   | (with_reducible refine LeO.bind ?_ (fun _=>?_))
   | exact ih0 _ _
   | exact ih1 _ _ _ _ _ _
   | exact ih2 _ _ _ _ _ _ _ _ _
   | exact spec_l7All.mono _ _ _
   | exact spec_l7Put.mono _ _ _
   | exact LeO.none _
   | refine LeO.ite ?_ ?_
   | refine LeO.bind ?_ (fun _=>?_)
theorem spec_l7Closure.mono : ∀ a0 a1 k,LeO (spec_l7Closure.f k a0 a1) (spec_l7Closure.f (k + 1) a0 a1):=by
 intro a0 a1 k;obtain ⟨ih0,ih1,ih2⟩:=spec_l7Closure.mono_l k;unfold spec_l7Closure.f
 repeat' first
   | (with_reducible exact ih0 _ _)
   | (with_reducible exact ih1 _ _ _ _ _ _)
   | (with_reducible exact ih2 _ _ _ _ _ _ _ _ _)
   | (with_reducible exact spec_l7All.mono _ _ _)
   | (with_reducible exact spec_l7Put.mono _ _ _)
   | (with_reducible exact LeO.refl _)
   | (with_reducible exact LeO.none _)
   | (with_reducible refine LeO.ite ?_ ?_)
   | (with_reducible refine LeO.bind ?_ (fun _=>?_))
   | exact ih0 _ _
   | exact ih1 _ _ _ _ _ _
   | exact ih2 _ _ _ _ _ _ _ _ _
   | exact spec_l7All.mono _ _ _
   | exact spec_l7Put.mono _ _ _
   | exact LeO.none _
   | refine LeO.ite ?_ ?_
   | refine LeO.bind ?_ (fun _=>?_)
set_option maxHeartbeats 8000000 in
set_option maxRecDepth 100000 in
theorem spec_l7Closure.calls (k:Nat) (A0:Option Addr) (c0:Nat) (l0:List (S68)) (A1:Option Addr) (c1:Nat) (l1:List Int) (r:List Int) (w:World) (hr0:Kd.C k68 w A0 l0.length l0) (hc0:l0.length≤c0) (hr1:Kd.C (Kd.int .i64) w A1 l1.length l1) (hc1:l1.length≤c1) (h:spec_l7Closure.f k l0 l1=some r) :
  Calls Try.prog 42 #[.slice A0 l0.length c0,.slice A1 l1.length c1] w fun e w'=>∃ v0_:Value,e=.returned (v0_)∧Kd.V (Kd.int .i64) 3 w' w.heap.size (fun k_=>(w.heap.size≤k_)) v0_ r∧Below w.heap.size w w':=by
 have hu68:=Try.underlying68;have HR0:=qK hr0;have HC0:=qK hc0;clear hr0 hc0;have HR1:=qK hr1;have HC1:=qK hc1;clear hr1 hc1;have HB:=qK (Below.refl w.heap.size w);have H:((some (([]:List Int):List Int)).bind fun y215=>(if y215.length + l1.length < 17592186044416 then (spec_l7Closure.l0 k l0 (y215 ++ l1)) else (none)))=some r:=h;clear h;obtain ⟨y215,hy215⟩:∃ y_:List Int,y_=(([]:List Int)):=⟨_,rfl⟩;replace H:(if y215.length + l1.length < 17592186044416 then (spec_l7Closure.l0 k l0 (y215 ++ l1)) else (none))=some r:=by first|(rw [hy215];with_reducible exact H)|(have H2_:=(Option.bind_some _ _).symm.trans H;rw [hy215];with_reducible exact H2_)|(have H2_:=(Option.bind_some _ _).symm.trans H;with_reducible exact H2_)|with_reducible exact H|(rw [hy215];exact H)|exact H
 have Ny215:=qK hy215;clear hy215;by_cases c3:y215.length + l1.length < 17592186044416
 ·rw [if_pos c3] at H;have LMc3:=qK c3;clear c3;obtain ⟨y218,hy218⟩:∃ y_:List Int,y_=(y215 ++ l1):=⟨_,rfl⟩;replace H:(spec_l7Closure.l0 k l0 y218)=some r:=by first|(rw [hy218];with_reducible exact H)|(have H2_:=(Option.bind_some _ _).symm.trans H;rw [hy218];with_reducible exact H2_)|(have H2_:=(Option.bind_some _ _).symm.trans H;with_reducible exact H2_)|with_reducible exact H|(rw [hy218];exact H)|exact H
  have Ny218:=qK hy218;clear hy218;have H':=qK H;clear H;go_enter Try.func42,Try.ntmps42
  go_wp2_with (first|((with_reducible refine gate_dst (N:=11) rfl ?_);refine Kd.R_lit (Kd.int .i64) _ 3 ?hg (N:=11) ?hd (xs:=([]:List Int)) (inner:=[]) (ok:=fun _=>True) (okp:=fun _=>True) ?hr ?hp (fun _ hk=>hk) trivial (Below.refl _ _) (Nat.le_refl _) (by simp) ?_;(case hd=>rfl);(case hg=>rfl);(case hr=>(go_simp;try rfl));(case hp=>exact (Reps.none _ _));intro v216 w4 ho5 hb hg_ hnew_;clear hg_ hnew_;(first|rw [← Ny215.out] at ho5|(simp only [Int.reduceToNat] at ho5;rw [← Ny215.out] at ho5));have n0_:=qK (Kd.R_lower (Kd.R_newM (M:=fun k_=>(w.heap.size≤k_)) ho5 (qZ (by repeat (with_reducible first|exact HB.out|apply qA|apply qD|apply qO))) (fun k_ h_=>h_)) (qZ (by repeat (with_reducible first|exact HB.out|apply qA|apply qD|apply qO))));have n1_:=qK (qT (by repeat (with_reducible first|exact HB.out|apply qA|apply qD|apply qO)) hb);clear HB;have HO217:=n0_;have HB:=n1_;clear n0_ n1_;clear hb ho5)|((with_reducible refine gate_builtin (b:=.append) (xs:=#[.tmp 11,.tmp 12]) rfl ?_);at_builtin;refine Kd.R_append_rows (Kd.int .i64) (w0:=w) w.heap.size rfl (.tmp 11) (.tmp 12) 24 3 (.int .i64 0) 8 rfl Try.underlying24 info3 rfl (by decide) (by omega) v216 y215 l1 _ _ _ (fun k_=>(w.heap.size≤k_)) (fun _=>False) rfl rfl ?aO ?aR (fun _ _ h=>h) (fun _ h=>h.elim) ?aF ?aB ?aS ?aL ?_;(case aR=>repeat (first|exact (cB HR1.out HB.out)|(with_reducible first|refine cL ?_ _|refine cN ?_ _|refine cW ?_)));(case aB=>exact (by repeat (with_reducible first|exact HB.out|apply qA|apply qD|apply qO)));(case aF=>exact (fun k_ hk=>(Nat.le_trans (qZ (by repeat (with_reducible first|exact HB.out|apply qA|apply qD|apply qO))) hk)));(case aO=>exact (by (with_reducible repeat (first|apply rL|apply rN|apply rW));exact Kd.R_mono HO217.out (fun _ hk=>hk.1)));(case aS=>exact (qZ (by repeat (with_reducible first|exact HB.out|apply qA|apply qD|apply qO))));(case aL=>have:=LMc3.out;omega);intro v219 w6 ho hb hg hat;rw [← Ny218.out] at ho;have n0_:=qK (hb);have n1_:=qK (ho);clear HB;clear HO217;have HB:=n0_;have HO220:=n1_;clear n0_ n1_;clear ho hb hg hat))
  go_loopg [5] k (fun kq v5 w'=>∃ (x5_1:List Int),Aside0 (spec_l7Closure.l0 kq l0 x5_1=some r)∧Aside0 (kq≤k)∧Aside0 (Kd.V (Kd.int .i64) 3 w' w.heap.size (fun k_=>(w.heap.size≤k_)) v5 x5_1)∧Aside0 (Below w.heap.size w w'))
  case atStart=>exact ⟨(y218),H',⟨Nat.le_refl _⟩,⟨Kd.R_V (by (with_reducible repeat (first|apply rL|apply rN|apply rW));exact HO220.out)⟩,⟨by repeat (first|(with_reducible first|exact HB.out|apply qA|apply qD|apply qO)|exact HB.out)⟩⟩
  case round =>
   clear H';try clear c1
   try clear p2
   try clear c3
   try clear c4
   obtain ⟨x5_1,HA,HK1,HO_5,HB⟩:=hrel;cases gk with
   | zero=>exact absurd HA.out (by simp [spec_l7Closure.l0])
   | succ k1 =>
    have H:=HA.out;clear HA;simp only [spec_l7Closure.l0] at H;have H':=qK H;clear H;obtain ⟨Ao7,co7,eo7⟩:=Kd.V_slice HO_5.out;subst eo7;go_wp2
    go_loopg [5,18] k1 (fun kq v5 v18 w'=>∃ (x5_2:List Int) (x18_2:Int),v18=.int .i64 x18_2∧Aside0 (spec_l7Closure.l1 kq l0 x5_2 (x5_1.length:Int) l0 (l0.length:Int) x18_2=some r)∧Aside0 (kq≤k1)∧Aside0 (Kd.V (Kd.int .i64) 3 w' w.heap.size (fun k_=>(w.heap.size≤k_)) v5 x5_2)∧Aside0 (Below w.heap.size w w'))
    case atStart=>exact ⟨(x5_1),(0),(by first|rfl|(simp;done)|(simp [*];done)),H',⟨Nat.le_refl _⟩,⟨by (with_reducible repeat (first|apply Kd.V_alloc|apply Kd.V_drewN|apply Kd.V_drew));exact HO_5.out⟩,⟨by repeat (first|(with_reducible first|exact HB.out|apply qA|apply qD|apply qO)|exact HB.out)⟩⟩
    case round =>
     clear H';try clear c1
     try clear p2
     try clear c3
     try clear c4
     try clear p2
     obtain ⟨x5_2,x18_2,rfl,HA,HK2,HO_5,HB⟩:=hrel;cases gk with
     | zero=>exact absurd HA.out (by simp [spec_l7Closure.l1])
     | succ k2 =>
      have H:=HA.out;clear HA;simp only [spec_l7Closure.l1] at H;by_cases c8:x18_2 < (l0.length:Int)
      ·rw [if_pos c8] at H;have c8b0:decide (x18_2 < (l0.length:Int))=true:=decide_eq_true c8;clear c8;by_cases c9:0≤x18_2
       ·rw [if_pos c9] at H;have c9b0:decide (0≤x18_2)=true:=decide_eq_true c9;clear c9;by_cases c10:x18_2 < (l0.length:Int)
        ·rw [if_pos c10] at H;have c10b0:decide (x18_2 < (l0.length:Int))=true:=decide_eq_true c10;clear c10;replace H:=Option.bind_eq_some_iff.mp H;obtain ⟨t223,A110,H⟩:=H;replace H:(if t223=true then (spec_l7Closure.l2 k2 l0 x5_2 (x5_1.length:Int) l0 (l0.length:Int) x18_2 ((rd_T68 l0 x18_2).f1) (((rd_T68 l0 x18_2).f1).length:Int) 0) else (spec_l7Closure.l1 k2 l0 x5_2 (x5_1.length:Int) l0 (l0.length:Int) (wrap64 (x18_2 + 1))))=some r:=H;have A11:=qK A110;clear A110;by_cases c12:t223=true
         ·subst c12;have H1:(spec_l7Closure.l2 k2 l0 x5_2 (x5_1.length:Int) l0 (l0.length:Int) x18_2 ((rd_T68 l0 x18_2).f1) (((rd_T68 l0 x18_2).f1).length:Int) 0)=some r:=by rw [if_pos rfl] at H;exact H
          clear H;have H:=H1;clear H1;have H':=qK H;clear H;have p221:0≤(x18_2:Int):=of_decide_eq_true (by first|(with_reducible assumption)|assumption);have q221:x18_2 < (l0.length:Int):=of_decide_eq_true (by first|(with_reducible assumption)|assumption);obtain ⟨ad221,A221_0,c221_0,A221_1,c221_1,e221,hx221_0,hx221_1,hl221_0,hi221_0,hl221_1,hi221_1⟩:=at_T68 HR0.out x18_2 p221 q221;cases e221
          replace hx221_0:=(HB.out.cell (World.block_lt_of_cell? w _ hx221_0)).trans hx221_0;replace hx221_1:=(HB.out.cell (World.block_lt_of_cell? w _ hx221_1)).trans hx221_1;have HR221_0:=qK hi221_0;have HC221_0:=qK hl221_0;clear hi221_0 hl221_0;have HR221_1:=qK hi221_1;have HC221_1:=qK hl221_1;clear hi221_1 hl221_1;replace p221:=eq_true p221;replace q221:=eq_true q221;go_wp2_with (first|((with_reducible refine gate_dst (N:=8) rfl ?_);refine box_event ?hg (N:=8) ?hd (cs:=#[.slice none 0 0,.slice none 0 0]) (t:=68) ?hr ?_;(case hd=>rfl);(case hg=>rfl);(case hr=>(go_simp;try rfl));intro gb222 hg w13 hbox hb;have n0_:=qK (Kd.V_below (Kd.V_elderB (by (with_reducible repeat (first|apply Kd.V_alloc|apply Kd.V_drewN|apply Kd.V_drew));exact HO_5.out) gb222 (Nat.le_of_eq hg.symm)) hb);have n1_:=qK (qT (by repeat (with_reducible first|exact HB.out|apply qA|apply qD|apply qO)) hb);have n2_:=qK (hbox);have n3_:=qK ((by rw [hg];exact (qZ (by repeat (with_reducible first|exact HB.out|apply qA|apply qD|apply qO))):w.heap.size≤gb222));have n4_:=qK ((by rw [hg];exact (qZ (by repeat (with_reducible first|exact HB.out|apply qA|apply qD|apply qO))):w.heap.size≤gb222));clear HO_5;clear HB;have HO_5:=n0_;have HB:=n1_;have BK222:=n2_;have GW222:=n3_;have GE222:=n4_;clear n0_ n1_ n2_ n3_ n4_;clear hb hbox hg;have hcz14_0:w13.cell? ⟨gb222,0,none⟩=some (.slice none 0 0):=(qC BK222.out 0).trans rfl;have hcz14_1:w13.cell? ⟨gb222,1,none⟩=some (.slice none 0 0):=(qC BK222.out 1).trans rfl;have hfz14_0:=qF BK222.out 0;have hfz14_1:=qF BK222.out 1;obtain ⟨Ao15,co15,eo15⟩:=Kd.V_slice HO_5.out;subst eo15)|((with_reducible refine gate_callee (f:=65) rfl ?_);refine goesL_ (some 25) rfl rfl Try.func65 (by kernel_rfl) rfl #[.slice Ao15 x5_2.length co15,.slice A221_0 ((rd_T68 l0 x18_2).f0).length c221_0] rfl (by (try simp only [mT,mC,mN]);first|done|rfl|(simp only [lD,lT];rfl)) ?_;(with_reducible refine (spec_l7All.calls k2 _ _ x5_2 _ _ ((rd_T68 l0 x18_2).f0) true _ ?side1 ?side2 ?side3 ?side4 A11.out).mono ?_);(case side1=>refine (Kd.V_reads' (e:=3) (base:=w.heap.size) (ok:=fun k_=>((w.heap.size≤k_)∧k_ ≠ gb222)) (n:=x5_2.length) (c:=co15) ?_).2.2;exact (by (with_reducible repeat (first|apply Kd.V_alloc|apply Kd.V_drewN|apply Kd.V_drew));exact (Kd.V_mono (Kd.V_far (p:=⟨gb222,1,none⟩) (Kd.V_far (p:=⟨gb222,0,none⟩) (Kd.V_mono HO_5.out (fun k_ hk=>(⟨hk,hk.2⟩:_∧k_ ≠ gb222))) (fun _ hk=>hk.2) (.slice A221_0 ((rd_T68 l0 x18_2).f0).length c221_0)) (fun _ hk=>hk.2) (.slice A221_1 ((rd_T68 l0 x18_2).f1).length c221_1)) (fun _ h_=>h_.1))));(case side2=>exact (Kd.V_reads' HO_5.out).2.1);(case side3=>exact cB HR221_0.out (by repeat (with_reducible first|exact HB.out|apply qA|apply qD|apply qO|refine qS ?_ GE222.out)));(case side4=>exact HC221_0.out);rintro e w' ⟨rfl,⟨nd,rfl⟩⟩;refine ⟨_,rfl,?_⟩))
          go_loopg [5,29] k2 (fun kq v5 v29 w'=>∃ (x5_3:List Int) (x29_3:Int),v29=.int .i64 x29_3∧Aside0 (spec_l7Closure.l2 kq l0 x5_3 (x5_1.length:Int) l0 (l0.length:Int) x18_2 ((rd_T68 l0 x18_2).f1) (((rd_T68 l0 x18_2).f1).length:Int) x29_3=some r)∧Aside0 (kq≤k2)∧Aside0 (Kd.V (Kd.int .i64) 3 w' w.heap.size (fun k_=>(w.heap.size≤k_)∧k_ ≠ gb222) v5 x5_3)∧Aside0 (w'.heap[gb222]?=some (.cells #[(.slice A221_0 ((rd_T68 l0 x18_2).f0).length c221_0),(.slice A221_1 ((rd_T68 l0 x18_2).f1).length c221_1)] 68 (0,0)))∧Aside0 (Below w.heap.size w w'))
          case atStart=>exact ⟨(x5_2),(0),(by first|rfl|(simp;done)|(simp [*];done)),H',⟨Nat.le_refl _⟩,⟨by (with_reducible repeat (first|apply Kd.V_alloc|apply Kd.V_drewN|apply Kd.V_drew));exact Kd.V_mono (Kd.V_far (p:=⟨gb222,1,none⟩) (Kd.V_far (p:=⟨gb222,0,none⟩) (Kd.V_mono HO_5.out (fun k_ hk=>(⟨hk,hk.2⟩:_∧k_ ≠ gb222))) (fun _ hk=>hk.2) (.slice A221_0 ((rd_T68 l0 x18_2).f0).length c221_0)) (fun _ hk=>hk.2) (.slice A221_1 ((rd_T68 l0 x18_2).f1).length c221_1)) (fun _ hk=>⟨hk.1.1,hk.1.2⟩)⟩,⟨by (with_reducible repeat (first|refine qN ?_ _|refine qW ?_|refine qL ?_ _));refine qP (cs:=#[.slice A221_0 ((rd_T68 l0 x18_2).f0).length c221_0,.slice none 0 0]) ?_ 1 _ rfl;(with_reducible repeat (first|refine qN ?_ _|refine qW ?_|refine qL ?_ _));refine qP (cs:=#[.slice none 0 0,.slice none 0 0]) ?_ 0 _ rfl;(with_reducible repeat (first|refine qN ?_ _|refine qW ?_|refine qL ?_ _));exact BK222.out⟩,⟨by repeat (first|(with_reducible first|exact HB.out|apply qA|apply qD|apply qO|refine qS ?_ GE222.out)|exact HB.out)⟩⟩
          case round =>
           clear H';try clear c1
           try clear c2
           try clear p2
           try clear q2
           try clear hx2
           try clear c3
           try clear c4
           try clear c6
           try clear p6
           try clear c8
           try clear c8b0
           try clear c9
           try clear c9b0
           try clear c10
           try clear c10b0
           try clear c12
           try clear hcz14_0
           try clear hcz14_1
           try clear hfz14_0
           try clear hfz14_1
           try clear hx221_0
           try clear hx221_1
           try clear p2
           try clear p221
           try clear q221
           obtain ⟨x5_3,x29_3,rfl,HA,HK3,HO_5,BK222,HB⟩:=hrel;cases gk with
           | zero=>exact absurd HA.out (by simp [spec_l7Closure.l2])
           | succ k3 =>
            have H:=HA.out;clear HA;simp only [spec_l7Closure.l2] at H;by_cases c16:x29_3 < (((rd_T68 l0 x18_2).f1).length:Int)
            ·rw [if_pos c16] at H;have c16b0:decide (x29_3 < (((rd_T68 l0 x18_2).f1).length:Int))=true:=decide_eq_true c16;clear c16;by_cases c17:0≤x29_3
             ·rw [if_pos c17] at H;have c17b0:decide (0≤x29_3)=true:=decide_eq_true c17;clear c17;by_cases c18:x29_3 < (((rd_T68 l0 x18_2).f1).length:Int)
              ·rw [if_pos c18] at H;have c18b0:decide (x29_3 < (((rd_T68 l0 x18_2).f1).length:Int))=true:=decide_eq_true c18;clear c18;replace H:=Option.bind_eq_some_iff.mp H;obtain ⟨t225,A190,H⟩:=H;replace H:(spec_l7Closure.l2 k3 l0 t225 (x5_1.length:Int) l0 (l0.length:Int) x18_2 ((rd_T68 l0 x18_2).f1) (((rd_T68 l0 x18_2).f1).length:Int) (wrap64 (x29_3 + 1)))=some r:=H;have A19:=qK A190;clear A190;have H':=qK H;clear H;have p224:0≤(x29_3:Int):=of_decide_eq_true (by first|(with_reducible assumption)|assumption);have q224:x29_3 < (((rd_T68 l0 x18_2).f1).length:Int):=of_decide_eq_true (by first|(with_reducible assumption)|assumption);obtain ⟨ad224,e224,hx224_0⟩:=Kd.at_int HR221_1.out x29_3 p224 q224;cases e224
               replace hx224_0:=(HB.out.cell (World.block_lt_of_cell? w _ hx224_0)).trans hx224_0;replace p224:=eq_true p224;replace q224:=eq_true q224;obtain ⟨Ao20,co20,eo20⟩:=Kd.V_slice HO_5.out;subst eo20;go_wp2_with (first|((with_reducible refine gate_callee (f:=71) rfl ?_);refine goesL_ (some 35) rfl rfl Try.func71 (by kernel_rfl) rfl #[.slice Ao20 x5_3.length co20,.int .i64 (rd ((rd_T68 l0 x18_2).f1) x29_3)] rfl (by (try simp only [mT,mC,mN]);first|done|rfl|(simp only [lD,lT];rfl)) ?_;(with_reducible refine (spec_l7Put.calls k3 (fun k_=>((w.heap.size≤k_)∧k_ ≠ gb222)) _ _ x5_3 (rd ((rd_T68 l0 x18_2).f1) x29_3) t225 _ ?side1 A19.out).mono ?_);(case side1=>exact HO_5.out);rintro e w21 ⟨v226,rfl,ho0,hb⟩;refine ⟨_,rfl,?_⟩;have n0_:=qK (Kd.V_below (by (with_reducible repeat (first|apply Kd.V_alloc|apply Kd.V_drewN|apply Kd.V_drew));exact HO_5.out) hb);have n1_:=qK (Kd.V_lower (Kd.V_mono (ok':=fun k_=>(w.heap.size≤k_)∧k_ ≠ gb222) ho0 (fun k_ hk_=>⟨Or.elim hk_ (fun hs_=>hs_.1) (fun hn_=>(Nat.le_trans (qZ (by repeat (with_reducible first|exact HB.out|apply qA|apply qD|apply qO|refine qS ?_ GE222.out))) hn_)),Or.elim hk_ (fun hs_=>hs_.2) (fun hn_=>(Kd.freshB (g:=gb222) (o:=_) (by (with_reducible repeat (first|refine qN ?_ _|refine qW ?_|refine qL ?_ _));exact BK222.out) k_ hn_))⟩)) (qZ (by repeat (with_reducible first|exact HB.out|apply qA|apply qD|apply qO|refine qS ?_ GE222.out))));have n2_:=qK (qB (g:=gb222) (o:=_) (by (with_reducible repeat (first|refine qN ?_ _|refine qW ?_|refine qL ?_ _));exact BK222.out) hb);have n3_:=qK (qT (by repeat (with_reducible first|exact HB.out|apply qA|apply qD|apply qO|refine qS ?_ GE222.out)) hb);clear HO_5;clear BK222;clear HB;have HO_5:=n0_;have HO227:=n1_;have BK222:=n2_;have HB:=n3_;clear n0_ n1_ n2_ n3_;(try clear hb);(try clear ho0)))
               go_roundg k3
               case measure=>have:=HK1.out;have:=HK2.out;have:=HK3.out;omega
               case rel=>exact ⟨(t225),(wrap64 (x29_3 + 1)),(by first|rfl|(simp;done)|(simp [*];done)),H',⟨by have:=HK1.out;have:=HK2.out;have:=HK3.out;omega⟩,⟨by (with_reducible repeat (first|apply Kd.V_alloc|apply Kd.V_drewN|apply Kd.V_drew));exact HO227.out⟩,⟨by (with_reducible repeat (first|refine qN ?_ _|refine qW ?_|refine qL ?_ _));exact BK222.out⟩,⟨by repeat (first|(with_reducible first|exact HB.out|apply qA|apply qD|apply qO|refine qS ?_ GE222.out)|exact HB.out)⟩⟩
              ·rw [if_neg c18] at H;exact absurd H (by simp)
             ·rw [if_neg c17] at H;exact absurd H (by simp)
            ·rw [if_neg c16] at H;have c16b0:decide (x29_3 < (((rd_T68 l0 x18_2).f1).length:Int))=false:=decide_eq_false c16;clear c16;have H':=qK H;clear H;go_wp2
             go_roundg k3
             case measure=>have:=HK1.out;have:=HK2.out;have:=HK3.out;omega
             case rel=>exact ⟨(x5_3),(wrap64 (x18_2 + 1)),(by first|rfl|(simp;done)|(simp [*];done)),H',⟨by have:=HK1.out;have:=HK2.out;have:=HK3.out;omega⟩,⟨by (with_reducible repeat (first|apply Kd.V_alloc|apply Kd.V_drewN|apply Kd.V_drew));exact Kd.V_mono HO_5.out (fun _ hk=>hk.1)⟩,⟨by repeat (first|(with_reducible first|exact HB.out|apply qA|apply qD|apply qO|refine qS ?_ GE222.out)|exact HB.out)⟩⟩
         ·replace c12:=Bool.eq_false_iff.mpr c12;subst c12;have H1:(spec_l7Closure.l1 k2 l0 x5_2 (x5_1.length:Int) l0 (l0.length:Int) (wrap64 (x18_2 + 1)))=some r:=by rw [if_neg (show ¬ (false=true) by decide)] at H;exact H
          clear H;have H:=H1;clear H1;have H':=qK H;clear H;have p221:0≤(x18_2:Int):=of_decide_eq_true (by first|(with_reducible assumption)|assumption);have q221:x18_2 < (l0.length:Int):=of_decide_eq_true (by first|(with_reducible assumption)|assumption);obtain ⟨ad221,A221_0,c221_0,A221_1,c221_1,e221,hx221_0,hx221_1,hl221_0,hi221_0,hl221_1,hi221_1⟩:=at_T68 HR0.out x18_2 p221 q221;cases e221
          replace hx221_0:=(HB.out.cell (World.block_lt_of_cell? w _ hx221_0)).trans hx221_0;replace hx221_1:=(HB.out.cell (World.block_lt_of_cell? w _ hx221_1)).trans hx221_1;have HR221_0:=qK hi221_0;have HC221_0:=qK hl221_0;clear hi221_0 hl221_0;have HR221_1:=qK hi221_1;have HC221_1:=qK hl221_1;clear hi221_1 hl221_1;replace p221:=eq_true p221;replace q221:=eq_true q221;go_wp2_with (first|((with_reducible refine gate_dst (N:=8) rfl ?_);refine box_event ?hg (N:=8) ?hd (cs:=#[.slice none 0 0,.slice none 0 0]) (t:=68) ?hr ?_;(case hd=>rfl);(case hg=>rfl);(case hr=>(go_simp;try rfl));intro gb222 hg w22 hbox hb;have n0_:=qK (Kd.V_below (Kd.V_elderB (by (with_reducible repeat (first|apply Kd.V_alloc|apply Kd.V_drewN|apply Kd.V_drew));exact HO_5.out) gb222 (Nat.le_of_eq hg.symm)) hb);have n1_:=qK (qT (by repeat (with_reducible first|exact HB.out|apply qA|apply qD|apply qO)) hb);have n2_:=qK (hbox);have n3_:=qK ((by rw [hg];exact (qZ (by repeat (with_reducible first|exact HB.out|apply qA|apply qD|apply qO))):w.heap.size≤gb222));have n4_:=qK ((by rw [hg];exact (qZ (by repeat (with_reducible first|exact HB.out|apply qA|apply qD|apply qO))):w.heap.size≤gb222));clear HO_5;clear HB;have HO_5:=n0_;have HB:=n1_;have BK222:=n2_;have GW222:=n3_;have GE222:=n4_;clear n0_ n1_ n2_ n3_ n4_;clear hb hbox hg;have hcz23_0:w22.cell? ⟨gb222,0,none⟩=some (.slice none 0 0):=(qC BK222.out 0).trans rfl;have hcz23_1:w22.cell? ⟨gb222,1,none⟩=some (.slice none 0 0):=(qC BK222.out 1).trans rfl;have hfz23_0:=qF BK222.out 0;have hfz23_1:=qF BK222.out 1;obtain ⟨Ao24,co24,eo24⟩:=Kd.V_slice HO_5.out;subst eo24)|((with_reducible refine gate_callee (f:=65) rfl ?_);refine goesL_ (some 25) rfl rfl Try.func65 (by kernel_rfl) rfl #[.slice Ao24 x5_2.length co24,.slice A221_0 ((rd_T68 l0 x18_2).f0).length c221_0] rfl (by (try simp only [mT,mC,mN]);first|done|rfl|(simp only [lD,lT];rfl)) ?_;(with_reducible refine (spec_l7All.calls k2 _ _ x5_2 _ _ ((rd_T68 l0 x18_2).f0) false _ ?side1 ?side2 ?side3 ?side4 A11.out).mono ?_);(case side1=>refine (Kd.V_reads' (e:=3) (base:=w.heap.size) (ok:=fun k_=>((w.heap.size≤k_)∧k_ ≠ gb222)) (n:=x5_2.length) (c:=co24) ?_).2.2;exact (by (with_reducible repeat (first|apply Kd.V_alloc|apply Kd.V_drewN|apply Kd.V_drew));exact (Kd.V_mono (Kd.V_far (p:=⟨gb222,1,none⟩) (Kd.V_far (p:=⟨gb222,0,none⟩) (Kd.V_mono HO_5.out (fun k_ hk=>(⟨hk,hk.2⟩:_∧k_ ≠ gb222))) (fun _ hk=>hk.2) (.slice A221_0 ((rd_T68 l0 x18_2).f0).length c221_0)) (fun _ hk=>hk.2) (.slice A221_1 ((rd_T68 l0 x18_2).f1).length c221_1)) (fun _ h_=>h_.1))));(case side2=>exact (Kd.V_reads' HO_5.out).2.1);(case side3=>exact cB HR221_0.out (by repeat (with_reducible first|exact HB.out|apply qA|apply qD|apply qO|refine qS ?_ GE222.out)));(case side4=>exact HC221_0.out);rintro e w' ⟨rfl,⟨nd,rfl⟩⟩;refine ⟨_,rfl,?_⟩))
          go_roundg k2
          case measure=>have:=HK1.out;have:=HK2.out;omega
          case rel=>exact ⟨(x5_2),(wrap64 (x18_2 + 1)),(by first|rfl|(simp;done)|(simp [*];done)),H',⟨by have:=HK1.out;have:=HK2.out;omega⟩,⟨by (with_reducible repeat (first|apply Kd.V_alloc|apply Kd.V_drewN|apply Kd.V_drew));exact Kd.V_mono (Kd.V_far (p:=⟨gb222,1,none⟩) (Kd.V_far (p:=⟨gb222,0,none⟩) (Kd.V_mono HO_5.out (fun k_ hk=>(⟨hk,hk.2⟩:_∧k_ ≠ gb222))) (fun _ hk=>hk.2) (.slice A221_0 ((rd_T68 l0 x18_2).f0).length c221_0)) (fun _ hk=>hk.2) (.slice A221_1 ((rd_T68 l0 x18_2).f1).length c221_1)) (fun _ hk=>hk.1.1)⟩,⟨by repeat (first|(with_reducible first|exact HB.out|apply qA|apply qD|apply qO|refine qS ?_ GE222.out)|exact HB.out)⟩⟩
        ·rw [if_neg c10] at H;exact absurd H (by simp)
       ·rw [if_neg c9] at H;exact absurd H (by simp)
      ·rw [if_neg c8] at H;have c8b0:decide (x18_2 < (l0.length:Int))=false:=decide_eq_false c8;clear c8;by_cases c25:(x5_2.length:Int)=(x5_1.length:Int)
       ·rw [if_pos c25] at H;have c25b0:((x5_2.length:Int) == (x5_1.length:Int))=true:=beq_iff_eq.mpr c25;have c25b1:((x5_2.length:Int) != (x5_1.length:Int))=false:=bne_eq_false_iff_eq.mpr c25;have c25b2:(x5_2.length == x5_1.length)=true:=by first|simpa using c25|(simp at c25 ⊢;omega)
        clear c25;obtain rfl:=Option.some.inj H;obtain ⟨Ao26,co26,eo26⟩:=Kd.V_slice HO_5.out;subst eo26;go_wp2
        go_ret
        exact ⟨_,by first|rfl|(simp [errW_none,errW_some] <;> rfl)|(simp [*,errW_none,errW_some] <;> rfl),by (with_reducible repeat (first|apply Kd.V_alloc|apply Kd.V_drewN|apply Kd.V_drew));exact HO_5.out,by repeat (first|(with_reducible first|exact HB.out|apply qA|apply qD|apply qO)|exact HB.out)⟩
       ·rw [if_neg c25] at H;have c25b0:((x5_2.length:Int) == (x5_1.length:Int))=false:=beq_eq_false_iff_ne.mpr c25;have c25b1:((x5_2.length:Int) != (x5_1.length:Int))=true:=bne_iff_ne.mpr c25;have c25b2:(x5_2.length == x5_1.length)=false:=by first|simpa using c25|(simp at c25 ⊢;omega)
        have H':=qK H;clear H;obtain ⟨Ao27,co27,eo27⟩:=Kd.V_slice HO_5.out;subst eo27;go_wp2
        go_roundg k2
        case measure=>have:=HK1.out;have:=HK2.out;omega
        case rel=>exact ⟨(x5_2),H',⟨by have:=HK1.out;have:=HK2.out;omega⟩,⟨by (with_reducible repeat (first|apply Kd.V_alloc|apply Kd.V_drewN|apply Kd.V_drew));exact HO_5.out⟩,⟨by repeat (first|(with_reducible first|exact HB.out|apply qA|apply qD|apply qO)|exact HB.out)⟩⟩
 ·rw [if_neg c3] at H;exact absurd H (by simp)

/-! ### spec_l7Subsets: function 63 -/
mutual
def spec_l7Subsets.l0 : Nat→Int→Int→List (List Int)→Int→Option ((List (List Int)))
 | 0,_,_,_,_=>none
 | k + 1,x0,x1,x7,x8=>if x8 < x0 then ((spec_l7Subsets.f k x0 (wrap64 (x1 - 1)) (wrap64 (x8 + 1))).bind fun t231=>(spec_l7Subsets.l1 k x0 x1 x7 x8 t231 (t231.length:Int) 0)) else (some x7)
def spec_l7Subsets.l1 : Nat→Int→Int→List (List Int)→Int→List (List Int)→Int→Int→Option ((List (List Int)))
 | 0,_,_,_,_,_,_,_=>none
 | k + 1,x0,x1,x7,x8,x25,x26,x27=>if x27 < x26 then (if 0≤x27 then (if x27 < (x25.length:Int) then ((some (([x8]:List Int):List Int)).bind fun y235=>(if y235.length + (rd_L1 x25 x27).length < 17592186044416 then (if x7.length < 5864062014805 then (spec_l7Subsets.l1 k x0 x1 (x7 ++ [(y235 ++ (rd_L1 x25 x27))]) x8 x25 x26 (wrap64 (x27 + 1))) else (none)) else (none))) else (none)) else (none)) else (spec_l7Subsets.l0 k x0 x1 x7 (wrap64 (x8 + 1)))
def spec_l7Subsets.f : Nat→Int→Int→Int→Option ((List (List Int)))
 | 0,_,_,_=>none
 | k + 1,a0,a1,a2=>if a1=0 then (some (([[]]:List (List Int)))) else (spec_l7Subsets.l0 k a0 a1 ([]:List (List Int)) a2)
end
theorem spec_l7Subsets.mono_l : ∀ k,(∀ y0 y1 y2,LeO (spec_l7Subsets.f k y0 y1 y2) (spec_l7Subsets.f (k + 1) y0 y1 y2))∧(∀ y0 y1 y2 y3,LeO (spec_l7Subsets.l0 k y0 y1 y2 y3) (spec_l7Subsets.l0 (k + 1) y0 y1 y2 y3))∧(∀ y0 y1 y2 y3 y4 y5 y6,LeO (spec_l7Subsets.l1 k y0 y1 y2 y3 y4 y5 y6) (spec_l7Subsets.l1 (k + 1) y0 y1 y2 y3 y4 y5 y6))
 | 0=>⟨fun _ _ _ r h=>by simp [spec_l7Subsets.f] at h,fun _ _ _ _ r h=>by simp [spec_l7Subsets.l0] at h,fun _ _ _ _ _ _ _ r h=>by simp [spec_l7Subsets.l1] at h⟩
 | k + 1=>by
  obtain ⟨ih0,ih1,ih2⟩:=spec_l7Subsets.mono_l k;refine ⟨?_,?_,?_⟩
  ·intro y0 y1 y2;unfold spec_l7Subsets.f
   repeat' first
   | (with_reducible exact ih0 _ _ _)
   | (with_reducible exact ih1 _ _ _ _)
   | (with_reducible exact ih2 _ _ _ _ _ _ _)
   | (with_reducible exact LeO.refl _)
   | (with_reducible exact LeO.none _)
   | (with_reducible refine LeO.ite ?_ ?_)
   | (with_reducible refine LeO.bind ?_ (fun _=>?_))
   | exact ih0 _ _ _
   | exact ih1 _ _ _ _
   | exact ih2 _ _ _ _ _ _ _
   | exact LeO.none _
   | refine LeO.ite ?_ ?_
   | refine LeO.bind ?_ (fun _=>?_)
  ·intro y0 y1 y2 y3;unfold spec_l7Subsets.l0
   repeat' first
   | (with_reducible exact ih0 _ _ _)
   | (with_reducible exact ih1 _ _ _ _)
   | (with_reducible exact ih2 _ _ _ _ _ _ _)
   | (with_reducible exact LeO.refl _)
   | (with_reducible exact LeO.none _)
   | (with_reducible refine LeO.ite ?_ ?_)
   | (with_reducible refine LeO.bind ?_ (fun _=>?_))
   | exact ih0 _ _ _
   | exact ih1 _ _ _ _
   | exact ih2 _ _ _ _ _ _ _
   | exact LeO.none _
   | refine LeO.ite ?_ ?_
   | refine LeO.bind ?_ (fun _=>?_)
  ·intro y0 y1 y2 y3 y4 y5 y6;unfold spec_l7Subsets.l1
   repeat' first
   | (with_reducible exact ih0 _ _ _)
   | (with_reducible exact ih1 _ _ _ _)
   | (with_reducible exact ih2 _ _ _ _ _ _ _)
   | (with_reducible exact LeO.refl _)
   | (with_reducible exact LeO.none _)
   | (with_reducible refine LeO.ite ?_ ?_)
   | (with_reducible refine LeO.bind ?_ (fun _=>?_))
   | exact ih0 _ _ _
   | exact ih1 _ _ _ _
   | exact ih2 _ _ _ _ _ _ _
   | exact LeO.none _
   | refine LeO.ite ?_ ?_
   | refine LeO.bind ?_ (fun _=>?_)
theorem spec_l7Subsets.mono : ∀ a0 a1 a2 k,LeO (spec_l7Subsets.f k a0 a1 a2) (spec_l7Subsets.f (k + 1) a0 a1 a2):=by
 intro a0 a1 a2 k;obtain ⟨ih0,ih1,ih2⟩:=spec_l7Subsets.mono_l k;exact ih0 a0 a1 a2
set_option maxHeartbeats 8000000 in
set_option maxRecDepth 100000 in
theorem spec_l7Subsets.calls (k:Nat):∀ (a0:Int) (a1:Int) (a2:Int) (r:List (List Int)) (w:World) (h:spec_l7Subsets.f k a0 a1 a2=some r),
  Calls Try.prog 63 #[.int .i64 a0,.int .i64 a1,.int .i64 a2] w fun e w'=>∃ v0_:Value,e=.returned (v0_)∧Kd.N (Kd.slice 3 (Kd.int .i64)) 24 w' w.heap.size (fun k_=>(w.heap.size≤k_)) v0_ r∧Below w.heap.size w w':=by
 induction k using Nat.strongRecOn with
 | _ k ih =>
 intro a0 a1 a2 r w h;cases k with
 | zero=>exact absurd h (by simp [spec_l7Subsets.f])
 | succ k =>
 simp only [spec_l7Subsets.f] at h;have HB:=qK (Below.refl w.heap.size w);have H:(if a1=0 then (some (([[]]:List (List Int)))) else (spec_l7Subsets.l0 k a0 a1 ([]:List (List Int)) a2))=some r:=h;clear h;by_cases c4:a1=0
 ·rw [if_pos c4] at H;have c4b0:(a1 == 0)=true:=beq_iff_eq.mpr c4;have c4b1:(a1 != 0)=false:=bne_eq_false_iff_eq.mpr c4;clear c4;obtain ⟨y228,hy228⟩:∃ y_:List (List Int),y_=(([[]]:List (List Int))):=⟨_,rfl⟩;replace H:(some y228)=some r:=by first|(rw [hy228];with_reducible exact H)|(have H2_:=(Option.bind_some _ _).symm.trans H;rw [hy228];with_reducible exact H2_)|(have H2_:=(Option.bind_some _ _).symm.trans H;with_reducible exact H2_)|with_reducible exact H|(rw [hy228];exact H)|exact H
  have Ny228:=qK hy228;clear hy228;obtain rfl:=Option.some.inj H;go_enter Try.func63,Try.ntmps63
  go_wp2_with (first|((with_reducible refine gate_dst (N:=13) rfl ?_);refine Kd.N_lit (Kd.slice 3 (Kd.int .i64)) _ 24 ?hg (N':=13) ?hd (xs:=([[]]:List (List Int))) (inner:=[.slice none 0 0]) (ok:=(fun k_=>(w.heap.size≤k_))) (okp:=(fun k_=>(w.heap.size≤k_))) ?hr ?hp (fun _ hk=>hk) ((show ∀ k_,w.heap.size≤k_→(fun k_=>(w.heap.size≤k_)) k_ from fun k_ hk=>(Nat.le_trans (qZ (by repeat (with_reducible first|exact HB.out|apply qA|apply qD|apply qO))) hk)) _ (Nat.le_refl _)) (Below.refl _ _) (Nat.le_refl _) (by simp) ?_;(case hd=>rfl);(case hg=>rfl);(case hr=>(go_simp;try rfl));(case hp=>exact (Reps.one (show Kd.FK (Kd.slice 3 (Kd.int .i64)) _ _ [] [.slice none 0 0] from (Kd.FK_slice_mk (Nat.le_refl _) (Kd.F_nil _ _ _))) (Reps.none _ _)));intro v229 w5 ho6 hb hg_ hnew_;clear hg_ hnew_;(first|rw [← Ny228.out] at ho6|(simp only [Int.reduceToNat] at ho6;rw [← Ny228.out] at ho6));have n0_:=qK (Kd.N_lower ho6 (qZ (by repeat (with_reducible first|exact HB.out|apply qA|apply qD|apply qO))));have n1_:=qK (qT (by repeat (with_reducible first|exact HB.out|apply qA|apply qD|apply qO)) hb);clear HB;have HO230:=n0_;have HB:=n1_;clear n0_ n1_;clear hb ho6))
  go_ret
  exact ⟨_,by first|rfl|(simp [errW_none,errW_some] <;> rfl)|(simp [*,errW_none,errW_some] <;> rfl),by (with_reducible repeat (first|apply Kd.N_alloc|apply Kd.N_drewN|apply Kd.N_drew));exact HO230.out,by repeat (first|(with_reducible first|exact HB.out|apply qA|apply qD|apply qO)|exact HB.out)⟩
 ·rw [if_neg c4] at H;have c4b0:(a1 == 0)=false:=beq_eq_false_iff_ne.mpr c4;have c4b1:(a1 != 0)=true:=bne_iff_ne.mpr c4;have H':=qK H;clear H;go_enter Try.func63,Try.ntmps63
  go_wp2
  go_loopg [7,8] k (fun kq v7 v8 w'=>∃ (x7_1:List (List Int)) (x8_1:Int),v8=.int .i64 x8_1∧Aside0 (spec_l7Subsets.l0 kq a0 a1 x7_1 x8_1=some r)∧Aside0 (kq≤k)∧Aside0 (Kd.N (Kd.slice 3 (Kd.int .i64)) 24 w' w.heap.size (fun k_=>(w.heap.size≤k_)) v7 x7_1)∧Aside0 (Below w.heap.size w w'))
  case atStart=>exact ⟨(([]:List (List Int))),(a2),(by first|rfl|(simp;done)|(simp [*];done)),H',⟨Nat.le_refl _⟩,⟨by first|exact Kd.S_nil _ _ _ _ _|exact Kd.N_nil _ _ _ _ _|exact Kd.V_nil _ _ _ _ _|exact Kd.Q_nil _ _ _ _ _|exact Kd.R_nil _ _ _ _ _⟩,⟨by repeat (first|(with_reducible first|exact HB.out|apply qA|apply qD|apply qO)|exact HB.out)⟩⟩
  case round =>
   clear H';try clear p2
   try clear c4
   try clear c4b0
   try clear c4b1
   try clear c6
   obtain ⟨x7_1,x8_1,rfl,HA,HK1,HO_7,HB⟩:=hrel;cases gk with
   | zero=>exact absurd HA.out (by simp [spec_l7Subsets.l0])
   | succ k1 =>
    have H:=HA.out;clear HA;simp only [spec_l7Subsets.l0] at H;by_cases c7:x8_1 < a0
    ·rw [if_pos c7] at H;have c7b0:decide (x8_1 < a0)=true:=decide_eq_true c7;clear c7;replace H:=Option.bind_eq_some_iff.mp H;obtain ⟨t231,A80,H⟩:=H;replace H:(spec_l7Subsets.l1 k1 a0 a1 x7_1 x8_1 t231 (t231.length:Int) 0)=some r:=H;have A8:=qK A80;clear A80;have H':=qK H;clear H;go_wp2_with (first|((with_reducible refine gate_callee (f:=63) rfl ?_);refine goesL_ (some 25) rfl rfl Try.func63 (by kernel_rfl) rfl #[.int .i64 a0,.int .i64 (wrap64 (a1 - 1)),.int .i64 (wrap64 (x8_1 + 1))] rfl (by (try simp only [mT,mC,mN]);first|done|rfl|(simp only [lD,lT];rfl)) ?_;(with_reducible refine (ih k1 (by have:=HK1.out;omega) a0 (wrap64 (a1 - 1)) (wrap64 (x8_1 + 1)) t231 _ A8.out).mono ?_);rintro e w9 ⟨v232,rfl,ho0,hb⟩;refine ⟨_,rfl,?_⟩;have n0_:=qK (Kd.N_elder' (by (with_reducible repeat (first|apply Kd.N_alloc|apply Kd.N_drewN|apply Kd.N_drew));exact HO_7.out) (Kd.N_base ho0) hb);have n1_:=qK (Kd.N_lower (Kd.N_mono (ok':=fun k_=>(w.heap.size≤k_)∧some k_ ≠ (u7:Value).ownBlock) ho0 (fun k_ hk_=>⟨(Nat.le_trans (qZ (by repeat (with_reducible first|exact HB.out|apply qA|apply qD|apply qO))) hk_),(Kd.fresh' (Kd.N_lt (by (with_reducible repeat (first|apply Kd.N_alloc|apply Kd.N_drewN|apply Kd.N_drew));exact HO_7.out)) k_ hk_)⟩)) (qZ (by repeat (with_reducible first|exact HB.out|apply qA|apply qD|apply qO))));have n2_:=qK (qT (by repeat (with_reducible first|exact HB.out|apply qA|apply qD|apply qO)) hb);clear HO_7;clear HB;have HO_7:=n0_;have HO233:=n1_;have HB:=n2_;clear n0_ n1_ n2_;(try clear hb);(try clear ho0);obtain ⟨Ao10,co10,eo10⟩:=Kd.N_slice HO233.out;subst eo10))
     go_loopg [7,27] k1 (fun kq v7 v27 w'=>∃ (x7_2:List (List Int)) (x27_2:Int),v27=.int .i64 x27_2∧Aside0 (spec_l7Subsets.l1 kq a0 a1 x7_2 x8_1 t231 (t231.length:Int) x27_2=some r)∧Aside0 (kq≤k1)∧Aside0 (Kd.N (Kd.slice 3 (Kd.int .i64)) 24 w' w.heap.size (fun k_=>(w.heap.size≤k_)∧some k_ ≠ ((.slice Ao10 t231.length co10):Value).ownBlock) v7 x7_2)∧Aside0 (Kd.N (Kd.slice 3 (Kd.int .i64)) 24 w' w.heap.size (fun k_=>(w.heap.size≤k_)∧some k_ ≠ (v7:Value).ownBlock) (.slice Ao10 t231.length co10) t231)∧Aside0 (Below w.heap.size w w'))
     case atStart=>exact ⟨(x7_1),(0),(by first|rfl|(simp;done)|(simp [*];done)),H',⟨Nat.le_refl _⟩,⟨by (with_reducible repeat (first|apply Kd.N_alloc|apply Kd.N_drewN|apply Kd.N_drew));exact HO_7.out⟩,⟨by (with_reducible repeat (first|apply Kd.N_alloc|apply Kd.N_drewN|apply Kd.N_drew));exact HO233.out⟩,⟨by repeat (first|(with_reducible first|exact HB.out|apply qA|apply qD|apply qO)|exact HB.out)⟩⟩
     case round =>
      clear H';try clear p2
      try clear c4
      try clear c4b0
      try clear c4b1
      try clear c6
      try clear p6
      try clear c7
      try clear c7b0
      try clear p2
      obtain ⟨x7_2,x27_2,rfl,HA,HK2,HO_7,HO_25,HB⟩:=hrel;cases gk with
      | zero=>exact absurd HA.out (by simp [spec_l7Subsets.l1])
      | succ k2 =>
       have H:=HA.out;clear HA;simp only [spec_l7Subsets.l1] at H;by_cases c11:x27_2 < (t231.length:Int)
       ·rw [if_pos c11] at H;have c11b0:decide (x27_2 < (t231.length:Int))=true:=decide_eq_true c11;clear c11;by_cases c12:0≤x27_2
        ·rw [if_pos c12] at H;have c12b0:decide (0≤x27_2)=true:=decide_eq_true c12;clear c12;by_cases c13:x27_2 < (t231.length:Int)
         ·rw [if_pos c13] at H;have c13b0:decide (x27_2 < (t231.length:Int))=true:=decide_eq_true c13;clear c13;obtain ⟨y235,hy235⟩:∃ y_:List Int,y_=(([x8_1]:List Int)):=⟨_,rfl⟩;replace H:(if y235.length + (rd_L1 t231 x27_2).length < 17592186044416 then (if x7_2.length < 5864062014805 then (spec_l7Subsets.l1 k2 a0 a1 (x7_2 ++ [(y235 ++ (rd_L1 t231 x27_2))]) x8_1 t231 (t231.length:Int) (wrap64 (x27_2 + 1))) else (none)) else (none))=some r:=by first|(rw [hy235];with_reducible exact H)|(have H2_:=(Option.bind_some _ _).symm.trans H;rw [hy235];with_reducible exact H2_)|(have H2_:=(Option.bind_some _ _).symm.trans H;with_reducible exact H2_)|with_reducible exact H|(rw [hy235];exact H)|exact H
          have Ny235:=qK hy235;clear hy235;by_cases c14:y235.length + (rd_L1 t231 x27_2).length < 17592186044416
          ·rw [if_pos c14] at H;have LMc14:=qK c14;clear c14;obtain ⟨y238,hy238⟩:∃ y_:List Int,y_=(y235 ++ (rd_L1 t231 x27_2)):=⟨_,rfl⟩;replace H:(if x7_2.length < 5864062014805 then (spec_l7Subsets.l1 k2 a0 a1 (x7_2 ++ [y238]) x8_1 t231 (t231.length:Int) (wrap64 (x27_2 + 1))) else (none))=some r:=by first|(rw [hy238];with_reducible exact H)|(have H2_:=(Option.bind_some _ _).symm.trans H;rw [hy238];with_reducible exact H2_)|(have H2_:=(Option.bind_some _ _).symm.trans H;with_reducible exact H2_)|with_reducible exact H|(rw [hy238];exact H)|exact H
           have Ny238:=qK hy238;clear hy238;by_cases c15:x7_2.length < 5864062014805
           ·rw [if_pos c15] at H;have LMc15:=qK c15;clear c15;obtain ⟨y241,hy241⟩:∃ y_:List (List Int),y_=(x7_2 ++ [y238]):=⟨_,rfl⟩;replace H:(spec_l7Subsets.l1 k2 a0 a1 y241 x8_1 t231 (t231.length:Int) (wrap64 (x27_2 + 1)))=some r:=by first|(rw [hy241];with_reducible exact H)|(have H2_:=(Option.bind_some _ _).symm.trans H;rw [hy241];with_reducible exact H2_)|(have H2_:=(Option.bind_some _ _).symm.trans H;with_reducible exact H2_)|with_reducible exact H|(rw [hy241];exact H)|exact H
            have Ny241:=qK hy241;clear hy241;have H':=qK H;clear H;have p234:0≤(x27_2:Int):=of_decide_eq_true (by first|(with_reducible assumption)|assumption);have q234:x27_2 < (t231.length:Int):=of_decide_eq_true (by first|(with_reducible assumption)|assumption);obtain ⟨ad234,A234_0,c234_0,e234,hx234_0,hl234_0,hi234_0⟩:=at_L1 (Kd.N_reads' HO_25.out).2.2 x27_2 p234 q234;cases e234
            obtain ⟨ce234,hce234,hMe234,hcc234⟩:=Kd.N_get HO_25.out [] x27_2 p234 (by first|exact q234|exact of_decide_eq_true (by first|(with_reducible assumption)|assumption)|(have e_:=(Kd.N_reads' HO_25.out).1;omega));obtain ⟨ua234_0,uc234_0,rfl,ul234_0,ge234_0⟩:=Kd.FK_slice_open hMe234;have hv234_0:=hcc234 0 _ rfl;rw [Nat.add_zero,show ((Kd.slice 3 (Kd.int .i64))).sz=1 from rfl,Nat.mul_one] at hv234_0;replace hv234_0:=Option.some.inj (hv234_0.symm.trans hx234_0);injection hv234_0 with hva_ hvn_ hvc_
            rw [hva_] at ge234_0;rw [hvc_] at ul234_0;have HL234_0:=qK (show Kd.V (Kd.int .i64) 3 _ w.heap.size _ _ (rd_L1 t231 x27_2) from Kd.V_mk ul234_0 ge234_0);clear hva_ hvn_ hvc_ ge234_0 ul234_0;clear hcc234 hce234;have HR234_0:=qK hi234_0;have HC234_0:=qK hl234_0;clear hi234_0 hl234_0;replace p234:=eq_true p234;replace q234:=eq_true q234;go_wp2_with (first|((with_reducible refine gate_dst (N:=33) rfl ?_);refine Kd.R_lit (Kd.int .i64) _ 3 ?hg (N:=33) ?hd (xs:=([x8_1]:List Int)) (inner:=[.int .i64 x8_1]) (ok:=fun _=>True) (okp:=fun _=>True) ?hr ?hp (fun _ hk=>hk) trivial (Below.refl _ _) (Nat.le_refl _) (by simp) ?_;(case hd=>rfl);(case hg=>rfl);(case hr=>(go_simp;try rfl));(case hp=>exact (Reps.one (show Kd.M (Kd.int .i64) _ _ _ x8_1 [.int .i64 x8_1] from rfl) (Reps.none _ _)));intro v236 w16 ho17 hb hg_ hnew_;clear hg_ hnew_;(first|rw [← Ny235.out] at ho17|(simp only [Int.reduceToNat] at ho17;rw [← Ny235.out] at ho17));have n0_:=qK (Kd.N_elder' (by (with_reducible repeat (first|apply Kd.N_alloc|apply Kd.N_drewN|apply Kd.N_drew));exact HO_7.out) (Kd.R_base ho17) hb);have n1_:=qK (Kd.N_elder' (by (with_reducible repeat (first|apply Kd.N_alloc|apply Kd.N_drewN|apply Kd.N_drew));exact HO_25.out) (Kd.R_base ho17) hb);have n2_:=qK (Kd.V_elder' (by (with_reducible repeat (first|apply Kd.V_alloc|apply Kd.V_drewN|apply Kd.V_drew));exact HL234_0.out) (Kd.R_base ho17) hb);have n3_:=qK (Kd.R_lower (Kd.R_newM (M:=fun k_=>(w.heap.size≤k_)) ho17 (qZ (by repeat (with_reducible first|exact HB.out|apply qA|apply qD|apply qO))) (fun k_ h_=>h_)) (qZ (by repeat (with_reducible first|exact HB.out|apply qA|apply qD|apply qO))));have n4_:=qK (cB (by repeat (first|(with_reducible exact HR234_0.out)|(with_reducible first|refine cL ?_ _|refine cN ?_ _|refine cW ?_)|exact HR234_0.out)) hb);have n5_:=qK (qT (by repeat (with_reducible first|exact HB.out|apply qA|apply qD|apply qO)) hb);clear HO_7;clear HO_25;clear HL234_0;clear HR234_0;clear HB;have HO_7:=n0_;have HO_25:=n1_;have HL234_0:=n2_;have HO237:=n3_;have HR234_0:=n4_;have HB:=n5_;clear n0_ n1_ n2_ n3_ n4_ n5_;clear hb ho17)|((with_reducible refine gate_builtin (b:=.append) (xs:=#[.tmp 33,.tmp 34]) rfl ?_);at_builtin;refine Kd.R_append_rows (Kd.int .i64) (w0:=w) w.heap.size rfl (.tmp 33) (.tmp 34) 24 3 (.int .i64 0) 8 rfl Try.underlying24 info3 rfl (by decide) (by omega) v236 y235 (rd_L1 t231 x27_2) _ _ _ (fun k_=>(w.heap.size≤k_)) (fun _=>False) rfl rfl ?aO ?aR (fun _ _ h=>h) (fun _ h=>h.elim) ?aF ?aB ?aS ?aL ?_;(case aR=>repeat (first|exact (by repeat (first|(with_reducible exact HR234_0.out)|(with_reducible first|refine cL ?_ _|refine cN ?_ _|refine cW ?_)|exact HR234_0.out))|(with_reducible first|refine cL ?_ _|refine cN ?_ _|refine cW ?_)));(case aB=>exact (by repeat (with_reducible first|exact HB.out|apply qA|apply qD|apply qO)));(case aF=>exact (fun k_ hk=>(Nat.le_trans (qZ (by repeat (with_reducible first|exact HB.out|apply qA|apply qD|apply qO))) hk)));(case aO=>exact (by (with_reducible repeat (first|apply rL|apply rN|apply rW));exact Kd.R_mono HO237.out (fun _ hk=>hk.1)));(case aS=>exact (qZ (by repeat (with_reducible first|exact HB.out|apply qA|apply qD|apply qO))));(case aL=>have:=LMc14.out;omega);intro v239 w18 ho hb hg hat;rw [← Ny238.out] at ho;have n0_:=qK (Kd.N_afterv (ok:=(fun k_=>(w.heap.size≤k_)∧some k_ ≠ (.slice (some ad234) t231.length co10:Value).ownBlock)) (by (with_reducible repeat (first|apply Kd.N_alloc|apply Kd.N_drewN|apply Kd.N_drew));exact HO_7.out) hg hat);have n1_:=qK (Kd.N_afterv (ok:=(fun k_=>(w.heap.size≤k_)∧some k_ ≠ (u7:Value).ownBlock)) (by (with_reducible repeat (first|apply Kd.N_alloc|apply Kd.N_drewN|apply Kd.N_drew));exact HO_25.out) hg hat);have n2_:=qK (Kd.V_afterv (ok:=(fun k_=>(w.heap.size≤k_)∧some k_ ≠ (u7:Value).ownBlock∧some k_ ≠ (.slice (some ad234) t231.length co10:Value).ownBlock)) (by (with_reducible repeat (first|apply Kd.V_alloc|apply Kd.V_drewN|apply Kd.V_drew));exact Kd.V_mono HL234_0.out (fun _ hk=>⟨⟨hk.1.1.1,⟨hk.1.1.2,hk.1.2⟩⟩,hk.2⟩)) hg hat);have n3_:=qK (hb);have n4_:=qK (ho);clear HO_7;clear HO_25;clear HL234_0;clear HB;clear HO237;have HO_7:=n0_;have HO_25:=n1_;have HL234_0:=n2_;have HB:=n3_;have HO240:=n4_;clear n0_ n1_ n2_ n3_ n4_;clear ho hb hg hat;obtain ⟨Ao20,co20,eo20⟩:=Kd.R_slice HO240.out;subst eo20)|((with_reducible refine gate_builtin (b:=.append) (xs:=#[.tmp 31,.tmp 36]) rfl ?_);at_builtin;refine Kd.N_append (Kd.slice 3 (Kd.int .i64)) (w0:=w) w.heap.size rfl (.tmp 31) (.tmp 36) 34 24 (.slice none 0 0) 24 rfl Try.underlying34 info24 rfl (by decide) (by omega) u7 x7_2 y238 [.slice Ao20 y238.length co20] (fun k_=>(w.heap.size≤k_)∧some k_ ≠ (.slice (some ad234) t231.length co10:Value).ownBlock) (fun k_=>((fun k_=>(w.heap.size≤k_)∧some k_ ≠ (.slice (some ad234) t231.length co10:Value).ownBlock)) k_∧some k_ ≠ (u7:Value).ownBlock) rfl rfl ?aP (fun _ hk=>hk) ?aF ?aO ?aB ?aS ?aL ?_;(case aP=>exact (Kd.FK_slice_mk (Kd.R_reads' (Kd.R_mono (ok':=(fun k_=>((fun k_=>(w.heap.size≤k_)∧some k_ ≠ (.slice (some ad234) t231.length co10:Value).ownBlock)) k_∧some k_ ≠ (u7:Value).ownBlock)) (Kd.R_apart' (Kd.R_apart' (HO240.out) (Kd.N_typed HO_25.out) (by decide)) (Kd.N_typed HO_7.out) (by decide)) (fun k_ hk=>⟨⟨hk.1.1,hk.1.2⟩,hk.2⟩))).2.1 (Kd.R_F (Kd.R_mono (ok':=(fun k_=>((fun k_=>(w.heap.size≤k_)∧some k_ ≠ (.slice (some ad234) t231.length co10:Value).ownBlock)) k_∧some k_ ≠ (u7:Value).ownBlock)) (Kd.R_apart' (Kd.R_apart' (HO240.out) (Kd.N_typed HO_25.out) (by decide)) (Kd.N_typed HO_7.out) (by decide)) (fun k_ hk=>⟨⟨hk.1.1,hk.1.2⟩,hk.2⟩)))));(case aB=>exact (by repeat (with_reducible first|exact HB.out|apply qA|apply qD|apply qO)));(case aF=>exact (fun k_ hk=>⟨(Nat.le_trans (qZ (by repeat (with_reducible first|exact HB.out|apply qA|apply qD|apply qO))) hk),Kd.fresh' (Kd.N_lt (by (with_reducible repeat (first|apply Kd.N_alloc|apply Kd.N_drewN|apply Kd.N_drew));exact HO_25.out)) k_ hk⟩));(case aO=>exact (by (with_reducible repeat (first|apply Kd.N_alloc|apply Kd.N_drewN|apply Kd.N_drew));exact Kd.N_mono HO_7.out (fun _ hk=>⟨hk.1.1,hk.1.2⟩)));(case aS=>exact (qZ (by repeat (with_reducible first|exact HB.out|apply qA|apply qD|apply qO))));(case aL=>have:=LMc15.out;omega);intro v242 w19 ho hb hg hat;rw [← Ny241.out] at ho;have n0_:=qK (Kd.N_afterv (ok:=(fun k_=>(w.heap.size≤k_)∧some k_ ≠ (.slice Ao20 y238.length co20:Value).ownBlock)) (by (with_reducible repeat (first|apply Kd.N_alloc|apply Kd.N_drewN|apply Kd.N_drew));exact Kd.N_mono HO_25.out (fun _ hk=>⟨⟨hk.1.1,hk.2⟩,hk.1.2⟩)) hg hat);have n1_:=qK (Kd.V_afterv (ok:=(fun k_=>(w.heap.size≤k_)∧some k_ ≠ (.slice (some ad234) t231.length co10:Value).ownBlock∧some k_ ≠ (.slice Ao20 y238.length co20:Value).ownBlock)) (by (with_reducible repeat (first|apply Kd.V_alloc|apply Kd.V_drewN|apply Kd.V_drew));exact Kd.V_mono HL234_0.out (fun _ hk=>⟨⟨hk.1.1,⟨hk.1.2.2,hk.2⟩⟩,hk.1.2.1⟩)) hg hat);have n2_:=qK (hb);have n3_:=qK (ho);clear HO_25;clear HL234_0;clear HB;clear HO_7;clear HO240;have HO_25:=n0_;have HL234_0:=n1_;have HB:=n2_;have HO243:=n3_;clear n0_ n1_ n2_ n3_;clear ho hb hg hat))
            go_roundg k2
            case measure=>have:=HK1.out;have:=HK2.out;omega
            case rel=>exact ⟨(y241),(wrap64 (x27_2 + 1)),(by first|rfl|(simp;done)|(simp [*];done)),H',⟨by have:=HK1.out;have:=HK2.out;omega⟩,⟨by (with_reducible repeat (first|apply Kd.N_alloc|apply Kd.N_drewN|apply Kd.N_drew));exact HO243.out⟩,⟨by (with_reducible repeat (first|apply Kd.N_alloc|apply Kd.N_drewN|apply Kd.N_drew));exact Kd.N_mono HO_25.out (fun _ hk=>⟨hk.1.1,hk.2⟩)⟩,⟨by repeat (first|(with_reducible first|exact HB.out|apply qA|apply qD|apply qO)|exact HB.out)⟩⟩
           ·rw [if_neg c15] at H;exact absurd H (by simp)
          ·rw [if_neg c14] at H;exact absurd H (by simp)
         ·rw [if_neg c13] at H;exact absurd H (by simp)
        ·rw [if_neg c12] at H;exact absurd H (by simp)
       ·rw [if_neg c11] at H;have c11b0:decide (x27_2 < (t231.length:Int))=false:=decide_eq_false c11;clear c11;have H':=qK H;clear H;go_wp2
        go_roundg k2
        case measure=>have:=HK1.out;have:=HK2.out;omega
        case rel=>exact ⟨(x7_2),(wrap64 (x8_1 + 1)),(by first|rfl|(simp;done)|(simp [*];done)),H',⟨by have:=HK1.out;have:=HK2.out;omega⟩,⟨by (with_reducible repeat (first|apply Kd.N_alloc|apply Kd.N_drewN|apply Kd.N_drew));exact Kd.N_mono HO_7.out (fun _ hk=>hk.1)⟩,⟨by repeat (first|(with_reducible first|exact HB.out|apply qA|apply qD|apply qO)|exact HB.out)⟩⟩
    ·rw [if_neg c7] at H;have c7b0:decide (x8_1 < a0)=false:=decide_eq_false c7;clear c7;obtain rfl:=Option.some.inj H;go_wp2
     go_ret
     exact ⟨_,by first|rfl|(simp [errW_none,errW_some] <;> rfl)|(simp [*,errW_none,errW_some] <;> rfl),by (with_reducible repeat (first|apply Kd.N_alloc|apply Kd.N_drewN|apply Kd.N_drew));exact HO_7.out,by repeat (first|(with_reducible first|exact HB.out|apply qA|apply qD|apply qO)|exact HB.out)⟩

/-! ### spec_l7Keys: function 54 -/
mutual
def spec_l7Keys.l0 : Nat→List (S68)→Int→List (List Int)→Int→Option ((List (List Int)))
 | 0,_,_,_,_=>none
 | k + 1,x0,x1,x5,x6=>if x6≤x1 then ((spec_l7Subsets.f k x1 x6 0).bind fun t244=>(spec_l7Keys.l1 k x0 x1 x5 x6 t244 (t244.length:Int) 0)) else (some x5)
def spec_l7Keys.l1 : Nat→List (S68)→Int→List (List Int)→Int→List (List Int)→Int→Int→Option ((List (List Int)))
 | 0,_,_,_,_,_,_,_=>none
 | k + 1,x0,x1,x5,x6,x19,x20,x21=>if x21 < x20 then (if 0≤x21 then (if x21 < (x19.length:Int) then ((spec_l7Closure.f k x0 (rd_L1 x19 x21)).bind fun t248=>(spec_l7Keys.l2 k x0 x1 x5 x6 (rd_L1 x19 x21) ((t248.length:Int) == x1) x19 x20 x21 x5 (x5.length:Int) 0)) else (none)) else (none)) else (spec_l7Keys.l0 k x0 x1 x5 (wrap64 (x6 + 1)))
def spec_l7Keys.l2 : Nat→List (S68)→Int→List (List Int)→Int→List Int→Bool→List (List Int)→Int→Int→List (List Int)→Int→Int→Option ((List (List Int)))
 | 0,_,_,_,_,_,_,_,_,_,_,_,_=>none
 | k + 1,x0,x1,x5,x6,x8,x9,x19,x20,x21,x31,x32,x33=>if x33 < x32 then (if 0≤x33 then (if x33 < (x31.length:Int) then (if x9=true then ((spec_l7All.f k x8 (rd_L1 x31 x33)).bind fun t252=>(spec_l7Keys.l2 k x0 x1 x5 x6 x8 (!t252) x19 x20 x21 x31 x32 (wrap64 (x33 + 1)))) else (spec_l7Keys.l2 k x0 x1 x5 x6 x8 false x19 x20 x21 x31 x32 (wrap64 (x33 + 1)))) else (none)) else (none)) else (if x9=true then (if x5.length < 5864062014805 then (spec_l7Keys.l1 k x0 x1 (x5 ++ [x8]) x6 x19 x20 (wrap64 (x21 + 1))) else (none)) else (spec_l7Keys.l1 k x0 x1 x5 x6 x19 x20 (wrap64 (x21 + 1))))
end
def spec_l7Keys.f (k:Nat) (l0:List (S68)) (a1:Int):Option ((List (List Int))):=spec_l7Keys.l0 k l0 a1 ([]:List (List Int)) 0
theorem spec_l7Keys.mono_l : ∀ k,(∀ y0 y1 y2 y3,LeO (spec_l7Keys.l0 k y0 y1 y2 y3) (spec_l7Keys.l0 (k + 1) y0 y1 y2 y3))∧(∀ y0 y1 y2 y3 y4 y5 y6,LeO (spec_l7Keys.l1 k y0 y1 y2 y3 y4 y5 y6) (spec_l7Keys.l1 (k + 1) y0 y1 y2 y3 y4 y5 y6))∧(∀ y0 y1 y2 y3 y4 y5 y6 y7 y8 y9 y10 y11,LeO (spec_l7Keys.l2 k y0 y1 y2 y3 y4 y5 y6 y7 y8 y9 y10 y11) (spec_l7Keys.l2 (k + 1) y0 y1 y2 y3 y4 y5 y6 y7 y8 y9 y10 y11))
 | 0=>⟨fun _ _ _ _ r h=>by simp [spec_l7Keys.l0] at h,fun _ _ _ _ _ _ _ r h=>by simp [spec_l7Keys.l1] at h,fun _ _ _ _ _ _ _ _ _ _ _ _ r h=>by simp [spec_l7Keys.l2] at h⟩
 | k + 1=>by
  obtain ⟨ih0,ih1,ih2⟩:=spec_l7Keys.mono_l k;refine ⟨?_,?_,?_⟩
  ·intro y0 y1 y2 y3;unfold spec_l7Keys.l0
   repeat' first
   | (with_reducible exact ih0 _ _ _ _)
   | (with_reducible exact ih1 _ _ _ _ _ _ _)
   | (with_reducible exact ih2 _ _ _ _ _ _ _ _ _ _ _ _)
   | (with_reducible exact spec_l7All.mono _ _ _)
   | (with_reducible exact spec_l7Closure.mono _ _ _)
   | (with_reducible exact spec_l7Subsets.mono _ _ _ _)
   | (with_reducible exact LeO.refl _)
   | (with_reducible exact LeO.none _)
   | (with_reducible refine LeO.ite ?_ ?_)
   | (with_reducible refine LeO.bind ?_ (fun _=>?_))
   | exact ih0 _ _ _ _
   | exact ih1 _ _ _ _ _ _ _
   | exact ih2 _ _ _ _ _ _ _ _ _ _ _ _
   | exact spec_l7All.mono _ _ _
   | exact spec_l7Closure.mono _ _ _
   | exact spec_l7Subsets.mono _ _ _ _
   | exact LeO.none _
   | refine LeO.ite ?_ ?_
   | refine LeO.bind ?_ (fun _=>?_)
  ·intro y0 y1 y2 y3 y4 y5 y6;unfold spec_l7Keys.l1
   repeat' first
   | (with_reducible exact ih0 _ _ _ _)
   | (with_reducible exact ih1 _ _ _ _ _ _ _)
   | (with_reducible exact ih2 _ _ _ _ _ _ _ _ _ _ _ _)
   | (with_reducible exact spec_l7All.mono _ _ _)
   | (with_reducible exact spec_l7Closure.mono _ _ _)
   | (with_reducible exact spec_l7Subsets.mono _ _ _ _)
   | (with_reducible exact LeO.refl _)
   | (with_reducible exact LeO.none _)
   | (with_reducible refine LeO.ite ?_ ?_)
   | (with_reducible refine LeO.bind ?_ (fun _=>?_))
   | exact ih0 _ _ _ _
   | exact ih1 _ _ _ _ _ _ _
   | exact ih2 _ _ _ _ _ _ _ _ _ _ _ _
   | exact spec_l7All.mono _ _ _
   | exact spec_l7Closure.mono _ _ _
   | exact spec_l7Subsets.mono _ _ _ _
   | exact LeO.none _
   | refine LeO.ite ?_ ?_
   | refine LeO.bind ?_ (fun _=>?_)
  ·intro y0 y1 y2 y3 y4 y5 y6 y7 y8 y9 y10 y11;unfold spec_l7Keys.l2
   repeat' first
   | (with_reducible exact ih0 _ _ _ _)
   | (with_reducible exact ih1 _ _ _ _ _ _ _)
   | (with_reducible exact ih2 _ _ _ _ _ _ _ _ _ _ _ _)
   | (with_reducible exact spec_l7All.mono _ _ _)
   | (with_reducible exact spec_l7Closure.mono _ _ _)
   | (with_reducible exact spec_l7Subsets.mono _ _ _ _)
   | (with_reducible exact LeO.refl _)
   | (with_reducible exact LeO.none _)
   | (with_reducible refine LeO.ite ?_ ?_)
   | (with_reducible refine LeO.bind ?_ (fun _=>?_))
   | exact ih0 _ _ _ _
   | exact ih1 _ _ _ _ _ _ _
   | exact ih2 _ _ _ _ _ _ _ _ _ _ _ _
   | exact spec_l7All.mono _ _ _
   | exact spec_l7Closure.mono _ _ _
   | exact spec_l7Subsets.mono _ _ _ _
   | exact LeO.none _
   | refine LeO.ite ?_ ?_
   | refine LeO.bind ?_ (fun _=>?_)
theorem spec_l7Keys.mono : ∀ a0 a1 k,LeO (spec_l7Keys.f k a0 a1) (spec_l7Keys.f (k + 1) a0 a1):=by
 intro a0 a1 k;obtain ⟨ih0,ih1,ih2⟩:=spec_l7Keys.mono_l k;unfold spec_l7Keys.f
 repeat' first
   | (with_reducible exact ih0 _ _ _ _)
   | (with_reducible exact ih1 _ _ _ _ _ _ _)
   | (with_reducible exact ih2 _ _ _ _ _ _ _ _ _ _ _ _)
   | (with_reducible exact spec_l7All.mono _ _ _)
   | (with_reducible exact spec_l7Closure.mono _ _ _)
   | (with_reducible exact spec_l7Subsets.mono _ _ _ _)
   | (with_reducible exact LeO.refl _)
   | (with_reducible exact LeO.none _)
   | (with_reducible refine LeO.ite ?_ ?_)
   | (with_reducible refine LeO.bind ?_ (fun _=>?_))
   | exact ih0 _ _ _ _
   | exact ih1 _ _ _ _ _ _ _
   | exact ih2 _ _ _ _ _ _ _ _ _ _ _ _
   | exact spec_l7All.mono _ _ _
   | exact spec_l7Closure.mono _ _ _
   | exact spec_l7Subsets.mono _ _ _ _
   | exact LeO.none _
   | refine LeO.ite ?_ ?_
   | refine LeO.bind ?_ (fun _=>?_)
set_option maxHeartbeats 8000000 in
set_option maxRecDepth 100000 in
theorem spec_l7Keys.calls (k:Nat) (A0:Option Addr) (c0:Nat) (l0:List (S68)) (a1:Int) (r:List (List Int)) (w:World) (hr0:Kd.C k68 w A0 l0.length l0) (hc0:l0.length≤c0) (h:spec_l7Keys.f k l0 a1=some r) :
  Calls Try.prog 54 #[.slice A0 l0.length c0,.int .i64 a1] w fun e w'=>∃ v0_:Value,e=.returned (v0_)∧Kd.N (Kd.slice 3 (Kd.int .i64)) 24 w' w.heap.size (fun k_=>(w.heap.size≤k_)) v0_ r∧Below w.heap.size w w':=by
 have HR0:=qK hr0;have HC0:=qK hc0;clear hr0 hc0;have HB:=qK (Below.refl w.heap.size w);have H:(spec_l7Keys.l0 k l0 a1 ([]:List (List Int)) 0)=some r:=h;clear h;have H':=qK H;clear H;go_enter Try.func54,Try.ntmps54
 go_wp2
 go_loopg [5,6] k (fun kq v5 v6 w'=>∃ (x5_1:List (List Int)) (x6_1:Int),v6=.int .i64 x6_1∧Aside0 (spec_l7Keys.l0 kq l0 a1 x5_1 x6_1=some r)∧Aside0 (kq≤k)∧Aside0 (Kd.N (Kd.slice 3 (Kd.int .i64)) 24 w' w.heap.size (fun k_=>(w.heap.size≤k_)) v5 x5_1)∧Aside0 (Below w.heap.size w w'))
 case atStart=>exact ⟨(([]:List (List Int))),(0),(by first|rfl|(simp;done)|(simp [*];done)),H',⟨Nat.le_refl _⟩,⟨by first|exact Kd.S_nil _ _ _ _ _|exact Kd.N_nil _ _ _ _ _|exact Kd.V_nil _ _ _ _ _|exact Kd.Q_nil _ _ _ _ _|exact Kd.R_nil _ _ _ _ _⟩,⟨by repeat (first|(with_reducible first|exact HB.out|apply qA|apply qD|apply qO)|exact HB.out)⟩⟩
 case round =>
  clear H';try clear p2
  obtain ⟨x5_1,x6_1,rfl,HA,HK1,HO_5,HB⟩:=hrel;cases gk with
  | zero=>exact absurd HA.out (by simp [spec_l7Keys.l0])
  | succ k1 =>
   have H:=HA.out;clear HA;simp only [spec_l7Keys.l0] at H;by_cases c3:x6_1≤a1
   ·rw [if_pos c3] at H;have c3b0:decide (x6_1≤a1)=true:=decide_eq_true c3;clear c3;replace H:=Option.bind_eq_some_iff.mp H;obtain ⟨t244,A40,H⟩:=H;replace H:(spec_l7Keys.l1 k1 l0 a1 x5_1 x6_1 t244 (t244.length:Int) 0)=some r:=H;have A4:=qK A40;clear A40;have H':=qK H;clear H;go_wp2_with (first|((with_reducible refine gate_callee (f:=63) rfl ?_);refine goesL_ (some 19) rfl rfl Try.func63 (by kernel_rfl) rfl #[.int .i64 a1,.int .i64 x6_1,.int .i64 0] rfl (by (try simp only [mT,mC,mN]);first|done|rfl|(simp only [lD,lT];rfl)) ?_;(with_reducible refine (spec_l7Subsets.calls k1 a1 x6_1 0 t244 _ A4.out).mono ?_);rintro e w5 ⟨v245,rfl,ho0,hb⟩;refine ⟨_,rfl,?_⟩;have n0_:=qK (Kd.N_elder' (by (with_reducible repeat (first|apply Kd.N_alloc|apply Kd.N_drewN|apply Kd.N_drew));exact HO_5.out) (Kd.N_base ho0) hb);have n1_:=qK (Kd.N_lower (Kd.N_mono (ok':=fun k_=>(w.heap.size≤k_)∧some k_ ≠ (u5:Value).ownBlock) ho0 (fun k_ hk_=>⟨(Nat.le_trans (qZ (by repeat (with_reducible first|exact HB.out|apply qA|apply qD|apply qO))) hk_),(Kd.fresh' (Kd.N_lt (by (with_reducible repeat (first|apply Kd.N_alloc|apply Kd.N_drewN|apply Kd.N_drew));exact HO_5.out)) k_ hk_)⟩)) (qZ (by repeat (with_reducible first|exact HB.out|apply qA|apply qD|apply qO))));have n2_:=qK (qT (by repeat (with_reducible first|exact HB.out|apply qA|apply qD|apply qO)) hb);clear HO_5;clear HB;have HO_5:=n0_;have HO246:=n1_;have HB:=n2_;clear n0_ n1_ n2_;(try clear hb);(try clear ho0);obtain ⟨Ao6,co6,eo6⟩:=Kd.N_slice HO246.out;subst eo6))
    go_loopg [5,21] k1 (fun kq v5 v21 w'=>∃ (x5_2:List (List Int)) (x21_2:Int),v21=.int .i64 x21_2∧Aside0 (spec_l7Keys.l1 kq l0 a1 x5_2 x6_1 t244 (t244.length:Int) x21_2=some r)∧Aside0 (kq≤k1)∧Aside0 (Kd.N (Kd.slice 3 (Kd.int .i64)) 24 w' w.heap.size (fun k_=>(w.heap.size≤k_)∧some k_ ≠ ((.slice Ao6 t244.length co6):Value).ownBlock) v5 x5_2)∧Aside0 (Kd.N (Kd.slice 3 (Kd.int .i64)) 24 w' w.heap.size (fun k_=>(w.heap.size≤k_)∧some k_ ≠ (v5:Value).ownBlock) (.slice Ao6 t244.length co6) t244)∧Aside0 (Below w.heap.size w w'))
    case atStart=>exact ⟨(x5_1),(0),(by first|rfl|(simp;done)|(simp [*];done)),H',⟨Nat.le_refl _⟩,⟨by (with_reducible repeat (first|apply Kd.N_alloc|apply Kd.N_drewN|apply Kd.N_drew));exact HO_5.out⟩,⟨by (with_reducible repeat (first|apply Kd.N_alloc|apply Kd.N_drewN|apply Kd.N_drew));exact HO246.out⟩,⟨by repeat (first|(with_reducible first|exact HB.out|apply qA|apply qD|apply qO)|exact HB.out)⟩⟩
    case round =>
     clear H';try clear p2
     try clear c3
     try clear c3b0
     try clear c5
     try clear c6
     try clear p2
     obtain ⟨x5_2,x21_2,rfl,HA,HK2,HO_5,HO_19,HB⟩:=hrel;cases gk with
     | zero=>exact absurd HA.out (by simp [spec_l7Keys.l1])
     | succ k2 =>
      have H:=HA.out;clear HA;simp only [spec_l7Keys.l1] at H;by_cases c7:x21_2 < (t244.length:Int)
      ·rw [if_pos c7] at H;have c7b0:decide (x21_2 < (t244.length:Int))=true:=decide_eq_true c7;clear c7;by_cases c8:0≤x21_2
       ·rw [if_pos c8] at H;have c8b0:decide (0≤x21_2)=true:=decide_eq_true c8;clear c8;by_cases c9:x21_2 < (t244.length:Int)
        ·rw [if_pos c9] at H;have c9b0:decide (x21_2 < (t244.length:Int))=true:=decide_eq_true c9;clear c9;replace H:=Option.bind_eq_some_iff.mp H;obtain ⟨t248,A100,H⟩:=H;replace H:(spec_l7Keys.l2 k2 l0 a1 x5_2 x6_1 (rd_L1 t244 x21_2) ((t248.length:Int) == a1) t244 (t244.length:Int) x21_2 x5_2 (x5_2.length:Int) 0)=some r:=H;have A10:=qK A100;clear A100;have H':=qK H;clear H;have p247:0≤(x21_2:Int):=of_decide_eq_true (by first|(with_reducible assumption)|assumption);have q247:x21_2 < (t244.length:Int):=of_decide_eq_true (by first|(with_reducible assumption)|assumption);obtain ⟨ad247,A247_0,c247_0,e247,hx247_0,hl247_0,hi247_0⟩:=at_L1 (Kd.N_reads' HO_19.out).2.2 x21_2 p247 q247;cases e247
         obtain ⟨ce247,hce247,hMe247,hcc247⟩:=Kd.N_get HO_19.out [] x21_2 p247 (by first|exact q247|exact of_decide_eq_true (by first|(with_reducible assumption)|assumption)|(have e_:=(Kd.N_reads' HO_19.out).1;omega));obtain ⟨ua247_0,uc247_0,rfl,ul247_0,ge247_0⟩:=Kd.FK_slice_open hMe247;have hv247_0:=hcc247 0 _ rfl;rw [Nat.add_zero,show ((Kd.slice 3 (Kd.int .i64))).sz=1 from rfl,Nat.mul_one] at hv247_0;replace hv247_0:=Option.some.inj (hv247_0.symm.trans hx247_0);injection hv247_0 with hva_ hvn_ hvc_
         rw [hva_] at ge247_0;rw [hvc_] at ul247_0;have HL247_0:=qK (show Kd.V (Kd.int .i64) 3 _ w.heap.size _ _ (rd_L1 t244 x21_2) from Kd.V_mk ul247_0 ge247_0);clear hva_ hvn_ hvc_ ge247_0 ul247_0;clear hcc247 hce247;have HR247_0:=qK hi247_0;have HC247_0:=qK hl247_0;clear hi247_0 hl247_0;replace p247:=eq_true p247;replace q247:=eq_true q247;go_wp2_with (first|((with_reducible refine gate_callee (f:=42) rfl ?_);refine goesL_ (some 27) rfl rfl Try.func42 (by kernel_rfl) rfl #[.slice A0 l0.length c0,.slice A247_0 (rd_L1 t244 x21_2).length c247_0] rfl (by (try simp only [mT,mC,mN]);first|done|rfl|(simp only [lD,lT];rfl)) ?_;(with_reducible refine (spec_l7Closure.calls k2 _ _ l0 _ _ (rd_L1 t244 x21_2) t248 _ ?side1 ?side2 ?side3 ?side4 A10.out).mono ?_);(case side1=>repeat (first|exact (cB HR0.out HB.out)|(with_reducible first|refine cL ?_ _|refine cN ?_ _|refine cW ?_)));(case side2=>exact HC0.out);(case side3=>repeat (first|exact (by repeat (first|(with_reducible exact HR247_0.out)|(with_reducible first|refine cL ?_ _|refine cN ?_ _|refine cW ?_)|exact HR247_0.out))|(with_reducible first|refine cL ?_ _|refine cN ?_ _|refine cW ?_)));(case side4=>exact HC247_0.out);rintro e w11 ⟨v249,rfl,ho0,hb⟩;refine ⟨_,rfl,?_⟩;have n0_:=qK (Kd.N_below (by (with_reducible repeat (first|apply Kd.N_alloc|apply Kd.N_drewN|apply Kd.N_drew));exact HO_5.out) hb);have n1_:=qK (Kd.N_below (by (with_reducible repeat (first|apply Kd.N_alloc|apply Kd.N_drewN|apply Kd.N_drew));exact HO_19.out) hb);have n2_:=qK (Kd.V_below (by (with_reducible repeat (first|apply Kd.V_alloc|apply Kd.V_drewN|apply Kd.V_drew));exact HL247_0.out) hb);have n3_:=qK (Kd.V_lower (Kd.V_mono (ok':=fun k_=>(w.heap.size≤k_)∧some k_ ≠ (u5:Value).ownBlock∧some k_ ≠ (.slice (some ad247) t244.length co6:Value).ownBlock) ho0 (fun k_ hk_=>⟨(Nat.le_trans (qZ (by repeat (with_reducible first|exact HB.out|apply qA|apply qD|apply qO))) hk_),(Kd.fresh' (Kd.N_lt (by (with_reducible repeat (first|apply Kd.N_alloc|apply Kd.N_drewN|apply Kd.N_drew));exact HO_5.out)) k_ hk_),(Kd.fresh' (Kd.N_lt (by (with_reducible repeat (first|apply Kd.N_alloc|apply Kd.N_drewN|apply Kd.N_drew));exact HO_19.out)) k_ hk_)⟩)) (qZ (by repeat (with_reducible first|exact HB.out|apply qA|apply qD|apply qO))));have n4_:=qK (cB (by repeat (first|(with_reducible exact HR247_0.out)|(with_reducible first|refine cL ?_ _|refine cN ?_ _|refine cW ?_)|exact HR247_0.out)) hb);have n5_:=qK (qT (by repeat (with_reducible first|exact HB.out|apply qA|apply qD|apply qO)) hb);clear HO_5;clear HO_19;clear HL247_0;clear HR247_0;clear HB;have HO_5:=n0_;have HO_19:=n1_;have HL247_0:=n2_;have HO250:=n3_;have HR247_0:=n4_;have HB:=n5_;clear n0_ n1_ n2_ n3_ n4_ n5_;(try clear hb);(try clear ho0);obtain ⟨Ao12,co12,eo12⟩:=Kd.V_slice HO250.out;subst eo12;obtain ⟨Ao13,co13,eo13⟩:=Kd.N_slice HO_5.out;subst eo13))
         go_loopg [9,33] k2 (fun kq v9 v33 w'=>∃ (x9_3:Bool) (x33_3:Int),v9=.bool x9_3∧v33=.int .i64 x33_3∧Aside0 (spec_l7Keys.l2 kq l0 a1 x5_2 x6_1 (rd_L1 t244 x21_2) x9_3 t244 (t244.length:Int) x21_2 x5_2 (x5_2.length:Int) x33_3=some r)∧Aside0 (kq≤k2)∧Aside0 (Kd.N (Kd.slice 3 (Kd.int .i64)) 24 w' w.heap.size (fun k_=>(w.heap.size≤k_)∧some k_ ≠ ((.slice (some ad247) t244.length co6):Value).ownBlock) (.slice Ao13 x5_2.length co13) x5_2)∧Aside0 (Kd.V (Kd.int .i64) 3 w' w.heap.size (fun k_=>(w.heap.size≤k_)∧some k_ ≠ ((.slice Ao13 x5_2.length co13):Value).ownBlock∧some k_ ≠ ((.slice (some ad247) t244.length co6):Value).ownBlock∧some k_ ≠ ((.slice Ao13 x5_2.length co13):Value).ownBlock) (.slice A247_0 (rd_L1 t244 x21_2).length c247_0) (rd_L1 t244 x21_2))∧Aside0 (Kd.N (Kd.slice 3 (Kd.int .i64)) 24 w' w.heap.size (fun k_=>(w.heap.size≤k_)∧some k_ ≠ ((.slice Ao13 x5_2.length co13):Value).ownBlock∧some k_ ≠ ((.slice Ao13 x5_2.length co13):Value).ownBlock) (.slice (some ad247) t244.length co6) t244)∧Aside0 (Kd.N (Kd.slice 3 (Kd.int .i64)) 24 w' w.heap.size (fun k_=>(w.heap.size≤k_)∧some k_ ≠ ((.slice (some ad247) t244.length co6):Value).ownBlock) (.slice Ao13 x5_2.length co13) x5_2)∧Aside0 (Kd.C (Kd.int .i64) w' A247_0 (rd_L1 t244 x21_2).length (rd_L1 t244 x21_2))∧Aside0 (Below w.heap.size w w'))
         case atStart=>exact ⟨(((t248.length:Int) == a1)),(0),(by first|rfl|(simp;done)|(simp [*];done)),(by first|rfl|(simp;done)|(simp [*];done)),H',⟨Nat.le_refl _⟩,⟨by (with_reducible repeat (first|apply Kd.N_alloc|apply Kd.N_drewN|apply Kd.N_drew));exact HO_5.out⟩,⟨by (with_reducible repeat (first|apply Kd.V_alloc|apply Kd.V_drewN|apply Kd.V_drew));exact Kd.V_mono HL247_0.out (fun _ hk=>⟨hk.1.1,⟨hk.1.2,⟨hk.2,hk.1.2⟩⟩⟩)⟩,⟨by (with_reducible repeat (first|apply Kd.N_alloc|apply Kd.N_drewN|apply Kd.N_drew));exact Kd.N_mono HO_19.out (fun _ hk=>⟨hk.1,⟨hk.2,hk.2⟩⟩)⟩,⟨by (with_reducible repeat (first|apply Kd.N_alloc|apply Kd.N_drewN|apply Kd.N_drew));exact HO_5.out⟩,⟨by repeat (first|(with_reducible exact HR247_0.out)|(with_reducible first|refine cL ?_ _|refine cN ?_ _|refine cW ?_)|exact HR247_0.out)⟩,⟨by repeat (first|(with_reducible first|exact HB.out|apply qA|apply qD|apply qO)|exact HB.out)⟩⟩
         case round =>
          clear H';try clear c2
          try clear p2
          try clear q2
          try clear hx2
          try clear c3
          try clear c3b0
          try clear c4
          try clear c5
          try clear c6
          try clear c7
          try clear c7b0
          try clear c8
          try clear c8b0
          try clear c9
          try clear c9b0
          try clear hx247_0
          try clear p2
          try clear p247
          try clear q247
          obtain ⟨x9_3,x33_3,rfl,rfl,HA,HK3,HO_5,HO_8,HO_19,HO_31,HR247_0,HB⟩:=hrel;cases gk with
          | zero=>exact absurd HA.out (by simp [spec_l7Keys.l2])
          | succ k3 =>
           have H:=HA.out;clear HA;simp only [spec_l7Keys.l2] at H;by_cases c14:x33_3 < (x5_2.length:Int)
           ·rw [if_pos c14] at H;have c14b0:decide (x33_3 < (x5_2.length:Int))=true:=decide_eq_true c14;clear c14;by_cases c15:0≤x33_3
            ·rw [if_pos c15] at H;have c15b0:decide (0≤x33_3)=true:=decide_eq_true c15;clear c15;by_cases c16:x33_3 < (x5_2.length:Int)
             ·rw [if_pos c16] at H;have c16b0:decide (x33_3 < (x5_2.length:Int))=true:=decide_eq_true c16;clear c16;by_cases c17:x9_3=true
              ·subst c17;have H1:((spec_l7All.f k3 (rd_L1 t244 x21_2) (rd_L1 x5_2 x33_3)).bind fun t252=>(spec_l7Keys.l2 k3 l0 a1 x5_2 x6_1 (rd_L1 t244 x21_2) (!t252) t244 (t244.length:Int) x21_2 x5_2 (x5_2.length:Int) (wrap64 (x33_3 + 1))))=some r:=by rw [if_pos rfl] at H;exact H
               clear H;have H:=H1;clear H1;replace H:=Option.bind_eq_some_iff.mp H;obtain ⟨t252,A180,H⟩:=H;replace H:(spec_l7Keys.l2 k3 l0 a1 x5_2 x6_1 (rd_L1 t244 x21_2) (!t252) t244 (t244.length:Int) x21_2 x5_2 (x5_2.length:Int) (wrap64 (x33_3 + 1)))=some r:=H;have A18:=qK A180;clear A180;have H':=qK H;clear H;have p251:0≤(x33_3:Int):=of_decide_eq_true (by first|(with_reducible assumption)|assumption);have q251:x33_3 < (x5_2.length:Int):=of_decide_eq_true (by first|(with_reducible assumption)|assumption);obtain ⟨ad251,A251_0,c251_0,e251,hx251_0,hl251_0,hi251_0⟩:=at_L1 (Kd.N_reads' HO_31.out).2.2 x33_3 p251 q251;cases e251
               obtain ⟨ce251,hce251,hMe251,hcc251⟩:=Kd.N_get HO_31.out [] x33_3 p251 (by first|exact q251|exact of_decide_eq_true (by first|(with_reducible assumption)|assumption)|(have e_:=(Kd.N_reads' HO_31.out).1;omega));obtain ⟨ua251_0,uc251_0,rfl,ul251_0,ge251_0⟩:=Kd.FK_slice_open hMe251;have hv251_0:=hcc251 0 _ rfl;rw [Nat.add_zero,show ((Kd.slice 3 (Kd.int .i64))).sz=1 from rfl,Nat.mul_one] at hv251_0;replace hv251_0:=Option.some.inj (hv251_0.symm.trans hx251_0);injection hv251_0 with hva_ hvn_ hvc_
               rw [hva_] at ge251_0;rw [hvc_] at ul251_0;have HL251_0:=qK (show Kd.V (Kd.int .i64) 3 _ w.heap.size _ _ (rd_L1 x5_2 x33_3) from Kd.V_mk ul251_0 ge251_0);clear hva_ hvn_ hvc_ ge251_0 ul251_0;clear hcc251 hce251;have HR251_0:=qK hi251_0;have HC251_0:=qK hl251_0;clear hi251_0 hl251_0;replace p251:=eq_true p251;replace q251:=eq_true q251;go_wp2_with (first|(go_at_call 65;(with_reducible refine (spec_l7All.calls k3 _ _ (rd_L1 t244 x21_2) _ _ (rd_L1 x5_2 x33_3) t252 _ ?side1 ?side2 ?side3 ?side4 A18.out).mono ?_);(case side1=>repeat (first|exact (Kd.V_reads' HO_8.out).2.2|(with_reducible first|refine cL ?_ _|refine cN ?_ _|refine cW ?_)));(case side2=>exact (Kd.V_reads' HO_8.out).2.1);(case side3=>repeat (first|exact (by repeat (first|(with_reducible exact HR251_0.out)|(with_reducible first|refine cL ?_ _|refine cN ?_ _|refine cW ?_)|exact HR251_0.out))|(with_reducible first|refine cL ?_ _|refine cN ?_ _|refine cW ?_)));(case side4=>exact HC251_0.out);rintro e w' ⟨rfl,⟨nd,rfl⟩⟩))
               go_roundg k3
               case measure=>have:=HK1.out;have:=HK2.out;have:=HK3.out;omega
               case rel=>exact ⟨(!t252),(wrap64 (x33_3 + 1)),(by first|rfl|(simp;done)|(simp [*];done)),(by first|rfl|(simp;done)|(simp [*];done)),H',⟨by have:=HK1.out;have:=HK2.out;have:=HK3.out;omega⟩,⟨by (with_reducible repeat (first|apply Kd.N_alloc|apply Kd.N_drewN|apply Kd.N_drew));exact HO_5.out⟩,⟨by (with_reducible repeat (first|apply Kd.V_alloc|apply Kd.V_drewN|apply Kd.V_drew));exact HO_8.out⟩,⟨by (with_reducible repeat (first|apply Kd.N_alloc|apply Kd.N_drewN|apply Kd.N_drew));exact HO_19.out⟩,⟨by (with_reducible repeat (first|apply Kd.N_alloc|apply Kd.N_drewN|apply Kd.N_drew));exact HO_31.out⟩,⟨by repeat (first|(with_reducible exact HR247_0.out)|(with_reducible first|refine cL ?_ _|refine cN ?_ _|refine cW ?_)|exact HR247_0.out)⟩,⟨by repeat (first|(with_reducible first|exact HB.out|apply qA|apply qD|apply qO)|exact HB.out)⟩⟩
              ·replace c17:=Bool.eq_false_iff.mpr c17;subst c17;have H1:(spec_l7Keys.l2 k3 l0 a1 x5_2 x6_1 (rd_L1 t244 x21_2) false t244 (t244.length:Int) x21_2 x5_2 (x5_2.length:Int) (wrap64 (x33_3 + 1)))=some r:=by rw [if_neg (show ¬ (false=true) by decide)] at H;exact H
               clear H;have H:=H1;clear H1;have H':=qK H;clear H;have p251:0≤(x33_3:Int):=of_decide_eq_true (by first|(with_reducible assumption)|assumption);have q251:x33_3 < (x5_2.length:Int):=of_decide_eq_true (by first|(with_reducible assumption)|assumption);obtain ⟨ad251,A251_0,c251_0,e251,hx251_0,hl251_0,hi251_0⟩:=at_L1 (Kd.N_reads' HO_31.out).2.2 x33_3 p251 q251;cases e251
               obtain ⟨ce251,hce251,hMe251,hcc251⟩:=Kd.N_get HO_31.out [] x33_3 p251 (by first|exact q251|exact of_decide_eq_true (by first|(with_reducible assumption)|assumption)|(have e_:=(Kd.N_reads' HO_31.out).1;omega));obtain ⟨ua251_0,uc251_0,rfl,ul251_0,ge251_0⟩:=Kd.FK_slice_open hMe251;have hv251_0:=hcc251 0 _ rfl;rw [Nat.add_zero,show ((Kd.slice 3 (Kd.int .i64))).sz=1 from rfl,Nat.mul_one] at hv251_0;replace hv251_0:=Option.some.inj (hv251_0.symm.trans hx251_0);injection hv251_0 with hva_ hvn_ hvc_
               rw [hva_] at ge251_0;rw [hvc_] at ul251_0;have HL251_0:=qK (show Kd.V (Kd.int .i64) 3 _ w.heap.size _ _ (rd_L1 x5_2 x33_3) from Kd.V_mk ul251_0 ge251_0);clear hva_ hvn_ hvc_ ge251_0 ul251_0;clear hcc251 hce251;have HR251_0:=qK hi251_0;have HC251_0:=qK hl251_0;clear hi251_0 hl251_0;replace p251:=eq_true p251;replace q251:=eq_true q251;go_wp2
               go_roundg k3
               case measure=>have:=HK1.out;have:=HK2.out;have:=HK3.out;omega
               case rel=>exact ⟨(false),(wrap64 (x33_3 + 1)),(by first|rfl|(simp;done)|(simp [*];done)),(by first|rfl|(simp;done)|(simp [*];done)),H',⟨by have:=HK1.out;have:=HK2.out;have:=HK3.out;omega⟩,⟨by (with_reducible repeat (first|apply Kd.N_alloc|apply Kd.N_drewN|apply Kd.N_drew));exact HO_5.out⟩,⟨by (with_reducible repeat (first|apply Kd.V_alloc|apply Kd.V_drewN|apply Kd.V_drew));exact HO_8.out⟩,⟨by (with_reducible repeat (first|apply Kd.N_alloc|apply Kd.N_drewN|apply Kd.N_drew));exact HO_19.out⟩,⟨by (with_reducible repeat (first|apply Kd.N_alloc|apply Kd.N_drewN|apply Kd.N_drew));exact HO_31.out⟩,⟨by repeat (first|(with_reducible exact HR247_0.out)|(with_reducible first|refine cL ?_ _|refine cN ?_ _|refine cW ?_)|exact HR247_0.out)⟩,⟨by repeat (first|(with_reducible first|exact HB.out|apply qA|apply qD|apply qO)|exact HB.out)⟩⟩
             ·rw [if_neg c16] at H;exact absurd H (by simp)
            ·rw [if_neg c15] at H;exact absurd H (by simp)
           ·rw [if_neg c14] at H;have c14b0:decide (x33_3 < (x5_2.length:Int))=false:=decide_eq_false c14;clear c14;by_cases c19:x9_3=true
            ·subst c19;have H1:(if x5_2.length < 5864062014805 then (spec_l7Keys.l1 k3 l0 a1 (x5_2 ++ [(rd_L1 t244 x21_2)]) x6_1 t244 (t244.length:Int) (wrap64 (x21_2 + 1))) else (none))=some r:=by rw [if_pos rfl] at H;exact H
             clear H;have H:=H1;clear H1;by_cases c20:x5_2.length < 5864062014805
             ·rw [if_pos c20] at H;have LMc20:=qK c20;clear c20;obtain ⟨y253,hy253⟩:∃ y_:List (List Int),y_=(x5_2 ++ [(rd_L1 t244 x21_2)]):=⟨_,rfl⟩;replace H:(spec_l7Keys.l1 k3 l0 a1 y253 x6_1 t244 (t244.length:Int) (wrap64 (x21_2 + 1)))=some r:=by first|(rw [hy253];with_reducible exact H)|(have H2_:=(Option.bind_some _ _).symm.trans H;rw [hy253];with_reducible exact H2_)|(have H2_:=(Option.bind_some _ _).symm.trans H;with_reducible exact H2_)|with_reducible exact H|(rw [hy253];exact H)|exact H
              have Ny253:=qK hy253;clear hy253;have H':=qK H;clear H;go_wp2_with (first|((with_reducible refine gate_builtin (b:=.append) (xs:=#[.tmp 46,.tmp 48]) rfl ?_);at_builtin;refine Kd.N_append (Kd.slice 3 (Kd.int .i64)) (w0:=w) w.heap.size rfl (.tmp 46) (.tmp 48) 34 24 (.slice none 0 0) 24 rfl Try.underlying34 info24 rfl (by decide) (by omega) (.slice Ao13 x5_2.length co13) x5_2 (rd_L1 t244 x21_2) [.slice A247_0 (rd_L1 t244 x21_2).length c247_0] (fun k_=>(w.heap.size≤k_)∧some k_ ≠ (.slice (some ad247) t244.length co6:Value).ownBlock) (fun k_=>((fun k_=>(w.heap.size≤k_)∧some k_ ≠ (.slice (some ad247) t244.length co6:Value).ownBlock)) k_∧some k_ ≠ (.slice Ao13 x5_2.length co13:Value).ownBlock) rfl rfl ?aP (fun _ hk=>hk) ?aF ?aO ?aB ?aS ?aL ?_;(case aP=>exact (Kd.FK_slice_mk (Kd.V_reads' (Kd.V_mono (ok':=(fun k_=>((fun k_=>(w.heap.size≤k_)∧some k_ ≠ (.slice (some ad247) t244.length co6:Value).ownBlock)) k_∧some k_ ≠ (.slice Ao13 x5_2.length co13:Value).ownBlock)) (HO_8.out) (fun k_ hk=>⟨⟨hk.1,hk.2.2.1⟩,hk.2.1⟩))).2.1 (Kd.V_F (Kd.V_mono (ok':=(fun k_=>((fun k_=>(w.heap.size≤k_)∧some k_ ≠ (.slice (some ad247) t244.length co6:Value).ownBlock)) k_∧some k_ ≠ (.slice Ao13 x5_2.length co13:Value).ownBlock)) (HO_8.out) (fun k_ hk=>⟨⟨hk.1,hk.2.2.1⟩,hk.2.1⟩)))));(case aB=>exact (by repeat (with_reducible first|exact HB.out|apply qA|apply qD|apply qO)));(case aF=>exact (fun k_ hk=>⟨(Nat.le_trans (qZ (by repeat (with_reducible first|exact HB.out|apply qA|apply qD|apply qO))) hk),Kd.fresh' (Kd.N_lt (by (with_reducible repeat (first|apply Kd.N_alloc|apply Kd.N_drewN|apply Kd.N_drew));exact HO_19.out)) k_ hk⟩));(case aO=>exact (by (with_reducible repeat (first|apply Kd.N_alloc|apply Kd.N_drewN|apply Kd.N_drew));exact HO_5.out));(case aS=>exact (qZ (by repeat (with_reducible first|exact HB.out|apply qA|apply qD|apply qO))));(case aL=>have:=LMc20.out;omega);intro v254 w21 ho hb hg hat;rw [← Ny253.out] at ho;have n0_:=qK (Kd.V_afterv (ok:=(fun k_=>(w.heap.size≤k_)∧some k_ ≠ (.slice (some ad247) t244.length co6:Value).ownBlock)) (by (with_reducible repeat (first|apply Kd.V_alloc|apply Kd.V_drewN|apply Kd.V_drew));exact Kd.V_mono HO_8.out (fun _ hk=>⟨⟨hk.1,hk.2.2.1⟩,hk.2.1⟩)) hg hat);have n1_:=qK (Kd.N_afterv (ok:=(fun k_=>(w.heap.size≤k_))) (by (with_reducible repeat (first|apply Kd.N_alloc|apply Kd.N_drewN|apply Kd.N_drew));exact Kd.N_mono HO_19.out (fun _ hk=>⟨hk.1,hk.2.1⟩)) hg hat);have n2_:=qK (hb);have n3_:=qK (ho);clear HO_8;clear HO_19;clear HB;clear HO_5;have HO_8:=n0_;have HO_19:=n1_;have HB:=n2_;have HO255:=n3_;clear n0_ n1_ n2_ n3_;clear ho hb hg hat))
              go_roundg k3
              case measure=>have:=HK1.out;have:=HK2.out;have:=HK3.out;omega
              case rel=>exact ⟨(y253),(wrap64 (x21_2 + 1)),(by first|rfl|(simp;done)|(simp [*];done)),H',⟨by have:=HK1.out;have:=HK2.out;have:=HK3.out;omega⟩,⟨by (with_reducible repeat (first|apply Kd.N_alloc|apply Kd.N_drewN|apply Kd.N_drew));exact HO255.out⟩,⟨by (with_reducible repeat (first|apply Kd.N_alloc|apply Kd.N_drewN|apply Kd.N_drew));exact HO_19.out⟩,⟨by repeat (first|(with_reducible first|exact HB.out|apply qA|apply qD|apply qO)|exact HB.out)⟩⟩
             ·rw [if_neg c20] at H;exact absurd H (by simp)
            ·replace c19:=Bool.eq_false_iff.mpr c19;subst c19;have H1:(spec_l7Keys.l1 k3 l0 a1 x5_2 x6_1 t244 (t244.length:Int) (wrap64 (x21_2 + 1)))=some r:=by rw [if_neg (show ¬ (false=true) by decide)] at H;exact H
             clear H;have H:=H1;clear H1;have H':=qK H;clear H;go_wp2
             go_roundg k3
             case measure=>have:=HK1.out;have:=HK2.out;have:=HK3.out;omega
             case rel=>exact ⟨(x5_2),(wrap64 (x21_2 + 1)),(by first|rfl|(simp;done)|(simp [*];done)),H',⟨by have:=HK1.out;have:=HK2.out;have:=HK3.out;omega⟩,⟨by (with_reducible repeat (first|apply Kd.N_alloc|apply Kd.N_drewN|apply Kd.N_drew));exact HO_5.out⟩,⟨by (with_reducible repeat (first|apply Kd.N_alloc|apply Kd.N_drewN|apply Kd.N_drew));exact Kd.N_mono HO_19.out (fun _ hk=>⟨hk.1,hk.2.1⟩)⟩,⟨by repeat (first|(with_reducible first|exact HB.out|apply qA|apply qD|apply qO)|exact HB.out)⟩⟩
        ·rw [if_neg c9] at H;exact absurd H (by simp)
       ·rw [if_neg c8] at H;exact absurd H (by simp)
      ·rw [if_neg c7] at H;have c7b0:decide (x21_2 < (t244.length:Int))=false:=decide_eq_false c7;clear c7;have H':=qK H;clear H;go_wp2
       go_roundg k2
       case measure=>have:=HK1.out;have:=HK2.out;omega
       case rel=>exact ⟨(x5_2),(wrap64 (x6_1 + 1)),(by first|rfl|(simp;done)|(simp [*];done)),H',⟨by have:=HK1.out;have:=HK2.out;omega⟩,⟨by (with_reducible repeat (first|apply Kd.N_alloc|apply Kd.N_drewN|apply Kd.N_drew));exact Kd.N_mono HO_5.out (fun _ hk=>hk.1)⟩,⟨by repeat (first|(with_reducible first|exact HB.out|apply qA|apply qD|apply qO)|exact HB.out)⟩⟩
   ·rw [if_neg c3] at H;have c3b0:decide (x6_1≤a1)=false:=decide_eq_false c3;clear c3;obtain rfl:=Option.some.inj H;go_wp2
    go_ret
    exact ⟨_,by first|rfl|(simp [errW_none,errW_some] <;> rfl)|(simp [*,errW_none,errW_some] <;> rfl),by (with_reducible repeat (first|apply Kd.N_alloc|apply Kd.N_drewN|apply Kd.N_drew));exact HO_5.out,by repeat (first|(with_reducible first|exact HB.out|apply qA|apply qD|apply qO)|exact HB.out)⟩

/-! ### spec_KeysOf: function 16 -/
def spec_KeysOf.f (k:Nat) (l0:List (S68)) (a1:Int):Option ((List (List Int)) × Bool):=(spec_GoodDepends.f k l0 a1).bind fun t256=>(if t256=true then ((spec_l7Keys.f k l0 a1).bind fun t257=>(some (t257,true))) else (some (([]:List (List Int)),false)))
theorem spec_KeysOf.mono : ∀ a0 a1 k,LeO (spec_KeysOf.f k a0 a1) (spec_KeysOf.f (k + 1) a0 a1):=by
 intro a0 a1 k;unfold spec_KeysOf.f
 repeat' first
   | (with_reducible exact spec_GoodDepends.mono _ _ _)
   | (with_reducible exact spec_l7Keys.mono _ _ _)
   | (with_reducible exact LeO.refl _)
   | (with_reducible exact LeO.none _)
   | (with_reducible refine LeO.ite ?_ ?_)
   | (with_reducible refine LeO.bind ?_ (fun _=>?_))
   | exact spec_GoodDepends.mono _ _ _
   | exact spec_l7Keys.mono _ _ _
   | exact LeO.none _
   | refine LeO.ite ?_ ?_
   | refine LeO.bind ?_ (fun _=>?_)
set_option maxHeartbeats 8000000 in
set_option maxRecDepth 100000 in
theorem spec_KeysOf.calls (k:Nat) (A0:Option Addr) (c0:Nat) (l0:List (S68)) (a1:Int) (r1:List (List Int)) (r2:Bool) (w:World) (hr0:Kd.C k68 w A0 l0.length l0) (hc0:l0.length≤c0) (h:spec_KeysOf.f k l0 a1=some (r1,r2)) :
  Calls Try.prog 16 #[.slice A0 l0.length c0,.int .i64 a1] w fun e w'=>∃ v0_:Value,e=.returned (.tuple #[v0_,.bool r2])∧Kd.N (Kd.slice 3 (Kd.int .i64)) 24 w' w.heap.size (fun k_=>(w.heap.size≤k_)) v0_ r1∧Below w.heap.size w w':=by
 have HR0:=qK hr0;have HC0:=qK hc0;clear hr0 hc0;have HB:=qK (Below.refl w.heap.size w);have H:((spec_GoodDepends.f k l0 a1).bind fun t256=>(if t256=true then ((spec_l7Keys.f k l0 a1).bind fun t257=>(some (t257,true))) else (some (([]:List (List Int)),false))))=some (r1,r2):=h;clear h;replace H:=Option.bind_eq_some_iff.mp H;obtain ⟨t256,A30,H⟩:=H;replace H:(if t256=true then ((spec_l7Keys.f k l0 a1).bind fun t257=>(some (t257,true))) else (some (([]:List (List Int)),false)))=some (r1,r2):=H;have A3:=qK A30;clear A30;by_cases c4:t256=true
 ·subst c4;have H1:((spec_l7Keys.f k l0 a1).bind fun t257=>(some (t257,true)))=some (r1,r2):=by rw [if_pos rfl] at H;exact H
  clear H;have H:=H1;clear H1;replace H:=Option.bind_eq_some_iff.mp H;obtain ⟨t257,A50,H⟩:=H;replace H:(some (t257,true))=some (r1,r2):=H;have A5:=qK A50;clear A50;simp only [Option.some.injEq,Prod.mk.injEq] at H;obtain ⟨rfl,rfl⟩:=H;go_enter Try.func16,Try.ntmps16
  go_wp2_with (first|((with_reducible refine gate_callee (f:=12) rfl ?_);refine goesL_ (some 8) rfl rfl Try.func12 (by kernel_rfl) rfl #[.slice A0 l0.length c0,.int .i64 a1] rfl (by (try simp only [mT,mC,mN]);first|done|rfl|(simp only [lD,lT];rfl)) ?_;(with_reducible refine (spec_GoodDepends.calls k _ _ l0 a1 true _ ?side1 ?side2 A3.out).mono ?_);(case side1=>repeat (first|exact HR0.out|(with_reducible first|refine cL ?_ _|refine cN ?_ _|refine cW ?_)));(case side2=>exact HC0.out);rintro e w6 ⟨rfl,hb⟩;refine ⟨_,rfl,?_⟩;have n0_:=qK (qT (by repeat (with_reducible first|exact HB.out|apply qA|apply qD|apply qO)) hb);clear HB;have HB:=n0_;clear n0_;(try clear hb))|((with_reducible refine gate_callee (f:=54) rfl ?_);refine goesL_ (some 12) rfl rfl Try.func54 (by kernel_rfl) rfl #[.slice A0 l0.length c0,.int .i64 a1] rfl (by (try simp only [mT,mC,mN]);first|done|rfl|(simp only [lD,lT];rfl)) ?_;(with_reducible refine (spec_l7Keys.calls k _ _ l0 a1 t257 _ ?side1 ?side2 A5.out).mono ?_);(case side1=>repeat (first|exact (cB HR0.out HB.out)|(with_reducible first|refine cL ?_ _|refine cN ?_ _|refine cW ?_)));(case side2=>exact HC0.out);rintro e w7 ⟨v258,rfl,ho0,hb⟩;refine ⟨_,rfl,?_⟩;have n0_:=qK (Kd.N_lower (Kd.N_mono (ok':=fun k_=>(w.heap.size≤k_)) ho0 (fun k_ hk_=>(Nat.le_trans (qZ (by repeat (with_reducible first|exact HB.out|apply qA|apply qD|apply qO))) hk_))) (qZ (by repeat (with_reducible first|exact HB.out|apply qA|apply qD|apply qO))));have n1_:=qK (qT (by repeat (with_reducible first|exact HB.out|apply qA|apply qD|apply qO)) hb);clear HB;have HO259:=n0_;have HB:=n1_;clear n0_ n1_;(try clear hb);(try clear ho0)))
  go_ret2
  exact ⟨_,by first|rfl|(simp [errW_none,errW_some] <;> rfl)|(simp [*,errW_none,errW_some] <;> rfl),by (with_reducible repeat (first|apply Kd.N_alloc|apply Kd.N_drewN|apply Kd.N_drew));exact HO259.out,by repeat (first|(with_reducible first|exact HB.out|apply qA|apply qD|apply qO)|exact HB.out)⟩
 ·replace c4:=Bool.eq_false_iff.mpr c4;subst c4;have H1:(some (([]:List (List Int)),false))=some (r1,r2):=by rw [if_neg (show ¬ (false=true) by decide)] at H;exact H
  clear H;have H:=H1;clear H1;simp only [Option.some.injEq,Prod.mk.injEq] at H;obtain ⟨rfl,rfl⟩:=H;go_enter Try.func16,Try.ntmps16
  go_wp2_with (first|((with_reducible refine gate_callee (f:=12) rfl ?_);refine goesL_ (some 8) rfl rfl Try.func12 (by kernel_rfl) rfl #[.slice A0 l0.length c0,.int .i64 a1] rfl (by (try simp only [mT,mC,mN]);first|done|rfl|(simp only [lD,lT];rfl)) ?_;(with_reducible refine (spec_GoodDepends.calls k _ _ l0 a1 false _ ?side1 ?side2 A3.out).mono ?_);(case side1=>repeat (first|exact HR0.out|(with_reducible first|refine cL ?_ _|refine cN ?_ _|refine cW ?_)));(case side2=>exact HC0.out);rintro e w8 ⟨rfl,hb⟩;refine ⟨_,rfl,?_⟩;have n0_:=qK (qT (by repeat (with_reducible first|exact HB.out|apply qA|apply qD|apply qO)) hb);clear HB;have HB:=n0_;clear n0_;(try clear hb)))
  go_ret2
  exact ⟨_,by first|rfl|(simp [errW_none,errW_some] <;> rfl)|(simp [*,errW_none,errW_some] <;> rfl),by first|exact Kd.S_nil _ _ _ _ _|exact Kd.N_nil _ _ _ _ _|exact Kd.V_nil _ _ _ _ _|exact Kd.Q_nil _ _ _ _ _|exact Kd.R_nil _ _ _ _ _,by repeat (first|(with_reducible first|exact HB.out|apply qA|apply qD|apply qO)|exact HB.out)⟩

/-! ### laws_szIntS: function 77 -/
def laws_szIntS.f (l0:List Int) (a1:Int):Option (Int):=if (wrap64 (a1 - (l0.length:Int))) < 0 then (some (-1)) else (some (wrap64 (a1 - (l0.length:Int))))
set_option maxHeartbeats 8000000 in
set_option maxRecDepth 100000 in
theorem laws_szIntS.calls (A0:Option Addr) (c0:Nat) (l0:List Int) (a1:Int) (r:Int) (w:World) (hr0:Kd.C (Kd.int .i64) w A0 l0.length l0) (hc0:l0.length≤c0) (h:laws_szIntS.f l0 a1=some r) :
  Calls Try.prog 77 #[.slice A0 l0.length c0,.int .i64 a1] w fun e w'=>e=.returned (.int .i64 r)∧Drawn0 w w':=by
 have HR0:=qK hr0;have HC0:=qK hc0;clear hr0 hc0;have H:(if (wrap64 (a1 - (l0.length:Int))) < 0 then (some (-1)) else (some (wrap64 (a1 - (l0.length:Int)))))=some r:=h;clear h;by_cases c3:(wrap64 (a1 - (l0.length:Int))) < 0
 ·rw [if_pos c3] at H;have c3b0:decide ((wrap64 (a1 - (l0.length:Int))) < 0)=true:=decide_eq_true c3;clear c3;obtain rfl:=Option.some.inj H;go_enter Try.func77,Try.ntmps77
  go_wp2
  go_ret
  exact ⟨by first|rfl|(simp;done)|(simp [*];done),by repeat (first|exact Drawn0.refl _|apply Drawn0.step)⟩
 ·rw [if_neg c3] at H;have c3b0:decide ((wrap64 (a1 - (l0.length:Int))) < 0)=false:=decide_eq_false c3;clear c3;obtain rfl:=Option.some.inj H;go_enter Try.func77,Try.ntmps77
  go_wp2
  go_ret
  exact ⟨by first|rfl|(simp;done)|(simp [*];done),by repeat (first|exact Drawn0.refl _|apply Drawn0.step)⟩

/-! ### laws_szDepend: function 55 -/
def laws_szDepend.f (l0_0:List Int) (l0_1:List Int) (a1:Int):Option (Int):=(laws_szIntS.f l0_0 a1).bind fun t261=>(if t261 < 0 then (some (-1)) else ((laws_szIntS.f l0_1 t261).bind fun t262=>(if t262 < 0 then (some (-1)) else (some t262))))
set_option maxHeartbeats 8000000 in
set_option maxRecDepth 100000 in
theorem laws_szDepend.calls (A0_0:Option Addr) (c0_0:Nat) (l0_0:List Int) (A0_1:Option Addr) (c0_1:Nat) (l0_1:List Int) (a1:Int) (r:Int) (w:World) (hr0_0:Kd.C (Kd.int .i64) w A0_0 l0_0.length l0_0) (hc0_0:l0_0.length≤c0_0) (hr0_1:Kd.C (Kd.int .i64) w A0_1 l0_1.length l0_1) (hc0_1:l0_1.length≤c0_1) (h:laws_szDepend.f l0_0 l0_1 a1=some r) :
  Calls Try.prog 55 #[.agg #[.slice A0_0 l0_0.length c0_0,.slice A0_1 l0_1.length c0_1],.int .i64 a1] w fun e w'=>e=.returned (.int .i64 r)∧Below w.heap.size w w':=by
 have hu78:=Try.underlying78;have HR0_0:=qK hr0_0;have HC0_0:=qK hc0_0;clear hr0_0 hc0_0;have HR0_1:=qK hr0_1;have HC0_1:=qK hc0_1;clear hr0_1 hc0_1;have HB:=qK (Below.refl w.heap.size w);have H:((laws_szIntS.f l0_0 a1).bind fun t261=>(if t261 < 0 then (some (-1)) else ((laws_szIntS.f l0_1 t261).bind fun t262=>(if t262 < 0 then (some (-1)) else (some t262)))))=some r:=h;clear h;replace H:=Option.bind_eq_some_iff.mp H;obtain ⟨t261,A30,H⟩:=H;replace H:(if t261 < 0 then (some (-1)) else ((laws_szIntS.f l0_1 t261).bind fun t262=>(if t262 < 0 then (some (-1)) else (some t262))))=some r:=H;have A3:=qK A30;clear A30;by_cases c4:t261 < 0
 ·rw [if_pos c4] at H;have c4b0:decide (t261 < 0)=true:=decide_eq_true c4;clear c4;obtain rfl:=Option.some.inj H;go_enter Try.func55,Try.ntmps55
  go_wp2_with (first|((with_reducible refine gate_dst (N:=2) rfl ?_);refine box_event ?hg (N:=2) ?hd (cs:=#[.slice A0_0 l0_0.length c0_0,.slice A0_1 l0_1.length c0_1]) (t:=78) ?hr ?_;(case hd=>rfl);(case hg=>rfl);(case hr=>(go_simp;try rfl));intro gb260 hg w5 hbox hb;have n0_:=qK (qT (by repeat (with_reducible first|exact HB.out|apply qA|apply qD|apply qO)) hb);have n1_:=qK (hbox);have n2_:=qK ((by rw [hg];exact (qZ (by repeat (with_reducible first|exact HB.out|apply qA|apply qD|apply qO))):w.heap.size≤gb260));have n3_:=qK ((by rw [hg];exact (qZ (by repeat (with_reducible first|exact HB.out|apply qA|apply qD|apply qO))):w.heap.size≤gb260));clear HB;have HB:=n0_;have BK260:=n1_;have GW260:=n2_;have GE260:=n3_;clear n0_ n1_ n2_ n3_;clear hb hbox hg;have hcz6_0:w5.cell? ⟨gb260,0,none⟩=some (.slice A0_0 l0_0.length c0_0):=(qC BK260.out 0).trans rfl;have hcz6_1:w5.cell? ⟨gb260,1,none⟩=some (.slice A0_1 l0_1.length c0_1):=(qC BK260.out 1).trans rfl;have hfz6_0:=qF BK260.out 0;have hfz6_1:=qF BK260.out 1)|((with_reducible refine gate_callee (f:=77) rfl ?_);refine goesL_ (some 8) rfl rfl Try.func77 (by kernel_rfl) rfl #[.slice A0_0 l0_0.length c0_0,.int .i64 a1] rfl (by (try simp only [mT,mC,mN]);first|done|rfl|(simp only [lD,lT];rfl)) ?_;(with_reducible refine (laws_szIntS.calls _ _ l0_0 a1 t261 _ ?side1 ?side2 A3.out).mono ?_);(case side1=>repeat (first|exact (cB HR0_0.out HB.out)|(with_reducible first|refine cL ?_ _|refine cN ?_ _|refine cW ?_)));(case side2=>exact HC0_0.out);rintro e w' ⟨rfl,⟨nd,rfl⟩⟩;refine ⟨_,rfl,?_⟩))
  go_ret
  exact ⟨by first|rfl|(simp [errW_none,errW_some] <;> rfl)|(simp [*,errW_none,errW_some] <;> rfl),by repeat (first|(with_reducible first|exact HB.out|apply qA|apply qD|apply qO|refine qS ?_ GE260.out)|exact HB.out)⟩
 ·rw [if_neg c4] at H;have c4b0:decide (t261 < 0)=false:=decide_eq_false c4;clear c4;replace H:=Option.bind_eq_some_iff.mp H;obtain ⟨t262,A70,H⟩:=H;replace H:(if t262 < 0 then (some (-1)) else (some t262))=some r:=H;have A7:=qK A70;clear A70;by_cases c8:t262 < 0
  ·rw [if_pos c8] at H;have c8b0:decide (t262 < 0)=true:=decide_eq_true c8;clear c8;obtain rfl:=Option.some.inj H;go_enter Try.func55,Try.ntmps55
   go_wp2_with (first|((with_reducible refine gate_dst (N:=2) rfl ?_);refine box_event ?hg (N:=2) ?hd (cs:=#[.slice A0_0 l0_0.length c0_0,.slice A0_1 l0_1.length c0_1]) (t:=78) ?hr ?_;(case hd=>rfl);(case hg=>rfl);(case hr=>(go_simp;try rfl));intro gb260 hg w9 hbox hb;have n0_:=qK (qT (by repeat (with_reducible first|exact HB.out|apply qA|apply qD|apply qO)) hb);have n1_:=qK (hbox);have n2_:=qK ((by rw [hg];exact (qZ (by repeat (with_reducible first|exact HB.out|apply qA|apply qD|apply qO))):w.heap.size≤gb260));have n3_:=qK ((by rw [hg];exact (qZ (by repeat (with_reducible first|exact HB.out|apply qA|apply qD|apply qO))):w.heap.size≤gb260));clear HB;have HB:=n0_;have BK260:=n1_;have GW260:=n2_;have GE260:=n3_;clear n0_ n1_ n2_ n3_;clear hb hbox hg;have hcz10_0:w9.cell? ⟨gb260,0,none⟩=some (.slice A0_0 l0_0.length c0_0):=(qC BK260.out 0).trans rfl;have hcz10_1:w9.cell? ⟨gb260,1,none⟩=some (.slice A0_1 l0_1.length c0_1):=(qC BK260.out 1).trans rfl;have hfz10_0:=qF BK260.out 0;have hfz10_1:=qF BK260.out 1)|((with_reducible refine gate_callee (f:=77) rfl ?_);refine goesL_ (some 8) rfl rfl Try.func77 (by kernel_rfl) rfl #[.slice A0_0 l0_0.length c0_0,.int .i64 a1] rfl (by (try simp only [mT,mC,mN]);first|done|rfl|(simp only [lD,lT];rfl)) ?_;(with_reducible refine (laws_szIntS.calls _ _ l0_0 a1 t261 _ ?side1 ?side2 A3.out).mono ?_);(case side1=>repeat (first|exact (cB HR0_0.out HB.out)|(with_reducible first|refine cL ?_ _|refine cN ?_ _|refine cW ?_)));(case side2=>exact HC0_0.out);rintro e w' ⟨rfl,⟨nd,rfl⟩⟩;refine ⟨_,rfl,?_⟩)|((with_reducible refine gate_callee (f:=77) rfl ?_);refine goesL_ (some 14) rfl rfl Try.func77 (by kernel_rfl) rfl #[.slice A0_1 l0_1.length c0_1,.int .i64 t261] rfl (by (try simp only [mT,mC,mN]);first|done|rfl|(simp only [lD,lT];rfl)) ?_;(with_reducible refine (laws_szIntS.calls _ _ l0_1 t261 t262 _ ?side1 ?side2 A7.out).mono ?_);(case side1=>repeat (first|exact (cB HR0_1.out (by repeat (with_reducible first|exact HB.out|apply qA|apply qD|apply qO|refine qS ?_ GE260.out)))|(with_reducible first|refine cL ?_ _|refine cN ?_ _|refine cW ?_)));(case side2=>exact HC0_1.out);rintro e w' ⟨rfl,⟨nd,rfl⟩⟩;refine ⟨_,rfl,?_⟩))
   go_ret
   exact ⟨by first|rfl|(simp [errW_none,errW_some] <;> rfl)|(simp [*,errW_none,errW_some] <;> rfl),by repeat (first|(with_reducible first|exact HB.out|apply qA|apply qD|apply qO|refine qS ?_ GE260.out)|exact HB.out)⟩
  ·rw [if_neg c8] at H;have c8b0:decide (t262 < 0)=false:=decide_eq_false c8;clear c8;obtain rfl:=Option.some.inj H;go_enter Try.func55,Try.ntmps55
   go_wp2_with (first|((with_reducible refine gate_dst (N:=2) rfl ?_);refine box_event ?hg (N:=2) ?hd (cs:=#[.slice A0_0 l0_0.length c0_0,.slice A0_1 l0_1.length c0_1]) (t:=78) ?hr ?_;(case hd=>rfl);(case hg=>rfl);(case hr=>(go_simp;try rfl));intro gb260 hg w11 hbox hb;have n0_:=qK (qT (by repeat (with_reducible first|exact HB.out|apply qA|apply qD|apply qO)) hb);have n1_:=qK (hbox);have n2_:=qK ((by rw [hg];exact (qZ (by repeat (with_reducible first|exact HB.out|apply qA|apply qD|apply qO))):w.heap.size≤gb260));have n3_:=qK ((by rw [hg];exact (qZ (by repeat (with_reducible first|exact HB.out|apply qA|apply qD|apply qO))):w.heap.size≤gb260));clear HB;have HB:=n0_;have BK260:=n1_;have GW260:=n2_;have GE260:=n3_;clear n0_ n1_ n2_ n3_;clear hb hbox hg;have hcz12_0:w11.cell? ⟨gb260,0,none⟩=some (.slice A0_0 l0_0.length c0_0):=(qC BK260.out 0).trans rfl;have hcz12_1:w11.cell? ⟨gb260,1,none⟩=some (.slice A0_1 l0_1.length c0_1):=(qC BK260.out 1).trans rfl;have hfz12_0:=qF BK260.out 0;have hfz12_1:=qF BK260.out 1)|((with_reducible refine gate_callee (f:=77) rfl ?_);refine goesL_ (some 8) rfl rfl Try.func77 (by kernel_rfl) rfl #[.slice A0_0 l0_0.length c0_0,.int .i64 a1] rfl (by (try simp only [mT,mC,mN]);first|done|rfl|(simp only [lD,lT];rfl)) ?_;(with_reducible refine (laws_szIntS.calls _ _ l0_0 a1 t261 _ ?side1 ?side2 A3.out).mono ?_);(case side1=>repeat (first|exact (cB HR0_0.out HB.out)|(with_reducible first|refine cL ?_ _|refine cN ?_ _|refine cW ?_)));(case side2=>exact HC0_0.out);rintro e w' ⟨rfl,⟨nd,rfl⟩⟩;refine ⟨_,rfl,?_⟩)|((with_reducible refine gate_callee (f:=77) rfl ?_);refine goesL_ (some 14) rfl rfl Try.func77 (by kernel_rfl) rfl #[.slice A0_1 l0_1.length c0_1,.int .i64 t261] rfl (by (try simp only [mT,mC,mN]);first|done|rfl|(simp only [lD,lT];rfl)) ?_;(with_reducible refine (laws_szIntS.calls _ _ l0_1 t261 t262 _ ?side1 ?side2 A7.out).mono ?_);(case side1=>repeat (first|exact (cB HR0_1.out (by repeat (with_reducible first|exact HB.out|apply qA|apply qD|apply qO|refine qS ?_ GE260.out)))|(with_reducible first|refine cL ?_ _|refine cN ?_ _|refine cW ?_)));(case side2=>exact HC0_1.out);rintro e w' ⟨rfl,⟨nd,rfl⟩⟩;refine ⟨_,rfl,?_⟩))
   go_ret
   exact ⟨by first|rfl|(simp [errW_none,errW_some] <;> rfl)|(simp [*,errW_none,errW_some] <;> rfl),by repeat (first|(with_reducible first|exact HB.out|apply qA|apply qD|apply qO|refine qS ?_ GE260.out)|exact HB.out)⟩

end Go.Proofs.Ytchbcdafomhlaaa.PFnExactKeysOf
