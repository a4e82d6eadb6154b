/-
  A text of this claim's own, printed by a program of the session (wip/tools/xprint.py): functions of the program as Lean functions, each with what its call comes to.
-/
import Derived.Test.YtboligpcbndkjaaPFnExactEarsOfx0
import Derived.Test.YtboligpcbndkjaaPFnExactEarsOfx5
namespace Go.Proofs.Ytboligpcbndkjaa.PFnExactEarsOf
open Go.Proofs.YtboligpcbndkjaaW.PrintWords renaming pw_below_drewN → qD, blk_cell → qC, below_drew1 → qO, below_alloc → qA, blk_frozen → qF, below_set → qS, blk_drewN → qN, blk_alloc → qL, blk_drew → qW, below_size → qZ, below_step → qT, blk_below → qB, blk_far → qR, blk_put → qP
open Go.Proofs.YtboligpcbndkjaaW.PrintWords.Aside0 renaming mk → qK
open Bool renaming true → Y, false → Z
open List renaming setIfInBounds_toArray → sIb, set_cons_zero → sZ, set_cons_succ → sS, map_toArray → mT, map_cons → mC, map_nil → mN, length_drop → lD, length_take → lT
open Go.Proofs.YtboligpcbndkjaaW.PrintWords.Kd renaming C_alloc → cL, C_drewN → cN, C_drew → cW, C_below → cB, R_alloc → rL, R_drewN → rN, R_drew → rW, R_below → rB
open Go.RowKit Go.Proofs.YtboligpcbndkjaaW.PrintWords Go.Proofs.YtboligpcbndkjaaW.PrintLast Go.Proofs.YtboligpcbndkjaaW.PrintMore
attribute [local go_sem] max2_int min2_int max_two min_two max_three min_three max_four min_four   -- for this text's walks alone
set_option linter.unusedVariables false
set_option linter.unusedSimpArgs false

/-! ### impl_upOf: function 194 -/
mutual
def impl_upOf.l0 : Nat→List Int→Int→List Int→Int→List Int→Int→Int→Option (Int × Bool)
 | 0,_,_,_,_,_,_,_=>none
 | k + 1,x0,x1,x2,x8,x13,x14,x15=>if x15 < x14 then (if 0≤x15 then (if x15 < (x13.length:Int) then (if (rd x13 x15)=x1 then (impl_upOf.l0 k x0 x1 x2 x8 x13 x14 (wrap64 (x15 + 1))) else (if 0≤(rd x13 x15) then (if (rd x13 x15) < (x0.length:Int) then (impl_upOf.l0 k x0 x1 x2 (Go.bits .or .i64 x8 (rd x0 (rd x13 x15))) x13 x14 (wrap64 (x15 + 1))) else (none)) else (none))) else (none)) else (none)) else (impl_upOf.l1 k x0 x1 x8 x2 (x2.length:Int) 0)
def impl_upOf.l1 : Nat→List Int→Int→Int→List Int→Int→Int→Option (Int × Bool)
 | 0,_,_,_,_,_,_=>none
 | k + 1,x0,x1,x8,x29,x30,x31=>if x31 < x30 then (if 0≤x31 then (if x31 < (x29.length:Int) then (if (rd x29 x31)=x1 then (impl_upOf.l1 k x0 x1 x8 x29 x30 (wrap64 (x31 + 1))) else (if 0≤(rd x29 x31) then (if (rd x29 x31) < (x0.length:Int) then (if 0≤x1 then (if x1 < (x0.length:Int) then ((impl_set_has.f (rd x0 (rd x29 x31)) (Go.bits .and .i64 (rd x0 x1) x8)).bind fun t325=>(if t325=true then (some (rd x29 x31,true)) else (impl_upOf.l1 k x0 x1 x8 x29 x30 (wrap64 (x31 + 1))))) else (none)) else (none)) else (none)) else (none))) else (none)) else (none)) else (some (0,false))
end
def impl_upOf.f (k:Nat) (l0:List Int) (a1:Int) (l2:List Int):Option (Int × Bool):=impl_upOf.l0 k l0 a1 l2 0 l2 (l2.length:Int) 0
theorem impl_upOf.mono_l : ∀ k,(∀ y0 y1 y2 y3 y4 y5 y6,LeO (impl_upOf.l0 k y0 y1 y2 y3 y4 y5 y6) (impl_upOf.l0 (k + 1) y0 y1 y2 y3 y4 y5 y6))∧(∀ y0 y1 y2 y3 y4 y5,LeO (impl_upOf.l1 k y0 y1 y2 y3 y4 y5) (impl_upOf.l1 (k + 1) y0 y1 y2 y3 y4 y5))
 | 0=>⟨fun _ _ _ _ _ _ _ r h=>by simp [impl_upOf.l0] at h,fun _ _ _ _ _ _ r h=>by simp [impl_upOf.l1] at h⟩
 | k + 1=>by
  obtain ⟨ih0,ih1⟩:=impl_upOf.mono_l k;refine ⟨?_,?_⟩
  ·intro y0 y1 y2 y3 y4 y5 y6;unfold impl_upOf.l0
   repeat' first
   | (with_reducible exact ih0 _ _ _ _ _ _ _)
   | (with_reducible exact ih1 _ _ _ _ _ _)
   | (with_reducible exact LeO.refl _)
   | (with_reducible exact LeO.none _)
   | (with_reducible refine LeO.ite ?_ ?_)
   | (with_reducible refine LeO.bind ?_ (fun _=>?_))
   | exact ih0 _ _ _ _ _ _ _
   | exact ih1 _ _ _ _ _ _
   | exact LeO.none _
   | refine LeO.ite ?_ ?_
   | refine LeO.bind ?_ (fun _=>?_)
  ·intro y0 y1 y2 y3 y4 y5;unfold impl_upOf.l1
   repeat' first
   | (with_reducible exact ih0 _ _ _ _ _ _ _)
   | (with_reducible exact ih1 _ _ _ _ _ _)
   | (with_reducible exact LeO.refl _)
   | (with_reducible exact LeO.none _)
   | (with_reducible refine LeO.ite ?_ ?_)
   | (with_reducible refine LeO.bind ?_ (fun _=>?_))
   | exact ih0 _ _ _ _ _ _ _
   | exact ih1 _ _ _ _ _ _
   | exact LeO.none _
   | refine LeO.ite ?_ ?_
   | refine LeO.bind ?_ (fun _=>?_)
theorem impl_upOf.mono : ∀ a0 a1 a2 k,LeO (impl_upOf.f k a0 a1 a2) (impl_upOf.f (k + 1) a0 a1 a2):=by
 intro a0 a1 a2 k;obtain ⟨ih0,ih1⟩:=impl_upOf.mono_l k;unfold impl_upOf.f
 repeat' first
   | (with_reducible exact ih0 _ _ _ _ _ _ _)
   | (with_reducible exact ih1 _ _ _ _ _ _)
   | (with_reducible exact LeO.refl _)
   | (with_reducible exact LeO.none _)
   | (with_reducible refine LeO.ite ?_ ?_)
   | (with_reducible refine LeO.bind ?_ (fun _=>?_))
   | exact ih0 _ _ _ _ _ _ _
   | exact ih1 _ _ _ _ _ _
   | exact LeO.none _
   | refine LeO.ite ?_ ?_
   | refine LeO.bind ?_ (fun _=>?_)
set_option maxHeartbeats 8000000 in
set_option maxRecDepth 100000 in
theorem impl_upOf.calls (k:Nat) (A0:Option Addr) (c0:Nat) (l0:List Int) (a1:Int) (A2:Option Addr) (c2:Nat) (l2:List Int) (r1:Int) (r2:Bool) (w:World) (hr0:Kd.C (Kd.int .i64) w A0 l0.length l0) (hc0:l0.length≤c0) (hr2:Kd.C (Kd.int .i64) w A2 l2.length l2) (hc2:l2.length≤c2) (h:impl_upOf.f k l0 a1 l2=some (r1,r2)) :
  Calls Try.prog 194 #[.slice A0 l0.length c0,.int .i64 a1,.slice A2 l2.length c2] w fun e w'=>e=.returned (.tuple #[.int .i64 r1,.bool r2])∧Drawn0 w w':=by
 have HR0:=qK hr0;have HC0:=qK hc0;clear hr0 hc0;have HR2:=qK hr2;have HC2:=qK hc2;clear hr2 hc2;have H:(impl_upOf.l0 k l0 a1 l2 0 l2 (l2.length:Int) 0)=some (r1,r2):=h;clear h;have H':=qK H;clear H;go_enter Try.func194,Try.ntmps194
 go_wp2
 repeat (go_quiet (fail);try go_wp2)
 go_loopg [8,15] k (fun kq v8 v15 w'=>∃ (x8_1:Int) (x15_1:Int),v8=.int .i64 x8_1∧v15=.int .i64 x15_1∧Aside0 (impl_upOf.l0 kq l0 a1 l2 x8_1 l2 (l2.length:Int) x15_1=some (r1,r2))∧Aside0 (kq≤k)∧Drawn0 w w')
 case atStart=>exact ⟨(0),(0),(by first|rfl|(simp;done)|(simp [*];done)),(by first|rfl|(simp;done)|(simp [*];done)),H',⟨Nat.le_refl _⟩,by repeat (first|exact Drawn0.refl _|apply Drawn0.step)⟩
 case round =>
  clear H';try clear c1
  try clear c2
  try clear p2
  obtain ⟨x8_1,x15_1,rfl,rfl,HA,HK1,⟨m1,rfl⟩⟩:=hrel;cases gk with
  | zero=>exact absurd HA.out (by simp [impl_upOf.l0])
  | succ k1 =>
   have H:=HA.out;clear HA;simp only [impl_upOf.l0] at H;by_cases c4:x15_1 < (l2.length:Int)
   ·rw [if_pos c4] at H;have c4b0:decide (x15_1 < (l2.length:Int))=true:=decide_eq_true c4;clear c4;by_cases c5:0≤x15_1
    ·rw [if_pos c5] at H;have c5b0:decide (0≤x15_1)=true:=decide_eq_true c5;clear c5;by_cases c6:x15_1 < (l2.length:Int)
     ·rw [if_pos c6] at H;have c6b0:decide (x15_1 < (l2.length:Int))=true:=decide_eq_true c6;clear c6;by_cases c7:(rd l2 x15_1)=a1
      ·rw [if_pos c7] at H;have c7b0:((rd l2 x15_1) == a1)=true:=beq_iff_eq.mpr c7;have c7b1:((rd l2 x15_1) != a1)=false:=bne_eq_false_iff_eq.mpr c7;clear c7;have H':=qK H;clear H;have p320:0≤(x15_1:Int):=of_decide_eq_true (by first|(with_reducible assumption)|assumption);have q320:x15_1 < (l2.length:Int):=of_decide_eq_true (by first|(with_reducible assumption)|assumption);obtain ⟨ad320,e320,hx320_0⟩:=Kd.at_int HR2.out x15_1 p320 q320;cases e320
       replace p320:=eq_true p320;replace q320:=eq_true q320;go_wp2
       repeat (go_quiet (fail);try go_wp2)
       go_roundg k1
       case measure=>have:=HK1.out;omega
       case rel=>exact ⟨(x8_1),(wrap64 (x15_1 + 1)),(by first|rfl|(simp;done)|(simp [*];done)),(by first|rfl|(simp;done)|(simp [*];done)),H',⟨by have:=HK1.out;omega⟩,by repeat (first|exact Drawn0.refl _|apply Drawn0.step)⟩
      ·rw [if_neg c7] at H;have c7b0:((rd l2 x15_1) == a1)=false:=beq_eq_false_iff_ne.mpr c7;have c7b1:((rd l2 x15_1) != a1)=true:=bne_iff_ne.mpr c7;by_cases c8:0≤(rd l2 x15_1)
       ·rw [if_pos c8] at H;have c8b0:decide (0≤(rd l2 x15_1))=true:=decide_eq_true c8;clear c8;by_cases c9:(rd l2 x15_1) < (l0.length:Int)
        ·rw [if_pos c9] at H;have c9b0:decide ((rd l2 x15_1) < (l0.length:Int))=true:=decide_eq_true c9;clear c9;have H':=qK H;clear H;have p320:0≤(x15_1:Int):=of_decide_eq_true (by first|(with_reducible assumption)|assumption);have q320:x15_1 < (l2.length:Int):=of_decide_eq_true (by first|(with_reducible assumption)|assumption);obtain ⟨ad320,e320,hx320_0⟩:=Kd.at_int HR2.out x15_1 p320 q320;cases e320
         replace p320:=eq_true p320;replace q320:=eq_true q320;have p321:0≤((rd l2 x15_1):Int):=of_decide_eq_true (by first|(with_reducible assumption)|assumption);have q321:(rd l2 x15_1) < (l0.length:Int):=of_decide_eq_true (by first|(with_reducible assumption)|assumption);obtain ⟨ad321,e321,hx321_0⟩:=Kd.at_int HR0.out (rd l2 x15_1) p321 q321;cases e321
         replace p321:=eq_true p321;replace q321:=eq_true q321;go_wp2
         repeat (go_quiet (fail);try go_wp2)
         go_roundg k1
         case measure=>have:=HK1.out;omega
         case rel=>exact ⟨(Go.bits .or .i64 x8_1 (rd l0 (rd l2 x15_1))),(wrap64 (x15_1 + 1)),(by first|rfl|(simp;done)|(simp [*];done)),(by first|rfl|(simp;done)|(simp [*];done)),H',⟨by have:=HK1.out;omega⟩,by repeat (first|exact Drawn0.refl _|apply Drawn0.step)⟩
        ·rw [if_neg c9] at H;exact absurd H (by simp)
       ·rw [if_neg c8] at H;exact absurd H (by simp)
     ·rw [if_neg c6] at H;exact absurd H (by simp)
    ·rw [if_neg c5] at H;exact absurd H (by simp)
   ·rw [if_neg c4] at H;have c4b0:decide (x15_1 < (l2.length:Int))=false:=decide_eq_false c4;clear c4;have H':=qK H;clear H;go_wp2
    repeat (go_quiet (fail);try go_wp2)
    go_loopg [31] k1 (fun kq v31 w'=>∃ (x31_2:Int),v31=.int .i64 x31_2∧Aside0 (impl_upOf.l1 kq l0 a1 x8_1 l2 (l2.length:Int) x31_2=some (r1,r2))∧Aside0 (kq≤k1)∧Drawn0 w w')
    case atStart=>exact ⟨(0),(by first|rfl|(simp;done)|(simp [*];done)),H',⟨Nat.le_refl _⟩,by repeat (first|exact Drawn0.refl _|apply Drawn0.step)⟩
    case round =>
     clear H';try clear c1
     try clear c2
     try clear p2
     try clear p3
     try clear q3
     try clear hx3
     try clear c4
     try clear c4b0
     try clear c5
     try clear c5b0
     try clear c6
     try clear c6b0
     try clear p6
     try clear c7
     try clear c7b0
     try clear c7b1
     try clear c8
     try clear c8b0
     try clear c9
     try clear c9b0
     try clear hx320_0
     try clear hx321_0
     try clear p2
     try clear p320
     try clear p321
     try clear q320
     try clear q321
     obtain ⟨x31_2,rfl,HA,HK2,⟨m2,rfl⟩⟩:=hrel;cases gk with
     | zero=>exact absurd HA.out (by simp [impl_upOf.l1])
     | succ k2 =>
      have H:=HA.out;clear HA;simp only [impl_upOf.l1] at H;by_cases c10:x31_2 < (l2.length:Int)
      ·rw [if_pos c10] at H;have c10b0:decide (x31_2 < (l2.length:Int))=true:=decide_eq_true c10;clear c10;by_cases c11:0≤x31_2
       ·rw [if_pos c11] at H;have c11b0:decide (0≤x31_2)=true:=decide_eq_true c11;clear c11;by_cases c12:x31_2 < (l2.length:Int)
        ·rw [if_pos c12] at H;have c12b0:decide (x31_2 < (l2.length:Int))=true:=decide_eq_true c12;clear c12;by_cases c13:(rd l2 x31_2)=a1
         ·rw [if_pos c13] at H;have c13b0:((rd l2 x31_2) == a1)=true:=beq_iff_eq.mpr c13;have c13b1:((rd l2 x31_2) != a1)=false:=bne_eq_false_iff_eq.mpr c13;clear c13;have H':=qK H;clear H;have p322:0≤(x31_2:Int):=of_decide_eq_true (by first|(with_reducible assumption)|assumption);have q322:x31_2 < (l2.length:Int):=of_decide_eq_true (by first|(with_reducible assumption)|assumption);obtain ⟨ad322,e322,hx322_0⟩:=Kd.at_int HR2.out x31_2 p322 q322;cases e322
          replace p322:=eq_true p322;replace q322:=eq_true q322;go_wp2
          repeat (go_quiet (fail);try go_wp2)
          go_roundg k2
          case measure=>have:=HK1.out;have:=HK2.out;omega
          case rel=>exact ⟨(wrap64 (x31_2 + 1)),(by first|rfl|(simp;done)|(simp [*];done)),H',⟨by have:=HK1.out;have:=HK2.out;omega⟩,by repeat (first|exact Drawn0.refl _|apply Drawn0.step)⟩
         ·rw [if_neg c13] at H;have c13b0:((rd l2 x31_2) == a1)=false:=beq_eq_false_iff_ne.mpr c13;have c13b1:((rd l2 x31_2) != a1)=true:=bne_iff_ne.mpr c13;by_cases c14:0≤(rd l2 x31_2)
          ·rw [if_pos c14] at H;have c14b0:decide (0≤(rd l2 x31_2))=true:=decide_eq_true c14;clear c14;by_cases c15:(rd l2 x31_2) < (l0.length:Int)
           ·rw [if_pos c15] at H;have c15b0:decide ((rd l2 x31_2) < (l0.length:Int))=true:=decide_eq_true c15;clear c15;by_cases c16:0≤a1
            ·rw [if_pos c16] at H;have c16b0:decide (0≤a1)=true:=decide_eq_true c16;clear c16;by_cases c17:a1 < (l0.length:Int)
             ·rw [if_pos c17] at H;have c17b0:decide (a1 < (l0.length:Int))=true:=decide_eq_true c17;clear c17;replace H:=Option.bind_eq_some_iff.mp H;obtain ⟨t325,A180,H⟩:=H;replace H:(if t325=true then (some (rd l2 x31_2,true)) else (impl_upOf.l1 k2 l0 a1 x8_1 l2 (l2.length:Int) (wrap64 (x31_2 + 1))))=some (r1,r2):=H;have A18:=qK A180;clear A180;by_cases c19:t325=true
              ·subst c19;have H1:(some (rd l2 x31_2,true))=some (r1,r2):=by rw [if_pos rfl] at H;exact H
               clear H;have H:=H1;clear H1;simp only [Option.some.injEq,Prod.mk.injEq] at H;obtain ⟨rfl,rfl⟩:=H;have p322:0≤(x31_2:Int):=of_decide_eq_true (by first|(with_reducible assumption)|assumption);have q322:x31_2 < (l2.length:Int):=of_decide_eq_true (by first|(with_reducible assumption)|assumption);obtain ⟨ad322,e322,hx322_0⟩:=Kd.at_int HR2.out x31_2 p322 q322;cases e322
               replace p322:=eq_true p322;replace q322:=eq_true q322;have p323:0≤((rd l2 x31_2):Int):=of_decide_eq_true (by first|(with_reducible assumption)|assumption);have q323:(rd l2 x31_2) < (l0.length:Int):=of_decide_eq_true (by first|(with_reducible assumption)|assumption);obtain ⟨ad323,e323,hx323_0⟩:=Kd.at_int HR0.out (rd l2 x31_2) p323 q323;cases e323
               replace p323:=eq_true p323;replace q323:=eq_true q323;have p324:0≤(a1:Int):=of_decide_eq_true (by first|(with_reducible assumption)|assumption);have q324:a1 < (l0.length:Int):=of_decide_eq_true (by first|(with_reducible assumption)|assumption);obtain ⟨ad324,e324,hx324_0⟩:=Kd.at_int HR0.out a1 p324 q324;obtain rfl:ad323=ad324:=(by injection e324);replace p324:=eq_true p324;replace q324:=eq_true q324;go_wp2_with (first|(go_at_call 144;(with_reducible refine (impl_set_has.calls (rd l0 (rd l2 x31_2)) (Go.bits .and .i64 (rd l0 a1) x8_1) true _ A18.out).mono ?_);rintro e w' ⟨rfl,⟨nd,rfl⟩⟩;(try first|exact ⟨rfl,_,World.drewN_drewN _ _ _⟩|exact ⟨rfl,_,Eq.trans (World.drewN_drewN _ _ _) (congrArg (World.drewN _) (Nat.add_assoc _ _ _))⟩)))
               repeat (go_quiet (first|(go_at_call 144;(with_reducible refine (impl_set_has.calls (rd l0 (rd l2 x31_2)) (Go.bits .and .i64 (rd l0 a1) x8_1) true _ A18.out).mono ?_);rintro e w' ⟨rfl,⟨nd,rfl⟩⟩;(try first|exact ⟨rfl,_,World.drewN_drewN _ _ _⟩|exact ⟨rfl,_,Eq.trans (World.drewN_drewN _ _ _) (congrArg (World.drewN _) (Nat.add_assoc _ _ _))⟩)));try go_wp2_with (first|(go_at_call 144;(with_reducible refine (impl_set_has.calls (rd l0 (rd l2 x31_2)) (Go.bits .and .i64 (rd l0 a1) x8_1) true _ A18.out).mono ?_);rintro e w' ⟨rfl,⟨nd,rfl⟩⟩;(try first|exact ⟨rfl,_,World.drewN_drewN _ _ _⟩|exact ⟨rfl,_,Eq.trans (World.drewN_drewN _ _ _) (congrArg (World.drewN _) (Nat.add_assoc _ _ _))⟩))))
               go_ret2
               exact ⟨by first|rfl|(simp;done)|(simp [*];done),by repeat (first|exact Drawn0.refl _|apply Drawn0.step)⟩
              ·replace c19:=Bool.eq_false_iff.mpr c19;subst c19;have H1:(impl_upOf.l1 k2 l0 a1 x8_1 l2 (l2.length:Int) (wrap64 (x31_2 + 1)))=some (r1,r2):=by rw [if_neg (show ¬ (false=true) by decide)] at H;exact H
               clear H;have H:=H1;clear H1;have H':=qK H;clear H;have p322:0≤(x31_2:Int):=of_decide_eq_true (by first|(with_reducible assumption)|assumption);have q322:x31_2 < (l2.length:Int):=of_decide_eq_true (by first|(with_reducible assumption)|assumption);obtain ⟨ad322,e322,hx322_0⟩:=Kd.at_int HR2.out x31_2 p322 q322;cases e322
               replace p322:=eq_true p322;replace q322:=eq_true q322;have p323:0≤((rd l2 x31_2):Int):=of_decide_eq_true (by first|(with_reducible assumption)|assumption);have q323:(rd l2 x31_2) < (l0.length:Int):=of_decide_eq_true (by first|(with_reducible assumption)|assumption);obtain ⟨ad323,e323,hx323_0⟩:=Kd.at_int HR0.out (rd l2 x31_2) p323 q323;cases e323
               replace p323:=eq_true p323;replace q323:=eq_true q323;have p324:0≤(a1:Int):=of_decide_eq_true (by first|(with_reducible assumption)|assumption);have q324:a1 < (l0.length:Int):=of_decide_eq_true (by first|(with_reducible assumption)|assumption);obtain ⟨ad324,e324,hx324_0⟩:=Kd.at_int HR0.out a1 p324 q324;obtain rfl:ad323=ad324:=(by injection e324);replace p324:=eq_true p324;replace q324:=eq_true q324;go_wp2_with (first|(go_at_call 144;(with_reducible refine (impl_set_has.calls (rd l0 (rd l2 x31_2)) (Go.bits .and .i64 (rd l0 a1) x8_1) false _ A18.out).mono ?_);rintro e w' ⟨rfl,⟨nd,rfl⟩⟩;(try first|exact ⟨rfl,_,World.drewN_drewN _ _ _⟩|exact ⟨rfl,_,Eq.trans (World.drewN_drewN _ _ _) (congrArg (World.drewN _) (Nat.add_assoc _ _ _))⟩)))
               repeat (go_quiet (first|(go_at_call 144;(with_reducible refine (impl_set_has.calls (rd l0 (rd l2 x31_2)) (Go.bits .and .i64 (rd l0 a1) x8_1) false _ A18.out).mono ?_);rintro e w' ⟨rfl,⟨nd,rfl⟩⟩;(try first|exact ⟨rfl,_,World.drewN_drewN _ _ _⟩|exact ⟨rfl,_,Eq.trans (World.drewN_drewN _ _ _) (congrArg (World.drewN _) (Nat.add_assoc _ _ _))⟩)));try go_wp2_with (first|(go_at_call 144;(with_reducible refine (impl_set_has.calls (rd l0 (rd l2 x31_2)) (Go.bits .and .i64 (rd l0 a1) x8_1) false _ A18.out).mono ?_);rintro e w' ⟨rfl,⟨nd,rfl⟩⟩;(try first|exact ⟨rfl,_,World.drewN_drewN _ _ _⟩|exact ⟨rfl,_,Eq.trans (World.drewN_drewN _ _ _) (congrArg (World.drewN _) (Nat.add_assoc _ _ _))⟩))))
               go_roundg k2
               case measure=>have:=HK1.out;have:=HK2.out;omega
               case rel=>exact ⟨(wrap64 (x31_2 + 1)),(by first|rfl|(simp;done)|(simp [*];done)),H',⟨by have:=HK1.out;have:=HK2.out;omega⟩,by repeat (first|exact Drawn0.refl _|apply Drawn0.step)⟩
             ·rw [if_neg c17] at H;exact absurd H (by simp)
            ·rw [if_neg c16] at H;exact absurd H (by simp)
           ·rw [if_neg c15] at H;exact absurd H (by simp)
          ·rw [if_neg c14] at H;exact absurd H (by simp)
        ·rw [if_neg c12] at H;exact absurd H (by simp)
       ·rw [if_neg c11] at H;exact absurd H (by simp)
      ·rw [if_neg c10] at H;have c10b0:decide (x31_2 < (l2.length:Int))=false:=decide_eq_false c10;clear c10;simp only [Option.some.injEq,Prod.mk.injEq] at H;obtain ⟨rfl,rfl⟩:=H;go_wp2
       repeat (go_quiet (fail);try go_wp2)
       go_ret2
       exact ⟨by first|rfl|(simp;done)|(simp [*];done),by repeat (first|exact Drawn0.refl _|apply Drawn0.step)⟩

/-! ### impl_takeEar: function 166 -/
def impl_takeEar.l0 : Nat→List Int→List Int→List Int→Int→Int→Option (Int × Int × Bool)
 | 0,_,_,_,_,_=>none
 | k + 1,x0,x1,x10,x11,x12=>if x12 < x11 then (if 0≤x12 then (if x12 < (x10.length:Int) then ((impl_upOf.f k x0 (rd x10 x12) x1).bind fun bt328=>(if bt328.2=true then (some (rd x10 x12,bt328.1,true)) else (impl_takeEar.l0 k x0 x1 x10 x11 (wrap64 (x12 + 1))))) else (none)) else (none)) else (some (0,0,false))
def impl_takeEar.f (k:Nat) (l0:List Int) (l1:List Int):Option (Int × Int × Bool):=impl_takeEar.l0 k l0 l1 l1 (l1.length:Int) 0
theorem impl_takeEar.mono_l : ∀ k,(∀ y0 y1 y2 y3 y4,LeO (impl_takeEar.l0 k y0 y1 y2 y3 y4) (impl_takeEar.l0 (k + 1) y0 y1 y2 y3 y4))
 | 0=>fun _ _ _ _ _ r h=>by simp [impl_takeEar.l0] at h
 | k + 1=>by
  have ih0:=impl_takeEar.mono_l k
  ·intro y0 y1 y2 y3 y4;unfold impl_takeEar.l0
   repeat' first
   | (with_reducible exact ih0 _ _ _ _ _)
   | (with_reducible exact impl_upOf.mono _ _ _ _)
   | (with_reducible exact LeO.refl _)
   | (with_reducible exact LeO.none _)
   | (with_reducible refine LeO.ite ?_ ?_)
   | (with_reducible refine LeO.bind ?_ (fun _=>?_))
   | exact ih0 _ _ _ _ _
   | exact impl_upOf.mono _ _ _ _
   | exact LeO.none _
   | refine LeO.ite ?_ ?_
   | refine LeO.bind ?_ (fun _=>?_)
theorem impl_takeEar.mono : ∀ a0 a1 k,LeO (impl_takeEar.f k a0 a1) (impl_takeEar.f (k + 1) a0 a1):=by
 intro a0 a1 k;have ih0:=impl_takeEar.mono_l k;unfold impl_takeEar.f
 repeat' first
   | (with_reducible exact ih0 _ _ _ _ _)
   | (with_reducible exact impl_upOf.mono _ _ _ _)
   | (with_reducible exact LeO.refl _)
   | (with_reducible exact LeO.none _)
   | (with_reducible refine LeO.ite ?_ ?_)
   | (with_reducible refine LeO.bind ?_ (fun _=>?_))
   | exact ih0 _ _ _ _ _
   | exact impl_upOf.mono _ _ _ _
   | exact LeO.none _
   | refine LeO.ite ?_ ?_
   | refine LeO.bind ?_ (fun _=>?_)
set_option maxHeartbeats 8000000 in
set_option maxRecDepth 100000 in
theorem impl_takeEar.calls (k:Nat) (A0:Option Addr) (c0:Nat) (l0:List Int) (A1:Option Addr) (c1:Nat) (l1:List Int) (r1:Int) (r2:Int) (r3:Bool) (w:World) (hr0:Kd.C (Kd.int .i64) w A0 l0.length l0) (hc0:l0.length≤c0) (hr1:Kd.C (Kd.int .i64) w A1 l1.length l1) (hc1:l1.length≤c1) (h:impl_takeEar.f k l0 l1=some (r1,r2,r3)) :
  Calls Try.prog 166 #[.slice A0 l0.length c0,.slice A1 l1.length c1] w fun e w'=>e=.returned (.tuple #[.agg #[.int .i64 r1,.int .i64 r2],.bool r3])∧Below w.heap.size w w':=by
 have hu106:=Try.underlying106;have HR0:=qK hr0;have HC0:=qK hc0;clear hr0 hc0;have HR1:=qK hr1;have HC1:=qK hc1;clear hr1 hc1;have HB:=qK (Below.refl w.heap.size w);have H:(impl_takeEar.l0 k l0 l1 l1 (l1.length:Int) 0)=some (r1,r2,r3):=h;clear h;have H':=qK H;clear H;go_enter Try.func166,Try.ntmps166
 go_wp2_with (first|((with_reducible refine gate_dst (N:=4) rfl ?_);refine box_event ?hg (N:=4) ?hd (cs:=#[.int .i64 0,.int .i64 0]) (t:=106) ?hr ?_;(case hd=>rfl);(case hg=>rfl);(case hr=>(go_simp;try rfl));intro gb326 hg w3 hbox hb;have n0_:=qK (qT (by repeat (with_reducible first|exact HB.out|apply qA|apply qD|apply qO)) hb);have n1_:=qK (hbox);have n2_:=qK ((by rw [hg];exact (qZ (by repeat (with_reducible first|exact HB.out|apply qA|apply qD|apply qO))):w.heap.size≤gb326));have n3_:=qK ((by rw [hg];exact (qZ (by repeat (with_reducible first|exact HB.out|apply qA|apply qD|apply qO))):w.heap.size≤gb326));clear HB;have HB:=n0_;have BK326:=n1_;have GW326:=n2_;have GE326:=n3_;clear n0_ n1_ n2_ n3_;clear hb hbox hg))
 go_loopg [12] k (fun kq v12 w'=>∃ (x12_1:Int) (x327000_1:Int) (x327001_1:Int),v12=.int .i64 x12_1∧Aside0 (impl_takeEar.l0 kq l0 l1 l1 (l1.length:Int) x12_1=some (r1,r2,r3))∧Aside0 (kq≤k)∧Aside0 (w'.heap[gb326]?=some (.cells #[.int .i64 x327000_1,.int .i64 x327001_1] 106 (0,0)))∧Aside0 (Below w.heap.size w w'))
 case atStart=>exact ⟨(0),(0),(0),(by first|rfl|(simp;done)|(simp [*];done)),H',⟨Nat.le_refl _⟩,⟨by (with_reducible repeat (first|refine qN ?_ _|refine qW ?_|refine qL ?_ _));exact BK326.out⟩,⟨by repeat (first|(with_reducible first|exact HB.out|apply qA|apply qD|apply qO|refine qS ?_ GE326.out)|exact HB.out)⟩⟩
 case round =>
  clear H';try clear c1
  try clear p2
  obtain ⟨x12_1,x327000_1,x327001_1,rfl,HA,HK1,BK326,HB⟩:=hrel;cases gk with
  | zero=>exact absurd HA.out (by simp [impl_takeEar.l0])
  | succ k1 =>
   have H:=HA.out;clear HA;simp only [impl_takeEar.l0] at H;by_cases c4:x12_1 < (l1.length:Int)
   ·rw [if_pos c4] at H;have c4b0:decide (x12_1 < (l1.length:Int))=true:=decide_eq_true c4;clear c4;by_cases c5:0≤x12_1
    ·rw [if_pos c5] at H;have c5b0:decide (0≤x12_1)=true:=decide_eq_true c5;clear c5;by_cases c6:x12_1 < (l1.length:Int)
     ·rw [if_pos c6] at H;have c6b0:decide (x12_1 < (l1.length:Int))=true:=decide_eq_true c6;clear c6;replace H:=Option.bind_eq_some_iff.mp H;obtain ⟨⟨t328,t329⟩,A70,H⟩:=H;replace H:(if t329=true then (some (rd l1 x12_1,t328,true)) else (impl_takeEar.l0 k1 l0 l1 l1 (l1.length:Int) (wrap64 (x12_1 + 1))))=some (r1,r2,r3):=H;have A7:=qK A70;clear A70;by_cases c8:t329=true
      ·subst c8;have H1:(some (rd l1 x12_1,t328,true))=some (r1,r2,r3):=by rw [if_pos rfl] at H;exact H
       clear H;have H:=H1;clear H1;simp only [Option.some.injEq,Prod.mk.injEq] at H;obtain ⟨rfl,rfl,rfl⟩:=H;have p327:0≤(x12_1:Int):=of_decide_eq_true (by first|(with_reducible assumption)|assumption);have q327:x12_1 < (l1.length:Int):=of_decide_eq_true (by first|(with_reducible assumption)|assumption);obtain ⟨ad327,e327,hx327_0⟩:=Kd.at_int HR1.out x12_1 p327 q327;cases e327
       replace hx327_0:=(HB.out.cell (World.block_lt_of_cell? w _ hx327_0)).trans hx327_0;replace p327:=eq_true p327;replace q327:=eq_true q327;go_wp2_with (first|((with_reducible refine gate_callee (f:=194) rfl ?_);refine goesL_ (some 20) rfl rfl Try.func194 (by kernel_rfl) rfl #[.slice A0 l0.length c0,.int .i64 (rd l1 x12_1),.slice (some ad327) l1.length c1] rfl (by (try simp only [mT,mC,mN]);first|done|rfl|(simp only [lD,lT];rfl)) ?_;(with_reducible refine (impl_upOf.calls k1 _ _ l0 (rd l1 x12_1) _ _ l1 t328 true _ ?side1 ?side2 ?side3 ?side4 A7.out).mono ?_);(case side1=>repeat (first|exact (cB HR0.out HB.out)|(with_reducible first|refine cL ?_ _|refine cN ?_ _|refine cW ?_)));(case side2=>exact HC0.out);(case side3=>repeat (first|exact (cB HR1.out HB.out)|(with_reducible first|refine cL ?_ _|refine cN ?_ _|refine cW ?_)));(case side4=>exact HC1.out);rintro e w' ⟨rfl,⟨nd,rfl⟩⟩;refine ⟨_,rfl,?_⟩;(try (rw [drewN_self wr];generalize hq_:World.drewN wr _=wr;have n0_:Aside0 (wr.heap[gb326]?=some (.cells #[.int .i64 x327000_1,.int .i64 x327001_1] 106 (0,0))):=⟨by rw [← hq_];exact (by (with_reducible repeat (first|refine qN ?_ _|refine qW ?_|refine qL ?_ _));exact BK326.out)⟩;have n1_:Aside0 (Below w.heap.size w wr):=⟨by rw [← hq_];exact (by repeat (with_reducible first|exact HB.out|apply qA|apply qD|apply qO|refine qS ?_ GE326.out))⟩;clear BK326 HB hq_;have BK326:=n0_;have HB:=n1_;clear n0_ n1_));have hcz9_0:wr.cell? ⟨gb326,0,none⟩=some (.int .i64 x327000_1):=(qC BK326.out 0).trans rfl;have hcz9_1:wr.cell? ⟨gb326,1,none⟩=some (.int .i64 x327001_1):=(qC BK326.out 1).trans rfl;have hfz9_0:=qF BK326.out 0;have hfz9_1:=qF BK326.out 1))
       refine bodyPost_ret (results_ct rfl _ _ gb326 106 #[.int .i64 (rd l1 x12_1),.int .i64 t328] (0,0) _ rfl (by (with_reducible repeat (first|refine qN ?_ _|refine qW ?_|refine qL ?_ _));refine qP (cs:=#[.int .i64 (rd l1 x12_1),.int .i64 x327001_1]) ?_ 1 _ rfl;(with_reducible repeat (first|refine qN ?_ _|refine qW ?_|refine qL ?_ _));refine qP (cs:=#[.int .i64 x327000_1,.int .i64 x327001_1]) ?_ 0 _ rfl;(with_reducible repeat (first|refine qN ?_ _|refine qW ?_|refine qL ?_ _));exact BK326.out) Try.underlying106 rfl (by kernel_rfl)) rfl ?_;exact ⟨by first|rfl|(simp [errW_none,errW_some] <;> rfl)|(simp [*,errW_none,errW_some] <;> rfl),by repeat (first|(with_reducible first|exact HB.out|apply qA|apply qD|apply qO|refine qS ?_ GE326.out)|exact HB.out)⟩
      ·replace c8:=Bool.eq_false_iff.mpr c8;subst c8;have H1:(impl_takeEar.l0 k1 l0 l1 l1 (l1.length:Int) (wrap64 (x12_1 + 1)))=some (r1,r2,r3):=by rw [if_neg (show ¬ (false=true) by decide)] at H;exact H
       clear H;have H:=H1;clear H1;have H':=qK H;clear H;have p327:0≤(x12_1:Int):=of_decide_eq_true (by first|(with_reducible assumption)|assumption);have q327:x12_1 < (l1.length:Int):=of_decide_eq_true (by first|(with_reducible assumption)|assumption);obtain ⟨ad327,e327,hx327_0⟩:=Kd.at_int HR1.out x12_1 p327 q327;cases e327
       replace hx327_0:=(HB.out.cell (World.block_lt_of_cell? w _ hx327_0)).trans hx327_0;replace p327:=eq_true p327;replace q327:=eq_true q327;go_wp2_with (first|((with_reducible refine gate_callee (f:=194) rfl ?_);refine goesL_ (some 20) rfl rfl Try.func194 (by kernel_rfl) rfl #[.slice A0 l0.length c0,.int .i64 (rd l1 x12_1),.slice (some ad327) l1.length c1] rfl (by (try simp only [mT,mC,mN]);first|done|rfl|(simp only [lD,lT];rfl)) ?_;(with_reducible refine (impl_upOf.calls k1 _ _ l0 (rd l1 x12_1) _ _ l1 t328 false _ ?side1 ?side2 ?side3 ?side4 A7.out).mono ?_);(case side1=>repeat (first|exact (cB HR0.out HB.out)|(with_reducible first|refine cL ?_ _|refine cN ?_ _|refine cW ?_)));(case side2=>exact HC0.out);(case side3=>repeat (first|exact (cB HR1.out HB.out)|(with_reducible first|refine cL ?_ _|refine cN ?_ _|refine cW ?_)));(case side4=>exact HC1.out);rintro e w' ⟨rfl,⟨nd,rfl⟩⟩;refine ⟨_,rfl,?_⟩))
       go_roundg k1
       case measure=>have:=HK1.out;omega
       case rel=>exact ⟨(wrap64 (x12_1 + 1)),(x327000_1),(x327001_1),(by first|rfl|(simp;done)|(simp [*];done)),H',⟨by have:=HK1.out;omega⟩,⟨by (with_reducible repeat (first|refine qN ?_ _|refine qW ?_|refine qL ?_ _));exact BK326.out⟩,⟨by repeat (first|(with_reducible first|exact HB.out|apply qA|apply qD|apply qO|refine qS ?_ GE326.out)|exact HB.out)⟩⟩
     ·rw [if_neg c6] at H;exact absurd H (by simp)
    ·rw [if_neg c5] at H;exact absurd H (by simp)
   ·rw [if_neg c4] at H;have c4b0:decide (x12_1 < (l1.length:Int))=false:=decide_eq_false c4;clear c4;simp only [Option.some.injEq,Prod.mk.injEq] at H;obtain ⟨rfl,rfl,rfl⟩:=H;have hcz10_0:wr.cell? ⟨gb326,0,none⟩=some (.int .i64 x327000_1):=(qC BK326.out 0).trans rfl;have hcz10_1:wr.cell? ⟨gb326,1,none⟩=some (.int .i64 x327001_1):=(qC BK326.out 1).trans rfl;have hfz10_0:=qF BK326.out 0;have hfz10_1:=qF BK326.out 1;go_wp2
    refine bodyPost_ret (results_ct rfl _ _ gb326 106 #[.int .i64 0,.int .i64 0] (0,0) _ rfl (by (with_reducible repeat (first|refine qN ?_ _|refine qW ?_|refine qL ?_ _));refine qP (cs:=#[.int .i64 0,.int .i64 x327001_1]) ?_ 1 _ rfl;(with_reducible repeat (first|refine qN ?_ _|refine qW ?_|refine qL ?_ _));refine qP (cs:=#[.int .i64 x327000_1,.int .i64 x327001_1]) ?_ 0 _ rfl;(with_reducible repeat (first|refine qN ?_ _|refine qW ?_|refine qL ?_ _));exact BK326.out) Try.underlying106 rfl (by kernel_rfl)) rfl ?_;exact ⟨by first|rfl|(simp [errW_none,errW_some] <;> rfl)|(simp [*,errW_none,errW_some] <;> rfl),by repeat (first|(with_reducible first|exact HB.out|apply qA|apply qD|apply qO|refine qS ?_ GE326.out)|exact HB.out)⟩

-- NOT PRINTED: function 167 (slices_DeleteFunc_int_int)

/-! ### impl_ears_1: function 168 -/
def impl_ears_1.f (a0:Int) (a90_0:Int) (a90_1:Int):Option (Bool):=some (a0 == a90_0)
set_option maxHeartbeats 8000000 in
set_option maxRecDepth 100000 in
theorem impl_ears_1.calls (a0:Int) (B0:Nat) (a90_0:Int) (a90_1:Int) (r:Bool) (w:World) (hq0:w.heap[B0]?=some (.cells #[.int .i64 a90_0,.int .i64 a90_1] 106 (0,0))) (h:impl_ears_1.f a0 a90_0 a90_1=some r) :
  Calls Try.prog 168 #[.int .i64 a0,.pointer (some ⟨B0,0,none⟩)] w fun e w'=>e=.returned (.bool r)∧Drawn0 w w':=by
 have BK330:=qK hq0;clear hq0;have H:(some (a0 == a90_0))=some r:=h;clear h;obtain rfl:=Option.some.inj H;have hcz2_0:w.cell? ⟨B0,0,none⟩=some (.int .i64 a90_0):=(qC BK330.out 0).trans rfl;have hcz2_1:w.cell? ⟨B0,1,none⟩=some (.int .i64 a90_1):=(qC BK330.out 1).trans rfl;have hfz2_0:=qF BK330.out 0;have hfz2_1:=qF BK330.out 1;go_enter Try.func168,Try.ntmps168
 go_wp2
 go_ret
 exact ⟨by first|rfl|(simp;done)|(simp [*];done),by repeat (first|exact Drawn0.refl _|apply Drawn0.step)⟩

/-! ### impl_ears: function 126 -/
def delfL_ren : Go.Shelf.Ren := ⟨fun | 10 => 167 | 6 => 190 | n => n, fun | 22 => 22 | 23 => 3 | 25 => 134 | 3 => 3 | 4 => 4 | 0 => 0 | n => n, fun | n => n⟩
theorem delfL : Go.Proofs.SlLaysH.n10 Try.prog delfL_ren := {
  mixed := by kernel_rfl
  f6 := ⟨Try.f190.name, by decide, Try.func190.trans (congrArg some (by kernel_rfl))⟩
  f10 := ⟨Try.f167.name, by decide, Try.func167.trans (congrArg some (by kernel_rfl))⟩
  t0 := Try.underlying0
  a0 := Try.isAgg0
  z0 := Try.sizeOf0
  v0 := Try.zeroValue0
  t3 := Try.underlying3
  a3 := Try.isAgg3
  z3 := Try.sizeOf3
  v3 := Try.zeroValue3
  t4 := Try.underlying4
  a4 := Try.isAgg4
  z4 := Try.sizeOf4
  v4 := Try.zeroValue4
  t22 := Try.underlying22
  a22 := Try.isAgg22
  z22 := Try.sizeOf22
  v22 := Try.zeroValue22
  a23 := Try.isAgg3
  z23 := Try.sizeOf3
  t25 := Try.underlying134
  a25 := Try.isAgg134
  z25 := Try.sizeOf134
  v25 := Try.zeroValue134 }
def delEq (l : List Int) (a : Int) : Option (List Int) := if 0 < l.length then some (l.filter fun x => !(x == a)) else none
theorem delf_ears.calls (P0_ : Nat → Prop) (u : Value) (l0 : List Int) (a1 a2 : Int) (B : Nat) (r : List Int) (w0 w : World) (hB : Below w0.heap.size w0 w) (ho0 : Kd.R (Kd.int .i64) 3 w w0.heap.size P0_ u l0)
    (hq : w.heap[B]? = some (.cells #[.int .i64 a1, .int .i64 a2] 106 (0, 0))) (h : delEq l0 a1 = some r) :
    Calls Try.prog 167 #[u, .func (.func 168) #[] #[.pointer (some ⟨B, 0, none⟩)]] w fun e w' => ∃ v0_ : Value, e = .returned (v0_) ∧ Kd.R (Kd.int .i64) 3 w' w0.heap.size (fun k_ => (P0_ k_ ∨ w.heap.size ≤ k_)) v0_ r ∧ Below w0.heap.size w0 w' ∧ Kept w w' (fun k_ => P0_ k_) := by
  unfold delEq at h
  by_cases hl : 0 < l0.length
  · rw [if_pos hl] at h
    obtain rfl := Option.some.inj h
    obtain ⟨hp, hpo⟩ := predAt_box (P := Try.prog) (g := 168) (p := fun x => x == a1) hq (fun W x hW => impl_ears_1.calls x B a1 a2 (x == a1) W hW rfl)
    exact delf_R delfL (fun x => x == a1) 168 _ (enters_of Try.func168 (by kernel_rfl) rfl) Try.zeroValue3 ho0 hl hB hp (fun b hb => hpo b _ (fun e => Kd.R_ne ho0 hq (by decide) (by rw [hb, e])))
  · rw [if_neg hl] at h
    cases h
mutual
def impl_ears.l0 : Nat → List Int → List Int → Int → Int → Option ((List (S106)) × Bool)
  | 0, _, _, _, _ => none
  | k + 1, x4, x5, x13, x14 => if x14 < x13 then (if x5.length < 17592186044416 then (impl_ears.l0 k x4 (x5 ++ [x14]) x13 (wrap64 (x14 + 1))) else (none)) else (impl_ears.l1 k x4 x5 ([] : List (S106)))
def impl_ears.l1 : Nat → List Int → List Int → List (S106) → Option ((List (S106)) × Bool)
  | 0, _, _, _ => none
  | k + 1, x4, x5, x7 => if (x5.length : Int) > 1 then ((impl_takeEar.f k x4 x5).bind fun bt352 => (if bt352.2.2 = true then (if x7.length < 8796093022208 then ((delEq x5 bt352.1).bind fun t359 => (impl_ears.l1 k x4 t359 (x7 ++ [(⟨bt352.1, bt352.2.1⟩ : S106)]))) else (none)) else (some (x7, false)))) else (if 0 < (x5.length : Int) then (if x7.length < 8796093022208 then (some ((x7 ++ [(⟨rd x5 0, (-1)⟩ : S106)]), true)) else (none)) else (none))
end
def impl_ears.f (k : Nat) (l0_0 : List Int) (l0_1 : List (S97)) : Option ((List (S106)) × Bool) := (impl_edges.f k l0_0 l0_1).bind fun t342 => (impl_ears.l0 k t342 ([] : List Int) (t342.length : Int) 0)
theorem impl_ears.mono_l : ∀ k, (∀ y0 y1 y2 y3, LeO (impl_ears.l0 k y0 y1 y2 y3) (impl_ears.l0 (k + 1) y0 y1 y2 y3)) ∧ (∀ y0 y1 y2, LeO (impl_ears.l1 k y0 y1 y2) (impl_ears.l1 (k + 1) y0 y1 y2))
  | 0 => ⟨fun _ _ _ _ r h => by simp [impl_ears.l0] at h, fun _ _ _ r h => by simp [impl_ears.l1] at h⟩
  | k + 1 => by
    obtain ⟨ih0, ih1⟩ := impl_ears.mono_l k
    refine ⟨?_, ?_⟩
    · intro y0 y1 y2 y3
      unfold impl_ears.l0
      repeat' first
      | (with_reducible exact ih0 _ _ _ _)
      | (with_reducible exact ih1 _ _ _)
      | (with_reducible exact impl_edges.mono _ _ _)
      | (with_reducible exact impl_takeEar.mono _ _ _)
      | (with_reducible exact LeO.refl _)
      | (with_reducible exact LeO.none _)
      | (with_reducible refine LeO.ite ?_ ?_)
      | (with_reducible refine LeO.bind ?_ (fun _ => ?_))
      | exact ih0 _ _ _ _
      | exact ih1 _ _ _
      | exact impl_edges.mono _ _ _
      | exact impl_takeEar.mono _ _ _
      | exact LeO.none _
      | refine LeO.ite ?_ ?_
      | refine LeO.bind ?_ (fun _ => ?_)
    · intro y0 y1 y2
      unfold impl_ears.l1
      repeat' first
      | (with_reducible exact ih0 _ _ _ _)
      | (with_reducible exact ih1 _ _ _)
      | (with_reducible exact impl_edges.mono _ _ _)
      | (with_reducible exact impl_takeEar.mono _ _ _)
      | (with_reducible exact LeO.refl _)
      | (with_reducible exact LeO.none _)
      | (with_reducible refine LeO.ite ?_ ?_)
      | (with_reducible refine LeO.bind ?_ (fun _ => ?_))
      | exact ih0 _ _ _ _
      | exact ih1 _ _ _
      | exact impl_edges.mono _ _ _
      | exact impl_takeEar.mono _ _ _
      | exact LeO.none _
      | refine LeO.ite ?_ ?_
      | refine LeO.bind ?_ (fun _ => ?_)
theorem impl_ears.mono : ∀ a0 a1 k, LeO (impl_ears.f k a0 a1) (impl_ears.f (k + 1) a0 a1) := by
  intro a0 a1 k
  obtain ⟨ih0, ih1⟩ := impl_ears.mono_l k
  unfold impl_ears.f
  repeat' first
      | (with_reducible exact ih0 _ _ _ _)
      | (with_reducible exact ih1 _ _ _)
      | (with_reducible exact impl_edges.mono _ _ _)
      | (with_reducible exact impl_takeEar.mono _ _ _)
      | (with_reducible exact LeO.refl _)
      | (with_reducible exact LeO.none _)
      | (with_reducible refine LeO.ite ?_ ?_)
      | (with_reducible refine LeO.bind ?_ (fun _ => ?_))
      | exact ih0 _ _ _ _
      | exact ih1 _ _ _
      | exact impl_edges.mono _ _ _
      | exact impl_takeEar.mono _ _ _
      | exact LeO.none _
      | refine LeO.ite ?_ ?_
      | refine LeO.bind ?_ (fun _ => ?_)
set_option maxHeartbeats 8000000 in
set_option maxRecDepth 100000 in
theorem impl_ears.calls (k:Nat) (A0_0:Option Addr) (c0_0:Nat) (l0_0:List Int) (A0_1:Option Addr) (c0_1:Nat) (l0_1:List (S97)) (r1:List (S106)) (r2:Bool) (w:World) (hr0_0:Kd.C (Kd.int .i64) w A0_0 l0_0.length l0_0) (hc0_0:l0_0.length≤c0_0) (hr0_1:Kd.C k97 w A0_1 l0_1.length l0_1) (hc0_1:l0_1.length≤c0_1) (h:impl_ears.f k l0_0 l0_1=some (r1,r2)) :
  Calls Try.prog 126 #[.agg #[.slice A0_0 l0_0.length c0_0,.slice A0_1 l0_1.length c0_1]] w fun e w'=>∃ v0_:Value,e=.returned (.tuple #[v0_,.bool r2])∧Kd.R k106 106 w' w.heap.size (fun _=>True) v0_ r1∧Below w.heap.size w w':=by
 have hu32:=Try.underlying32;have hu106:=Try.underlying106;have HR0_0:=qK hr0_0;have HC0_0:=qK hc0_0;clear hr0_0 hc0_0;have HR0_1:=qK hr0_1;have HC0_1:=qK hc0_1;clear hr0_1 hc0_1;have HB:=qK (Below.refl w.heap.size w);have H:((impl_edges.f k l0_0 l0_1).bind fun t342=>(impl_ears.l0 k t342 ([]:List Int) (t342.length:Int) 0))=some (r1,r2):=h;clear h;replace H:=Option.bind_eq_some_iff.mp H;obtain ⟨t342,A20,H⟩:=H;replace H:(impl_ears.l0 k t342 ([]:List Int) (t342.length:Int) 0)=some (r1,r2):=H;have A2:=qK A20;clear A20;have H':=qK H;clear H;go_enter Try.func126,Try.ntmps126
 go_wp2_with (first|((with_reducible refine gate_dst (N:=1) rfl ?_);refine box_event ?hg (N:=1) ?hd (cs:=#[.slice A0_0 l0_0.length c0_0,.slice A0_1 l0_1.length c0_1]) (t:=32) ?hr ?_;(case hd=>rfl);(case hg=>rfl);(case hr=>(go_simp;try rfl));intro gb341 hg w3 hbox hb;have n0_:=qK (qT (by repeat (with_reducible first|exact HB.out|apply qA|apply qD|apply qO)) hb);have n1_:=qK (hbox);have n2_:=qK ((by rw [hg];exact (qZ (by repeat (with_reducible first|exact HB.out|apply qA|apply qD|apply qO))):w.heap.size≤gb341));have n3_:=qK ((by rw [hg];exact (qZ (by repeat (with_reducible first|exact HB.out|apply qA|apply qD|apply qO))):w.heap.size≤gb341));clear HB;have HB:=n0_;have BK341:=n1_;have GW341:=n2_;have GE341:=n3_;clear n0_ n1_ n2_ n3_;clear hb hbox hg;have hcz4_0:w3.cell? ⟨gb341,0,none⟩=some (.slice A0_0 l0_0.length c0_0):=(qC BK341.out 0).trans rfl;have hcz4_1:w3.cell? ⟨gb341,1,none⟩=some (.slice A0_1 l0_1.length c0_1):=(qC BK341.out 1).trans rfl;have hfz4_0:=qF BK341.out 0;have hfz4_1:=qF BK341.out 1)|((with_reducible refine gate_callee (f:=87) rfl ?_);refine goesL_ (some 11) rfl rfl Try.func87 (by kernel_rfl) rfl #[.agg #[.slice A0_0 l0_0.length c0_0,.slice A0_1 l0_1.length c0_1]] rfl (by (try simp only [mT,mC,mN]);first|done|rfl|(simp only [lD,lT];rfl)) ?_;(with_reducible refine (impl_edges.calls k _ _ l0_0 _ _ l0_1 t342 _ ?side1 ?side2 ?side3 ?side4 A2.out).mono ?_);(case side1=>repeat (first|exact (cB HR0_0.out HB.out)|(with_reducible first|refine cL ?_ _|refine cN ?_ _|refine cW ?_)));(case side2=>exact HC0_0.out);(case side3=>repeat (first|exact (cB HR0_1.out HB.out)|(with_reducible first|refine cL ?_ _|refine cN ?_ _|refine cW ?_)));(case side4=>exact HC0_1.out);rintro e w5 ⟨v343,rfl,ho0,hb⟩;refine ⟨_,rfl,?_⟩;have n0_:=qK (Kd.R_lower ho0 (qZ (by repeat (with_reducible first|exact HB.out|apply qA|apply qD|apply qO|refine qS ?_ GE341.out))));have n1_:=qK (qB (g:=gb341) (o:=_) (by (with_reducible repeat (first|refine qN ?_ _|refine qW ?_|refine qL ?_ _));exact BK341.out) hb);have n2_:=qK (qT (by repeat (with_reducible first|exact HB.out|apply qA|apply qD|apply qO|refine qS ?_ GE341.out)) hb);clear BK341;clear HB;have HO344:=n0_;have BK341:=n1_;have HB:=n2_;clear n0_ n1_ n2_;(try clear hb);(try clear ho0);obtain ⟨Ao6,co6,eo6⟩:=Kd.R_slice HO344.out;subst eo6))
 go_loopg [5,14] k (fun kq v5 v14 w'=>∃ (x5_1:List Int) (x14_1:Int),v14=.int .i64 x14_1∧Aside0 (impl_ears.l0 kq t342 x5_1 (t342.length:Int) x14_1=some (r1,r2))∧Aside0 (kq≤k)∧Aside0 (Kd.R (Kd.int .i64) 100 w' w.heap.size (fun _=>True) (.slice Ao6 t342.length co6) t342)∧Aside0 (Kd.R (Kd.int .i64) 3 w' w.heap.size (fun _=>True) v5 x5_1)∧Aside0 (w'.heap[gb341]?=some (.cells #[(.slice A0_0 l0_0.length c0_0),(.slice A0_1 l0_1.length c0_1)] 32 (0,0)))∧Aside0 (Below w.heap.size w w'))
 case atStart=>exact ⟨(([]:List Int)),(0),(by first|rfl|(simp;done)|(simp [*];done)),H',⟨Nat.le_refl _⟩,⟨by (with_reducible repeat (first|apply rL|apply rN|apply rW));exact HO344.out⟩,⟨by first|exact Kd.R_nil _ _ _ _ _|exact Kd.N_nil _ _ _ _ _|exact Kd.V_nil _ _ _ _ _|exact Kd.Q_nil _ _ _ _ _|exact Kd.S_nil _ _ _ _ _⟩,⟨by (with_reducible repeat (first|refine qN ?_ _|refine qW ?_|refine qL ?_ _));exact BK341.out⟩,⟨by repeat (first|(with_reducible first|exact HB.out|apply qA|apply qD|apply qO|refine qS ?_ GE341.out)|exact HB.out)⟩⟩
 case round =>
  clear H';try clear c1
  try clear p2
  try clear hcz4_0
  try clear hcz4_1
  try clear hfz4_0
  try clear hfz4_1
  obtain ⟨x5_1,x14_1,rfl,HA,HK1,HO_4,HO_5,BK341,HB⟩:=hrel;cases gk with
  | zero=>exact absurd HA.out (by simp [impl_ears.l0])
  | succ k1 =>
   have H:=HA.out;clear HA;simp only [impl_ears.l0] at H;by_cases c7:x14_1 < (t342.length:Int)
   ·rw [if_pos c7] at H;have c7b0:decide (x14_1 < (t342.length:Int))=true:=decide_eq_true c7;clear c7;by_cases c8:x5_1.length < 17592186044416
    ·rw [if_pos c8] at H;have LMc8:=qK c8;clear c8;obtain ⟨y345,hy345⟩:∃ y_:List Int,y_=(x5_1 ++ [x14_1]):=⟨_,rfl⟩;replace H:(impl_ears.l0 k1 t342 y345 (t342.length:Int) (wrap64 (x14_1 + 1)))=some (r1,r2):=by first|(rw [hy345];with_reducible exact H)|(have H2_:=(Option.bind_some _ _).symm.trans H;rw [hy345];with_reducible exact H2_)|(have H2_:=(Option.bind_some _ _).symm.trans H;with_reducible exact H2_)|with_reducible exact H|(rw [hy345];exact H)|exact H
     have Ny345:=qK hy345;clear hy345;have H':=qK H;clear H;go_wp2_with (first|((with_reducible refine gate_builtin (b:=.append) (xs:=#[.tmp 17,.tmp 19]) rfl ?_);at_builtin;refine Kd.R_append (Kd.int .i64) (w0:=w) w.heap.size rfl (.tmp 17) (.tmp 19) 22 3 (.int .i64 0) 8 rfl Try.underlying22 info3 rfl (by decide) (by omega) u5 x5_1 x14_1 [.int .i64 x14_1] (fun _=>True) (fun _=>False) rfl rfl ?aP (fun _ hk=>hk.elim) ?aF ?aO ?aB ?aS ?aL ?_;(case aP=>exact rfl);(case aB=>exact (by repeat (with_reducible first|exact HB.out|apply qA|apply qD|apply qO|refine qS ?_ GE341.out)));(case aF=>exact (fun _ _=>trivial));(case aO=>exact (by (with_reducible repeat (first|apply rL|apply rN|apply rW));exact HO_5.out));(case aS=>exact (qZ (by repeat (with_reducible first|exact HB.out|apply qA|apply qD|apply qO|refine qS ?_ GE341.out))));(case aL=>have:=LMc8.out;omega);intro v346 w9 ho hb hg hat;rw [← Ny345.out] at ho;have n0_:=qK (Kd.R_over' (by (with_reducible repeat (first|apply rL|apply rN|apply rW));exact HO_4.out) (Kd.R_typed (by (with_reducible repeat (first|apply rL|apply rN|apply rW));exact HO_5.out)) (by decide) hg);have n1_:=qK (blk_grown (g:=gb341) (o:=_) (by (with_reducible repeat (first|refine qN ?_ _|refine qW ?_|refine qL ?_ _));exact BK341.out) hg (Kd.R_ne HO_5.out BK341.out (by decide)));have n2_:=qK (hb);have n3_:=qK (ho);clear HO_4;clear BK341;clear HB;clear HO_5;have HO_4:=n0_;have BK341:=n1_;have HB:=n2_;have HO347:=n3_;clear n0_ n1_ n2_ n3_;clear ho hb hg hat))
     go_roundg k1
     case measure=>have:=HK1.out;omega
     case rel=>exact ⟨(y345),(wrap64 (x14_1 + 1)),(by first|rfl|(simp;done)|(simp [*];done)),H',⟨by have:=HK1.out;omega⟩,⟨by (with_reducible repeat (first|apply rL|apply rN|apply rW));exact HO_4.out⟩,⟨by (with_reducible repeat (first|apply rL|apply rN|apply rW));exact HO347.out⟩,⟨by (with_reducible repeat (first|refine qN ?_ _|refine qW ?_|refine qL ?_ _));exact BK341.out⟩,⟨by repeat (first|(with_reducible first|exact HB.out|apply qA|apply qD|apply qO|refine qS ?_ GE341.out)|exact HB.out)⟩⟩
    ·rw [if_neg c8] at H;exact absurd H (by simp)
   ·rw [if_neg c7] at H;have c7b0:decide (x14_1 < (t342.length:Int))=false:=decide_eq_false c7;clear c7;have H':=qK H;clear H;go_wp2
    go_loopg [5,7] k1 (fun kq v5 v7 w'=>∃ (x5_2:List Int) (x7_2:List (S106)),Aside0 (impl_ears.l1 kq t342 x5_2 x7_2=some (r1,r2))∧Aside0 (kq≤k1)∧Aside0 (Kd.R (Kd.int .i64) 100 w' w.heap.size (fun _=>True) (.slice Ao6 t342.length co6) t342)∧Aside0 (Kd.R (Kd.int .i64) 3 w' w.heap.size (fun _=>True) v5 x5_2)∧Aside0 (Kd.R k106 106 w' w.heap.size (fun _=>True) v7 x7_2)∧Aside0 (w'.heap[gb341]?=some (.cells #[(.slice A0_0 l0_0.length c0_0),(.slice A0_1 l0_1.length c0_1)] 32 (0,0)))∧Aside0 (Below w.heap.size w w'))
    case atStart=>exact ⟨(x5_1),(([]:List (S106))),H',⟨Nat.le_refl _⟩,⟨by (with_reducible repeat (first|apply rL|apply rN|apply rW));exact HO_4.out⟩,⟨by (with_reducible repeat (first|apply rL|apply rN|apply rW));exact HO_5.out⟩,⟨by first|exact Kd.R_nil _ _ _ _ _|exact Kd.N_nil _ _ _ _ _|exact Kd.V_nil _ _ _ _ _|exact Kd.Q_nil _ _ _ _ _|exact Kd.S_nil _ _ _ _ _⟩,⟨by (with_reducible repeat (first|refine qN ?_ _|refine qW ?_|refine qL ?_ _));exact BK341.out⟩,⟨by repeat (first|(with_reducible first|exact HB.out|apply qA|apply qD|apply qO|refine qS ?_ GE341.out)|exact HB.out)⟩⟩
    case round =>
     clear H';try clear c1
     try clear p2
     try clear p6
     try clear c7
     try clear c7b0
     try clear c8
     try clear hcz4_0
     try clear hcz4_1
     try clear hfz4_0
     try clear hfz4_1
     try clear p2
     obtain ⟨x5_2,x7_2,HA,HK2,HO_4,HO_5,HO_7,BK341,HB⟩:=hrel;cases gk with
     | zero=>exact absurd HA.out (by simp [impl_ears.l1])
     | succ k2 =>
      have H:=HA.out;clear HA;simp only [impl_ears.l1] at H;by_cases c10:(x5_2.length:Int) > 1
      ·rw [if_pos c10] at H;have c10b0:decide (1 < (x5_2.length:Int))=true:=decide_eq_true c10;have c10b1:decide (1 < x5_2.length)=true:=decide_eq_true (by omega);clear c10;replace H:=Option.bind_eq_some_iff.mp H;obtain ⟨⟨t352,t353,t354⟩,A110,H⟩:=H;replace H:(if t354=true then (if x7_2.length < 8796093022208 then ((delEq x5_2 t352).bind fun t359=>(impl_ears.l1 k2 t342 t359 (x7_2 ++ [(⟨t352,t353⟩:S106)]))) else (none)) else (some (x7_2,false)))=some (r1,r2):=H;have A11:=qK A110;clear A110;by_cases c12:t354=true
       ·subst c12;have H1:(if x7_2.length < 8796093022208 then ((delEq x5_2 t352).bind fun t359=>(impl_ears.l1 k2 t342 t359 (x7_2 ++ [(⟨t352,t353⟩:S106)]))) else (none))=some (r1,r2):=by rw [if_pos rfl] at H;exact H
        clear H;have H:=H1;clear H1;by_cases c13:x7_2.length < 8796093022208
        ·rw [if_pos c13] at H;have LMc13:=qK c13;clear c13;obtain ⟨y356,hy356⟩:∃ y_:List (S106),y_=(x7_2 ++ [(⟨t352,t353⟩:S106)]):=⟨_,rfl⟩;replace H:((delEq x5_2 t352).bind fun t359=>(impl_ears.l1 k2 t342 t359 y356))=some (r1,r2):=by first|(rw [hy356];with_reducible exact H)|(have H2_:=(Option.bind_some _ _).symm.trans H;rw [hy356];with_reducible exact H2_)|(have H2_:=(Option.bind_some _ _).symm.trans H;with_reducible exact H2_)|with_reducible exact H|(rw [hy356];exact H)|exact H
         have Ny356:=qK hy356;clear hy356;replace H:=Option.bind_eq_some_iff.mp H;obtain ⟨t359,A140,H⟩:=H;replace H:(impl_ears.l1 k2 t342 t359 y356)=some (r1,r2):=H;have A14:=qK A140;clear A140;have H':=qK H;clear H;obtain ⟨Ao15,co15,eo15⟩:=Kd.R_slice HO_5.out;subst eo15;go_wp2_with (first|((with_reducible refine gate_callee (f:=166) rfl ?_);refine goesL_ (some 28) rfl rfl Try.func166 (by kernel_rfl) rfl #[.slice Ao6 t342.length co6,.slice Ao15 x5_2.length co15] rfl (by (try simp only [mT,mC,mN]);first|done|rfl|(simp only [lD,lT];rfl)) ?_;(with_reducible refine (impl_takeEar.calls k2 _ _ t342 _ _ x5_2 t352 t353 true _ ?side1 ?side2 ?side3 ?side4 A11.out).mono ?_);(case side1=>repeat (first|exact (Kd.R_reads' HO_4.out).2.2|(with_reducible first|refine cL ?_ _|refine cN ?_ _|refine cW ?_)));(case side2=>exact (Kd.R_reads' HO_4.out).2.1);(case side3=>repeat (first|exact (Kd.R_reads' HO_5.out).2.2|(with_reducible first|refine cL ?_ _|refine cN ?_ _|refine cW ?_)));(case side4=>exact (Kd.R_reads' HO_5.out).2.1);rintro e w16 ⟨rfl,hb⟩;refine ⟨_,rfl,?_⟩;have n0_:=qK (rB (by (with_reducible repeat (first|apply rL|apply rN|apply rW));exact HO_4.out) hb);have n1_:=qK (rB (by (with_reducible repeat (first|apply rL|apply rN|apply rW));exact HO_5.out) hb);have n2_:=qK (rB (by (with_reducible repeat (first|apply rL|apply rN|apply rW));exact HO_7.out) hb);have n3_:=qK (qB (g:=gb341) (o:=_) (by (with_reducible repeat (first|refine qN ?_ _|refine qW ?_|refine qL ?_ _));exact BK341.out) hb);have n4_:=qK (qT (by repeat (with_reducible first|exact HB.out|apply qA|apply qD|apply qO|refine qS ?_ GE341.out)) hb);clear HO_4;clear HO_5;clear HO_7;clear BK341;clear HB;have HO_4:=n0_;have HO_5:=n1_;have HO_7:=n2_;have BK341:=n3_;have HB:=n4_;clear n0_ n1_ n2_ n3_ n4_;(try clear hb))|((with_reducible refine gate_dst (N:=8) rfl ?_);refine box_event ?hg (N:=8) ?hd (cs:=#[.int .i64 0,.int .i64 0]) (t:=106) ?hr ?_;(case hd=>rfl);(case hg=>rfl);(case hr=>(go_simp;try rfl));intro gb355 hg w17 hbox hb;have n0_:=qK (rB (by (with_reducible repeat (first|apply rL|apply rN|apply rW));exact HO_4.out) hb);have n1_:=qK (rB (by (with_reducible repeat (first|apply rL|apply rN|apply rW));exact HO_5.out) hb);have n2_:=qK (rB (Kd.R_elderB (by (with_reducible repeat (first|apply rL|apply rN|apply rW));exact HO_7.out) gb355 (Nat.le_of_eq hg.symm)) hb);have n3_:=qK (qB (g:=gb341) (o:=_) (by (with_reducible repeat (first|refine qN ?_ _|refine qW ?_|refine qL ?_ _));exact BK341.out) hb);have n4_:=qK (qT (by repeat (with_reducible first|exact HB.out|apply qA|apply qD|apply qO|refine qS ?_ GE341.out)) hb);have n5_:=qK (hbox);have n6_:=qK ((by rw [hg];exact (qZ (by repeat (with_reducible first|exact HB.out|apply qA|apply qD|apply qO|refine qS ?_ GE341.out))):w.heap.size≤gb355));have n7_:=qK ((by rw [hg];exact (qZ (by repeat (with_reducible first|exact HB.out|apply qA|apply qD|apply qO|refine qS ?_ GE341.out))):w.heap.size≤gb355));have n8_:=qK ((by rw [hg];exact Nat.ne_of_lt (blk_lt (g:=gb341) (o:=_) (by (with_reducible repeat (first|refine qN ?_ _|refine qW ?_|refine qL ?_ _));exact BK341.out)):gb341 ≠ gb355));have n9_:=qK ((by rw [hg];exact Nat.ne_of_gt (blk_lt (g:=gb341) (o:=_) (by (with_reducible repeat (first|refine qN ?_ _|refine qW ?_|refine qL ?_ _));exact BK341.out)):gb355 ≠ gb341));clear HO_4;clear HO_5;clear HO_7;clear BK341;clear HB;have HO_4:=n0_;have HO_5:=n1_;have HO_7:=n2_;have BK341:=n3_;have HB:=n4_;have BK355:=n5_;have GW355:=n6_;have GE355:=n7_;have NB341_355:=n8_;have NB355_341:=n9_;clear n0_ n1_ n2_ n3_ n4_ n5_ n6_ n7_ n8_ n9_;clear hb hbox hg;have hnb18:=NB355_341.out;have hnc18:=NB341_355.out;have hcz19_0:w17.cell? ⟨gb355,0,none⟩=some (.int .i64 0):=(qC BK355.out 0).trans rfl;have hcz19_1:w17.cell? ⟨gb355,1,none⟩=some (.int .i64 0):=(qC BK355.out 1).trans rfl;have hfz19_0:=qF BK355.out 0;have hfz19_1:=qF BK355.out 1)|((with_reducible refine gate_builtin (b:=.append) (xs:=#[.tmp 34,.tmp 36]) rfl ?_);at_builtin;refine Kd.R_append k106 (w0:=w) w.heap.size rfl (.tmp 34) (.tmp 36) 46 106 (.agg #[(.int .i64 0),(.int .i64 0)]) 16 rfl Try.underlying46 info106 rfl (by decide) (by omega) u7 x7_2 (⟨t352,t353⟩:S106) [.int .i64 t352,.int .i64 t353] (fun k_=>k_ ≠ gb355) (fun _=>False) rfl (by first|(go_simp;done)|(go_simp;rfl)) ?aP (fun _ hk=>hk.elim) ?aF ?aO ?aB ?aS ?aL ?_;(case aP=>exact k106_mkM _ _ _ (⟨t352,t353⟩:S106));(case aB=>exact (by repeat (with_reducible first|exact HB.out|apply qA|apply qD|apply qO|refine qS ?_ GE341.out|refine qS ?_ GE355.out)));(case aF=>exact (fun k_ hk=>Kd.freshB (g:=gb355) (o:=.cells #[.int .i64 t352,.int .i64 t353] 106 (0,0)) (by (with_reducible repeat (first|refine qN ?_ _|refine qW ?_|refine qL ?_ _));refine qP (cs:=#[.int .i64 t352,.int .i64 0]) ?_ 1 _ rfl;(with_reducible repeat (first|refine qN ?_ _|refine qW ?_|refine qL ?_ _));refine qP (cs:=#[.int .i64 0,.int .i64 0]) ?_ 0 _ rfl;(with_reducible repeat (first|refine qN ?_ _|refine qW ?_|refine qL ?_ _));exact BK355.out) k_ hk));(case aO=>exact (by (with_reducible repeat (first|apply rL|apply rN|apply rW));exact Kd.R_mono (Kd.R_far (p:=⟨gb355,1,none⟩) (Kd.R_far (p:=⟨gb355,0,none⟩) (Kd.R_mono HO_7.out (fun k_ hk=>(⟨hk,hk.2⟩:_∧k_ ≠ gb355))) (fun _ hk=>hk.2) (.int .i64 t352)) (fun _ hk=>hk.2) (.int .i64 t353)) (fun _ hk=>hk.1.2)));(case aS=>exact (qZ (by repeat (with_reducible first|exact HB.out|apply qA|apply qD|apply qO|refine qS ?_ GE341.out|refine qS ?_ GE355.out))));(case aL=>have:=LMc13.out;omega);intro v357 w20 ho hb hg hat;rw [← Ny356.out] at ho;have n0_:=qK (Kd.R_over' (by (with_reducible repeat (first|apply rL|apply rN|apply rW));exact (Kd.R_mono (Kd.R_far (p:=⟨gb355,1,none⟩) (Kd.R_far (p:=⟨gb355,0,none⟩) (Kd.R_types HO_4.out BK355.out (by decide)) (fun _ hk=>hk.2) (.int .i64 t352)) (fun _ hk=>hk.2) (.int .i64 t353)) (fun _ h_=>h_.1))) (Kd.R_typed (by (with_reducible repeat (first|apply rL|apply rN|apply rW));exact (Kd.R_mono (Kd.R_far (p:=⟨gb355,1,none⟩) (Kd.R_far (p:=⟨gb355,0,none⟩) (Kd.R_mono HO_7.out (fun k_ hk=>(⟨hk,hk.2⟩:_∧k_ ≠ gb355))) (fun _ hk=>hk.2) (.int .i64 t352)) (fun _ hk=>hk.2) (.int .i64 t353)) (fun _ h_=>h_.1)))) (by decide) hg);have n1_:=qK (Kd.R_over' (by (with_reducible repeat (first|apply rL|apply rN|apply rW));exact (Kd.R_mono (Kd.R_far (p:=⟨gb355,1,none⟩) (Kd.R_far (p:=⟨gb355,0,none⟩) (Kd.R_types HO_5.out BK355.out (by decide)) (fun _ hk=>hk.2) (.int .i64 t352)) (fun _ hk=>hk.2) (.int .i64 t353)) (fun _ h_=>h_.1))) (Kd.R_typed (by (with_reducible repeat (first|apply rL|apply rN|apply rW));exact (Kd.R_mono (Kd.R_far (p:=⟨gb355,1,none⟩) (Kd.R_far (p:=⟨gb355,0,none⟩) (Kd.R_mono HO_7.out (fun k_ hk=>(⟨hk,hk.2⟩:_∧k_ ≠ gb355))) (fun _ hk=>hk.2) (.int .i64 t352)) (fun _ hk=>hk.2) (.int .i64 t353)) (fun _ h_=>h_.1)))) (by decide) hg);have n2_:=qK (blk_grown (g:=gb341) (o:=.cells #[.slice A0_0 l0_0.length c0_0,.slice A0_1 l0_1.length c0_1] 32 (0,0)) (by (with_reducible repeat (first|refine qN ?_ _|refine qW ?_|refine qL ?_ _));refine qR ?_ NB341_355.out _;(with_reducible repeat (first|refine qN ?_ _|refine qW ?_|refine qL ?_ _));refine qR ?_ NB341_355.out _;(with_reducible repeat (first|refine qN ?_ _|refine qW ?_|refine qL ?_ _));exact BK341.out) hg (Kd.R_ne HO_7.out BK341.out (by decide)));have n3_:=qK (blk_grown (g:=gb355) (o:=.cells #[.int .i64 t352,.int .i64 t353] 106 (0,0)) (by (with_reducible repeat (first|refine qN ?_ _|refine qW ?_|refine qL ?_ _));refine qP (cs:=#[.int .i64 t352,.int .i64 0]) ?_ 1 _ rfl;(with_reducible repeat (first|refine qN ?_ _|refine qW ?_|refine qL ?_ _));refine qP (cs:=#[.int .i64 0,.int .i64 0]) ?_ 0 _ rfl;(with_reducible repeat (first|refine qN ?_ _|refine qW ?_|refine qL ?_ _));exact BK355.out) hg (Kd.R_away HO_7.out (fun _ hk=>hk.2)));have n4_:=qK (hb);have n5_:=qK (ho);clear HO_4;clear HO_5;clear BK341;clear BK355;clear HB;clear HO_7;have HO_4:=n0_;have HO_5:=n1_;have BK341:=n2_;have BK355:=n3_;have HB:=n4_;have HO358:=n5_;clear n0_ n1_ n2_ n3_ n4_ n5_;clear ho hb hg hat;have hcz21_0:w20.cell? ⟨gb355,0,none⟩=some (.int .i64 t352):=(qC BK355.out 0).trans rfl;have hcz21_1:w20.cell? ⟨gb355,1,none⟩=some (.int .i64 t353):=(qC BK355.out 1).trans rfl;have hfz21_0:=qF BK355.out 0;have hfz21_1:=qF BK355.out 1)|((with_reducible refine gate_callee (f:=167) rfl ?_);refine goesL_ (some 40) rfl rfl Try.func167 (by kernel_rfl) rfl #[.slice Ao15 x5_2.length co15,.func (.func 168) #[] #[.pointer (some ⟨gb355,0,none⟩)]] rfl (by (try simp only [mT,mC,mN]);first|done|rfl|(simp only [lD,lT];rfl)) ?_;(with_reducible refine (delf_ears.calls (fun k_=>some k_=(.slice Ao15 x5_2.length co15:Value).ownBlock) (.slice Ao15 x5_2.length co15) x5_2 t352 t353 gb355 t359 w _ ?side1 ?side2 ?sidebx A14.out).mono ?_);(case sidebx=>(with_reducible repeat (first|refine qN ?_ _|refine qW ?_|refine qL ?_ _));exact BK355.out);(case side1=>repeat (first|(with_reducible first|exact HB.out|apply qA|apply qD|apply qO|refine qS ?_ GE341.out|refine qS ?_ GE355.out)|exact HB.out));(case side2=>exact Kd.R_tight rfl HO_5.out);rintro e w22 ⟨v360,rfl,ho0,hb,hkp⟩;refine ⟨_,rfl,?_⟩;have n0_:=qK (Kd.R_mono (ok':=fun k_=>True) (Kd.R_keptB ((Kd.R_apart' HO_4.out (Kd.R_typed HO_5.out) (by decide))) hkp (fun k_ hk_ hs_=>(hk_.2) hs_)) (fun k_ hk_=>trivial));have n1_:=qK (blk_kept (by (with_reducible repeat (first|refine qN ?_ _|refine qW ?_|refine qL ?_ _));exact BK341.out) hkp (fun hs_=>(fun e_=>(Kd.R_ne HO_5.out BK341.out (by decide)) e_) hs_));have n2_:=qK (blk_kept (by (with_reducible repeat (first|refine qN ?_ _|refine qW ?_|refine qL ?_ _));exact BK355.out) hkp (fun hs_=>(fun e_=>(Kd.R_ne HO_5.out BK355.out (by decide)) e_) hs_));have n3_:=qK (Kd.R_mono (ok':=fun k_=>k_ ≠ gb355) (Kd.R_keptB ((Kd.R_apart' HO358.out (Kd.R_typed HO_5.out) (by decide))) hkp (fun k_ hk_ hs_=>(hk_.2) hs_)) (fun k_ hk_=>hk_.1.1));have n4_:=qK (Kd.R_mono (ok':=fun k_=>True) ho0 (fun k_ hk_=>trivial));have n5_:=qK (hb);clear HO_4;clear BK341;clear BK355;clear HO358;clear HB;clear HO_5;have HO_4:=n0_;have BK341:=n1_;have BK355:=n2_;have HO358:=n3_;have HO361:=n4_;have HB:=n5_;clear n0_ n1_ n2_ n3_ n4_ n5_;(try clear hb);(try clear hkp);(try clear ho0)))
         go_roundg k2
         case measure=>have:=HK1.out;have:=HK2.out;omega
         case rel=>exact ⟨(t359),(y356),H',⟨by have:=HK1.out;have:=HK2.out;omega⟩,⟨by (with_reducible repeat (first|apply rL|apply rN|apply rW));exact HO_4.out⟩,⟨by (with_reducible repeat (first|apply rL|apply rN|apply rW));exact HO361.out⟩,⟨by (with_reducible repeat (first|apply rL|apply rN|apply rW));exact Kd.R_mono HO358.out (fun _ hk=>trivial)⟩,⟨by (with_reducible repeat (first|refine qN ?_ _|refine qW ?_|refine qL ?_ _));exact BK341.out⟩,⟨by repeat (first|(with_reducible first|exact HB.out|apply qA|apply qD|apply qO|refine qS ?_ GE341.out|refine qS ?_ GE355.out)|exact HB.out)⟩⟩
        ·rw [if_neg c13] at H;exact absurd H (by simp)
       ·replace c12:=Bool.eq_false_iff.mpr c12;subst c12;have H1:(some (x7_2,false))=some (r1,r2):=by rw [if_neg (show ¬ (false=true) by decide)] at H;exact H
        clear H;have H:=H1;clear H1;simp only [Option.some.injEq,Prod.mk.injEq] at H;obtain ⟨rfl,rfl⟩:=H;obtain ⟨Ao23,co23,eo23⟩:=Kd.R_slice HO_5.out;subst eo23;go_wp2_with (first|((with_reducible refine gate_callee (f:=166) rfl ?_);refine goesL_ (some 28) rfl rfl Try.func166 (by kernel_rfl) rfl #[.slice Ao6 t342.length co6,.slice Ao23 x5_2.length co23] rfl (by (try simp only [mT,mC,mN]);first|done|rfl|(simp only [lD,lT];rfl)) ?_;(with_reducible refine (impl_takeEar.calls k2 _ _ t342 _ _ x5_2 t352 t353 false _ ?side1 ?side2 ?side3 ?side4 A11.out).mono ?_);(case side1=>repeat (first|exact (Kd.R_reads' HO_4.out).2.2|(with_reducible first|refine cL ?_ _|refine cN ?_ _|refine cW ?_)));(case side2=>exact (Kd.R_reads' HO_4.out).2.1);(case side3=>repeat (first|exact (Kd.R_reads' HO_5.out).2.2|(with_reducible first|refine cL ?_ _|refine cN ?_ _|refine cW ?_)));(case side4=>exact (Kd.R_reads' HO_5.out).2.1);rintro e w24 ⟨rfl,hb⟩;refine ⟨_,rfl,?_⟩;have n0_:=qK (rB (by (with_reducible repeat (first|apply rL|apply rN|apply rW));exact HO_4.out) hb);have n1_:=qK (rB (by (with_reducible repeat (first|apply rL|apply rN|apply rW));exact HO_5.out) hb);have n2_:=qK (rB (by (with_reducible repeat (first|apply rL|apply rN|apply rW));exact HO_7.out) hb);have n3_:=qK (qB (g:=gb341) (o:=_) (by (with_reducible repeat (first|refine qN ?_ _|refine qW ?_|refine qL ?_ _));exact BK341.out) hb);have n4_:=qK (qT (by repeat (with_reducible first|exact HB.out|apply qA|apply qD|apply qO|refine qS ?_ GE341.out)) hb);clear HO_4;clear HO_5;clear HO_7;clear BK341;clear HB;have HO_4:=n0_;have HO_5:=n1_;have HO_7:=n2_;have BK341:=n3_;have HB:=n4_;clear n0_ n1_ n2_ n3_ n4_;(try clear hb))|((with_reducible refine gate_dst (N:=8) rfl ?_);refine box_event ?hg (N:=8) ?hd (cs:=#[.int .i64 0,.int .i64 0]) (t:=106) ?hr ?_;(case hd=>rfl);(case hg=>rfl);(case hr=>(go_simp;try rfl));intro gb355 hg w25 hbox hb;have n0_:=qK (rB (by (with_reducible repeat (first|apply rL|apply rN|apply rW));exact HO_4.out) hb);have n1_:=qK (rB (by (with_reducible repeat (first|apply rL|apply rN|apply rW));exact HO_5.out) hb);have n2_:=qK (rB (Kd.R_elderB (by (with_reducible repeat (first|apply rL|apply rN|apply rW));exact HO_7.out) gb355 (Nat.le_of_eq hg.symm)) hb);have n3_:=qK (qB (g:=gb341) (o:=_) (by (with_reducible repeat (first|refine qN ?_ _|refine qW ?_|refine qL ?_ _));exact BK341.out) hb);have n4_:=qK (qT (by repeat (with_reducible first|exact HB.out|apply qA|apply qD|apply qO|refine qS ?_ GE341.out)) hb);have n5_:=qK (hbox);have n6_:=qK ((by rw [hg];exact (qZ (by repeat (with_reducible first|exact HB.out|apply qA|apply qD|apply qO|refine qS ?_ GE341.out))):w.heap.size≤gb355));have n7_:=qK ((by rw [hg];exact (qZ (by repeat (with_reducible first|exact HB.out|apply qA|apply qD|apply qO|refine qS ?_ GE341.out))):w.heap.size≤gb355));have n8_:=qK ((by rw [hg];exact Nat.ne_of_lt (blk_lt (g:=gb341) (o:=_) (by (with_reducible repeat (first|refine qN ?_ _|refine qW ?_|refine qL ?_ _));exact BK341.out)):gb341 ≠ gb355));have n9_:=qK ((by rw [hg];exact Nat.ne_of_gt (blk_lt (g:=gb341) (o:=_) (by (with_reducible repeat (first|refine qN ?_ _|refine qW ?_|refine qL ?_ _));exact BK341.out)):gb355 ≠ gb341));clear HO_4;clear HO_5;clear HO_7;clear BK341;clear HB;have HO_4:=n0_;have HO_5:=n1_;have HO_7:=n2_;have BK341:=n3_;have HB:=n4_;have BK355:=n5_;have GW355:=n6_;have GE355:=n7_;have NB341_355:=n8_;have NB355_341:=n9_;clear n0_ n1_ n2_ n3_ n4_ n5_ n6_ n7_ n8_ n9_;clear hb hbox hg;have hnb26:=NB355_341.out;have hnc26:=NB341_355.out;have hcz27_0:w25.cell? ⟨gb355,0,none⟩=some (.int .i64 0):=(qC BK355.out 0).trans rfl;have hcz27_1:w25.cell? ⟨gb355,1,none⟩=some (.int .i64 0):=(qC BK355.out 1).trans rfl;have hfz27_0:=qF BK355.out 0;have hfz27_1:=qF BK355.out 1))
        go_ret2
        exact ⟨_,by first|rfl|(simp [errW_none,errW_some] <;> rfl)|(simp [*,errW_none,errW_some] <;> rfl),by (with_reducible repeat (first|apply rL|apply rN|apply rW));exact Kd.R_mono (Kd.R_far (p:=⟨gb355,1,none⟩) (Kd.R_far (p:=⟨gb355,0,none⟩) (Kd.R_mono HO_7.out (fun k_ hk=>(⟨hk,hk.2⟩:_∧k_ ≠ gb355))) (fun _ hk=>hk.2) (.int .i64 t352)) (fun _ hk=>hk.2) (.int .i64 t353)) (fun _ hk=>trivial),by repeat (first|(with_reducible first|exact HB.out|apply qA|apply qD|apply qO|refine qS ?_ GE341.out|refine qS ?_ GE355.out)|exact HB.out)⟩
      ·rw [if_neg c10] at H;have c10b0:decide (1 < (x5_2.length:Int))=false:=decide_eq_false c10;have c10b1:decide (1 < x5_2.length)=false:=decide_eq_false (by omega);clear c10;by_cases c28:0 < (x5_2.length:Int)
       ·rw [if_pos c28] at H;have c28b0:decide (0 < (x5_2.length:Int))=true:=decide_eq_true c28;have c28b1:decide (0 < x5_2.length)=true:=decide_eq_true (by omega);clear c28;by_cases c29:x7_2.length < 8796093022208
        ·rw [if_pos c29] at H;have LMc29:=qK c29;clear c29;obtain ⟨y349,hy349⟩:∃ y_:List (S106),y_=(x7_2 ++ [(⟨rd x5_2 0,(-1)⟩:S106)]):=⟨_,rfl⟩;replace H:(some (y349,true))=some (r1,r2):=by first|(rw [hy349];with_reducible exact H)|(have H2_:=(Option.bind_some _ _).symm.trans H;rw [hy349];with_reducible exact H2_)|(have H2_:=(Option.bind_some _ _).symm.trans H;with_reducible exact H2_)|with_reducible exact H|(rw [hy349];exact H)|exact H
         have Ny349:=qK hy349;clear hy349;simp only [Option.some.injEq,Prod.mk.injEq] at H;obtain ⟨rfl,rfl⟩:=H;obtain ⟨Ao30,co30,eo30⟩:=Kd.R_slice HO_5.out;subst eo30;have p348:0≤(0:Int):=(by omega);have q348:0 < (x5_2.length:Int):=of_decide_eq_true (by first|(with_reducible assumption)|assumption);obtain ⟨ad348,e348,hx348_0⟩:=Kd.at_int (Kd.R_reads' HO_5.out).2.2 0 p348 q348;cases e348
         have qi348:(0 < x5_2.length)=True:=eq_true (by omega);(try rw [show ((0:Int)).toNat=0 from rfl] at hx348_0);(try rw [Addr.add_zero'] at hx348_0);replace p348:=eq_true p348;replace q348:=eq_true q348;go_wp2_with (first|((with_reducible refine gate_builtin (b:=.append) (xs:=#[.tmp 41,.tmp 46]) rfl ?_);at_builtin;refine Kd.R_append k106 (w0:=w) w.heap.size rfl (.tmp 41) (.tmp 46) 46 106 (.agg #[(.int .i64 0),(.int .i64 0)]) 16 rfl Try.underlying46 info106 rfl (by decide) (by omega) u7 x7_2 (⟨rd x5_2 0,(-1)⟩:S106) [.int .i64 (rd x5_2 0),.int .i64 (-1)] (fun _=>True) (fun _=>False) rfl rfl ?aP (fun _ hk=>hk.elim) ?aF ?aO ?aB ?aS ?aL ?_;(case aP=>exact k106_mkM _ _ _ (⟨rd x5_2 0,(-1)⟩:S106));(case aB=>exact (by repeat (with_reducible first|exact HB.out|apply qA|apply qD|apply qO|refine qS ?_ GE341.out)));(case aF=>exact (fun _ _=>trivial));(case aO=>exact (by (with_reducible repeat (first|apply rL|apply rN|apply rW));exact HO_7.out));(case aS=>exact (qZ (by repeat (with_reducible first|exact HB.out|apply qA|apply qD|apply qO|refine qS ?_ GE341.out))));(case aL=>have:=LMc29.out;omega);intro v350 w31 ho hb hg hat;rw [← Ny349.out] at ho;have n0_:=qK (Kd.R_over' (by (with_reducible repeat (first|apply rL|apply rN|apply rW));exact HO_4.out) (Kd.R_typed (by (with_reducible repeat (first|apply rL|apply rN|apply rW));exact HO_7.out)) (by decide) hg);have n1_:=qK (Kd.R_over' (by (with_reducible repeat (first|apply rL|apply rN|apply rW));exact HO_5.out) (Kd.R_typed (by (with_reducible repeat (first|apply rL|apply rN|apply rW));exact HO_7.out)) (by decide) hg);have n2_:=qK (blk_grown (g:=gb341) (o:=_) (by (with_reducible repeat (first|refine qN ?_ _|refine qW ?_|refine qL ?_ _));exact BK341.out) hg (Kd.R_ne HO_7.out BK341.out (by decide)));have n3_:=qK (hb);have n4_:=qK (ho);clear HO_4;clear HO_5;clear BK341;clear HB;clear HO_7;have HO_4:=n0_;have HO_5:=n1_;have BK341:=n2_;have HB:=n3_;have HO351:=n4_;clear n0_ n1_ n2_ n3_ n4_;clear ho hb hg hat))
         go_ret2
         exact ⟨_,by first|rfl|(simp [errW_none,errW_some] <;> rfl)|(simp [*,errW_none,errW_some] <;> rfl),by (with_reducible repeat (first|apply rL|apply rN|apply rW));exact HO351.out,by repeat (first|(with_reducible first|exact HB.out|apply qA|apply qD|apply qO|refine qS ?_ GE341.out)|exact HB.out)⟩
        ·rw [if_neg c29] at H;exact absurd H (by simp)
       ·rw [if_neg c28] at H;exact absurd H (by simp)

/-! ### impl_EarsOf: function 61 -/
def impl_EarsOf.f (k:Nat) (l0_0:List Int) (l0_1:List (S97)) (l1:List Int):Option ((List (S106)) × Bool × Bool):=(impl_GoodQuery.f k l0_0 l0_1 l1).bind fun t332=>(if t332=true then ((impl_ears.f k l0_0 l0_1).bind fun bt333=>(some (bt333.1,bt333.2,true))) else (some (([]:List (S106)),false,false)))
theorem impl_EarsOf.mono : ∀ a0 a1 a2 k,LeO (impl_EarsOf.f k a0 a1 a2) (impl_EarsOf.f (k + 1) a0 a1 a2):=by
 intro a0 a1 a2 k;unfold impl_EarsOf.f
 repeat' first
   | (with_reducible exact impl_GoodQuery.mono _ _ _ _)
   | (with_reducible exact impl_ears.mono _ _ _)
   | (with_reducible exact LeO.refl _)
   | (with_reducible exact LeO.none _)
   | (with_reducible refine LeO.ite ?_ ?_)
   | (with_reducible refine LeO.bind ?_ (fun _=>?_))
   | exact impl_GoodQuery.mono _ _ _ _
   | exact impl_ears.mono _ _ _
   | exact LeO.none _
   | refine LeO.ite ?_ ?_
   | refine LeO.bind ?_ (fun _=>?_)
set_option maxHeartbeats 8000000 in
set_option maxRecDepth 100000 in
theorem impl_EarsOf.calls (k:Nat) (A0_0:Option Addr) (c0_0:Nat) (l0_0:List Int) (A0_1:Option Addr) (c0_1:Nat) (l0_1:List (S97)) (A1:Option Addr) (c1:Nat) (l1:List Int) (r1:List (S106)) (r2:Bool) (r3:Bool) (w:World) (hr0_0:Kd.C (Kd.int .i64) w A0_0 l0_0.length l0_0) (hc0_0:l0_0.length≤c0_0) (hr0_1:Kd.C k97 w A0_1 l0_1.length l0_1) (hc0_1:l0_1.length≤c0_1) (hr1:Kd.C (Kd.int .i64) w A1 l1.length l1) (hc1:l1.length≤c1) (h:impl_EarsOf.f k l0_0 l0_1 l1=some (r1,r2,r3)) :
  Calls Try.prog 61 #[.agg #[.slice A0_0 l0_0.length c0_0,.slice A0_1 l0_1.length c0_1],.slice A1 l1.length c1] w fun e w'=>∃ v0_:Value,e=.returned (.tuple #[v0_,.bool r2,.bool r3])∧Kd.R k106 106 w' w.heap.size (fun _=>True) v0_ r1∧Below w.heap.size w w':=by
 have hu32:=Try.underlying32;have HR0_0:=qK hr0_0;have HC0_0:=qK hc0_0;clear hr0_0 hc0_0;have HR0_1:=qK hr0_1;have HC0_1:=qK hc0_1;clear hr0_1 hc0_1;have HR1:=qK hr1;have HC1:=qK hc1;clear hr1 hc1;have HB:=qK (Below.refl w.heap.size w);have H:((impl_GoodQuery.f k l0_0 l0_1 l1).bind fun t332=>(if t332=true then ((impl_ears.f k l0_0 l0_1).bind fun bt333=>(some (bt333.1,bt333.2,true))) else (some (([]:List (S106)),false,false))))=some (r1,r2,r3):=h;clear h;replace H:=Option.bind_eq_some_iff.mp H;obtain ⟨t332,A30,H⟩:=H;replace H:(if t332=true then ((impl_ears.f k l0_0 l0_1).bind fun bt333=>(some (bt333.1,bt333.2,true))) else (some (([]:List (S106)),false,false)))=some (r1,r2,r3):=H;have A3:=qK A30;clear A30;by_cases c4:t332=true
 ·subst c4;have H1:((impl_ears.f k l0_0 l0_1).bind fun bt333=>(some (bt333.1,bt333.2,true)))=some (r1,r2,r3):=by rw [if_pos rfl] at H;exact H
  clear H;have H:=H1;clear H1;replace H:=Option.bind_eq_some_iff.mp H;obtain ⟨⟨t333,t336⟩,A50,H⟩:=H;replace H:(some (t333,t336,true))=some (r1,r2,r3):=H;have A5:=qK A50;clear A50;simp only [Option.some.injEq,Prod.mk.injEq] at H;obtain ⟨rfl,rfl,rfl⟩:=H;go_enter Try.func61,Try.ntmps61
  go_wp2_with (first|((with_reducible refine gate_dst (N:=2) rfl ?_);refine box_event ?hg (N:=2) ?hd (cs:=#[.slice A0_0 l0_0.length c0_0,.slice A0_1 l0_1.length c0_1]) (t:=32) ?hr ?_;(case hd=>rfl);(case hg=>rfl);(case hr=>(go_simp;try rfl));intro gb331 hg w6 hbox hb;have n0_:=qK (qT (by repeat (with_reducible first|exact HB.out|apply qA|apply qD|apply qO)) hb);have n1_:=qK (hbox);have n2_:=qK ((by rw [hg];exact (qZ (by repeat (with_reducible first|exact HB.out|apply qA|apply qD|apply qO))):w.heap.size≤gb331));have n3_:=qK ((by rw [hg];exact (qZ (by repeat (with_reducible first|exact HB.out|apply qA|apply qD|apply qO))):w.heap.size≤gb331));clear HB;have HB:=n0_;have BK331:=n1_;have GW331:=n2_;have GE331:=n3_;clear n0_ n1_ n2_ n3_;clear hb hbox hg;have hcz7_0:w6.cell? ⟨gb331,0,none⟩=some (.slice A0_0 l0_0.length c0_0):=(qC BK331.out 0).trans rfl;have hcz7_1:w6.cell? ⟨gb331,1,none⟩=some (.slice A0_1 l0_1.length c0_1):=(qC BK331.out 1).trans rfl;have hfz7_0:=qF BK331.out 0;have hfz7_1:=qF BK331.out 1)|((with_reducible refine gate_callee (f:=57) rfl ?_);refine goesL_ (some 11) rfl rfl Try.func57 (by kernel_rfl) rfl #[.agg #[.slice A0_0 l0_0.length c0_0,.slice A0_1 l0_1.length c0_1],.slice A1 l1.length c1] rfl (by (try simp only [mT,mC,mN]);first|done|rfl|(simp only [lD,lT];rfl)) ?_;(with_reducible refine (impl_GoodQuery.calls k _ _ l0_0 _ _ l0_1 _ _ l1 true _ ?side1 ?side2 ?side3 ?side4 ?side5 ?side6 A3.out).mono ?_);(case side1=>repeat (first|exact (cB HR0_0.out HB.out)|(with_reducible first|refine cL ?_ _|refine cN ?_ _|refine cW ?_)));(case side2=>exact HC0_0.out);(case side3=>repeat (first|exact (cB HR0_1.out HB.out)|(with_reducible first|refine cL ?_ _|refine cN ?_ _|refine cW ?_)));(case side4=>exact HC0_1.out);(case side5=>repeat (first|exact (cB HR1.out HB.out)|(with_reducible first|refine cL ?_ _|refine cN ?_ _|refine cW ?_)));(case side6=>exact HC1.out);rintro e w8 ⟨rfl,hb⟩;refine ⟨_,rfl,?_⟩;have n0_:=qK (qB (g:=gb331) (o:=_) (by (with_reducible repeat (first|refine qN ?_ _|refine qW ?_|refine qL ?_ _));exact BK331.out) hb);have n1_:=qK (qT (by repeat (with_reducible first|exact HB.out|apply qA|apply qD|apply qO|refine qS ?_ GE331.out)) hb);clear BK331;clear HB;have BK331:=n0_;have HB:=n1_;clear n0_ n1_;(try clear hb);have hcz9_0:w8.cell? ⟨gb331,0,none⟩=some (.slice A0_0 l0_0.length c0_0):=(qC BK331.out 0).trans rfl;have hcz9_1:w8.cell? ⟨gb331,1,none⟩=some (.slice A0_1 l0_1.length c0_1):=(qC BK331.out 1).trans rfl;have hfz9_0:=qF BK331.out 0;have hfz9_1:=qF BK331.out 1)|((with_reducible refine gate_callee (f:=126) rfl ?_);refine goesL_ (some 15) rfl rfl Try.func126 (by kernel_rfl) rfl #[.agg #[.slice A0_0 l0_0.length c0_0,.slice A0_1 l0_1.length c0_1]] rfl (by (try simp only [mT,mC,mN]);first|done|rfl|(simp only [lD,lT];rfl)) ?_;(with_reducible refine (impl_ears.calls k _ _ l0_0 _ _ l0_1 t333 t336 _ ?side1 ?side2 ?side3 ?side4 A5.out).mono ?_);(case side1=>repeat (first|exact (cB HR0_0.out HB.out)|(with_reducible first|refine cL ?_ _|refine cN ?_ _|refine cW ?_)));(case side2=>exact HC0_0.out);(case side3=>repeat (first|exact (cB HR0_1.out HB.out)|(with_reducible first|refine cL ?_ _|refine cN ?_ _|refine cW ?_)));(case side4=>exact HC0_1.out);rintro e w10 ⟨v334,rfl,ho0,hb⟩;refine ⟨_,rfl,?_⟩;have n0_:=qK (Kd.R_lower ho0 (qZ (by repeat (with_reducible first|exact HB.out|apply qA|apply qD|apply qO|refine qS ?_ GE331.out))));have n1_:=qK (qB (g:=gb331) (o:=_) (by (with_reducible repeat (first|refine qN ?_ _|refine qW ?_|refine qL ?_ _));exact BK331.out) hb);have n2_:=qK (qT (by repeat (with_reducible first|exact HB.out|apply qA|apply qD|apply qO|refine qS ?_ GE331.out)) hb);clear BK331;clear HB;have HO335:=n0_;have BK331:=n1_;have HB:=n2_;clear n0_ n1_ n2_;(try clear hb);(try clear ho0)))
  go_ret3
  exact ⟨_,by first|rfl|(simp [errW_none,errW_some] <;> rfl)|(simp [*,errW_none,errW_some] <;> rfl),by (with_reducible repeat (first|apply rL|apply rN|apply rW));exact HO335.out,by repeat (first|(with_reducible first|exact HB.out|apply qA|apply qD|apply qO|refine qS ?_ GE331.out)|exact HB.out)⟩
 ·replace c4:=Bool.eq_false_iff.mpr c4;subst c4;have H1:(some (([]:List (S106)),false,false))=some (r1,r2,r3):=by rw [if_neg (show ¬ (false=true) by decide)] at H;exact H
  clear H;have H:=H1;clear H1;simp only [Option.some.injEq,Prod.mk.injEq] at H;obtain ⟨rfl,rfl,rfl⟩:=H;go_enter Try.func61,Try.ntmps61
  go_wp2_with (first|((with_reducible refine gate_dst (N:=2) rfl ?_);refine box_event ?hg (N:=2) ?hd (cs:=#[.slice A0_0 l0_0.length c0_0,.slice A0_1 l0_1.length c0_1]) (t:=32) ?hr ?_;(case hd=>rfl);(case hg=>rfl);(case hr=>(go_simp;try rfl));intro gb331 hg w11 hbox hb;have n0_:=qK (qT (by repeat (with_reducible first|exact HB.out|apply qA|apply qD|apply qO)) hb);have n1_:=qK (hbox);have n2_:=qK ((by rw [hg];exact (qZ (by repeat (with_reducible first|exact HB.out|apply qA|apply qD|apply qO))):w.heap.size≤gb331));have n3_:=qK ((by rw [hg];exact (qZ (by repeat (with_reducible first|exact HB.out|apply qA|apply qD|apply qO))):w.heap.size≤gb331));clear HB;have HB:=n0_;have BK331:=n1_;have GW331:=n2_;have GE331:=n3_;clear n0_ n1_ n2_ n3_;clear hb hbox hg;have hcz12_0:w11.cell? ⟨gb331,0,none⟩=some (.slice A0_0 l0_0.length c0_0):=(qC BK331.out 0).trans rfl;have hcz12_1:w11.cell? ⟨gb331,1,none⟩=some (.slice A0_1 l0_1.length c0_1):=(qC BK331.out 1).trans rfl;have hfz12_0:=qF BK331.out 0;have hfz12_1:=qF BK331.out 1)|((with_reducible refine gate_callee (f:=57) rfl ?_);refine goesL_ (some 11) rfl rfl Try.func57 (by kernel_rfl) rfl #[.agg #[.slice A0_0 l0_0.length c0_0,.slice A0_1 l0_1.length c0_1],.slice A1 l1.length c1] rfl (by (try simp only [mT,mC,mN]);first|done|rfl|(simp only [lD,lT];rfl)) ?_;(with_reducible refine (impl_GoodQuery.calls k _ _ l0_0 _ _ l0_1 _ _ l1 false _ ?side1 ?side2 ?side3 ?side4 ?side5 ?side6 A3.out).mono ?_);(case side1=>repeat (first|exact (cB HR0_0.out HB.out)|(with_reducible first|refine cL ?_ _|refine cN ?_ _|refine cW ?_)));(case side2=>exact HC0_0.out);(case side3=>repeat (first|exact (cB HR0_1.out HB.out)|(with_reducible first|refine cL ?_ _|refine cN ?_ _|refine cW ?_)));(case side4=>exact HC0_1.out);(case side5=>repeat (first|exact (cB HR1.out HB.out)|(with_reducible first|refine cL ?_ _|refine cN ?_ _|refine cW ?_)));(case side6=>exact HC1.out);rintro e w13 ⟨rfl,hb⟩;refine ⟨_,rfl,?_⟩;have n0_:=qK (qB (g:=gb331) (o:=_) (by (with_reducible repeat (first|refine qN ?_ _|refine qW ?_|refine qL ?_ _));exact BK331.out) hb);have n1_:=qK (qT (by repeat (with_reducible first|exact HB.out|apply qA|apply qD|apply qO|refine qS ?_ GE331.out)) hb);clear BK331;clear HB;have BK331:=n0_;have HB:=n1_;clear n0_ n1_;(try clear hb)))
  go_ret3
  exact ⟨_,by first|rfl|(simp [errW_none,errW_some] <;> rfl)|(simp [*,errW_none,errW_some] <;> rfl),by first|exact Kd.R_nil _ _ _ _ _|exact Kd.N_nil _ _ _ _ _|exact Kd.V_nil _ _ _ _ _|exact Kd.Q_nil _ _ _ _ _|exact Kd.S_nil _ _ _ _ _,by repeat (first|(with_reducible first|exact HB.out|apply qA|apply qD|apply qO|refine qS ?_ GE331.out)|exact HB.out)⟩

/-! ### laws_markEarS: function 62 -/
def laws_markEarS.l0 : Nat→List (S106)→Int→Int→Option (Int × (List (S106)))
 | 0,_,_,_=>none
 | k + 1,x0,x1,x5=>if x5 < (x0.length:Int) then (if 0≤x5 then ((some (x0.set (x5:Int).toNat (⟨x1,(rd_T106 x0 x5).f1⟩:S106):List (S106))).bind fun y337=>(laws_markEarS.l0 k (y337.set (x5:Int).toNat (⟨(rd_T106 y337 x5).f0,wrap64 (x1 + 1)⟩:S106)) (wrap64 ((wrap64 (x1 + 1)) + 1)) (wrap64 (x5 + 1)))) else (none)) else (some (x1,x0))
def laws_markEarS.f (k:Nat) (l0:List (S106)) (a1:Int):Option (Int × (List (S106))):=laws_markEarS.l0 k l0 a1 0
theorem laws_markEarS.mono_l : ∀ k,(∀ y0 y1 y2,LeO (laws_markEarS.l0 k y0 y1 y2) (laws_markEarS.l0 (k + 1) y0 y1 y2))
 | 0=>fun _ _ _ r h=>by simp [laws_markEarS.l0] at h
 | k + 1=>by
  have ih0:=laws_markEarS.mono_l k
  ·intro y0 y1 y2;unfold laws_markEarS.l0
   repeat' first
   | (with_reducible exact ih0 _ _ _)
   | (with_reducible exact LeO.refl _)
   | (with_reducible exact LeO.none _)
   | (with_reducible refine LeO.ite ?_ ?_)
   | (with_reducible refine LeO.bind ?_ (fun _=>?_))
   | exact ih0 _ _ _
   | exact LeO.none _
   | refine LeO.ite ?_ ?_
   | refine LeO.bind ?_ (fun _=>?_)
theorem laws_markEarS.mono : ∀ a0 a1 k,LeO (laws_markEarS.f k a0 a1) (laws_markEarS.f (k + 1) a0 a1):=by
 intro a0 a1 k;have ih0:=laws_markEarS.mono_l k;unfold laws_markEarS.f
 repeat' first
   | (with_reducible exact ih0 _ _ _)
   | (with_reducible exact LeO.refl _)
   | (with_reducible exact LeO.none _)
   | (with_reducible refine LeO.ite ?_ ?_)
   | (with_reducible refine LeO.bind ?_ (fun _=>?_))
   | exact ih0 _ _ _
   | exact LeO.none _
   | refine LeO.ite ?_ ?_
   | refine LeO.bind ?_ (fun _=>?_)
set_option maxHeartbeats 8000000 in
set_option maxRecDepth 100000 in
theorem laws_markEarS.calls (k:Nat) (P0_:Nat→Prop) (u9000_:Value) (l0:List (S106)) (a1:Int) (r1:Int) (r2:List (S106)) (w0 w:World) (hB:Below w0.heap.size w0 w) (ho0:Kd.R k106 106 w w0.heap.size P0_ u9000_ l0) (h:laws_markEarS.f k l0 a1=some (r1,r2)) :
  Calls Try.prog 62 #[u9000_,.int .i64 a1] w fun e w'=>e=.returned (.int .i64 r1)∧Kd.R k106 106 w' w0.heap.size (fun k_=>(P0_ k_ ∨ w.heap.size≤k_)) u9000_ r2∧Below w0.heap.size w0 w'∧Kept w w' (fun k_=>P0_ k_):=by
 have HO0:=qK (show Kd.R k106 106 w w0.heap.size (fun k_=>(P0_ k_ ∨ w.heap.size≤k_)) u9000_ l0 from Kd.R_mono ho0 (fun k_ hk=>(.inl hk)));have HK:=qK (Kept.refl w (fun k_=>P0_ k_));have HW0:=qK hB.size;have HB:=qK hB;clear hB;have H:(laws_markEarS.l0 k l0 a1 0)=some (r1,r2):=h;clear h;have H':=qK H;clear H;go_enter Try.func62,Try.ntmps62
 go_wp2
 go_loopg [1,5] k (fun kq v1 v5 w'=>∃ (x0_1:List (S106)) (x1_1:Int) (x5_1:Int),v1=.int .i64 x1_1∧v5=.int .i64 x5_1∧Aside0 (laws_markEarS.l0 kq x0_1 x1_1 x5_1=some (r1,r2))∧Aside0 (kq≤k)∧Aside0 (Kd.R k106 106 w' w0.heap.size (fun k_=>(P0_ k_ ∨ w.heap.size≤k_)) u9000_ x0_1)∧Aside0 (Kept w w' (fun k_=>P0_ k_))∧Aside0 (Below w0.heap.size w0 w'))
 case atStart=>exact ⟨(l0),(a1),(0),(by first|rfl|(simp;done)|(simp [*];done)),(by first|rfl|(simp;done)|(simp [*];done)),H',⟨Nat.le_refl _⟩,⟨by (with_reducible repeat (first|apply rL|apply rN|apply rW));exact HO0.out⟩,⟨by repeat (first|(with_reducible first|exact HK.out|apply Kept.alloc|apply Kept.drewN|apply Kept.drew)|exact HK.out)⟩,⟨by repeat (first|(with_reducible first|exact HB.out|apply qA|apply qD|apply qO)|exact HB.out)⟩⟩
 case round =>
  clear H';try clear p2
  obtain ⟨x0_1,x1_1,x5_1,rfl,rfl,HA,HK1,HO_0,HK,HB⟩:=hrel;cases gk with
  | zero=>exact absurd HA.out (by simp [laws_markEarS.l0])
  | succ k1 =>
   have H:=HA.out;clear HA;simp only [laws_markEarS.l0] at H;by_cases c3:x5_1 < (x0_1.length:Int)
   ·rw [if_pos c3] at H;have c3b0:decide (x5_1 < (x0_1.length:Int))=true:=decide_eq_true c3;clear c3;by_cases c4:0≤x5_1
    ·rw [if_pos c4] at H;have c4b0:decide (0≤x5_1)=true:=decide_eq_true c4;clear c4;obtain ⟨y337,hy337⟩:∃ y_:List (S106),y_=(x0_1.set (x5_1:Int).toNat (⟨x1_1,(rd_T106 x0_1 x5_1).f1⟩:S106)):=⟨_,rfl⟩;replace H:(laws_markEarS.l0 k1 (y337.set (x5_1:Int).toNat (⟨(rd_T106 y337 x5_1).f0,wrap64 (x1_1 + 1)⟩:S106)) (wrap64 ((wrap64 (x1_1 + 1)) + 1)) (wrap64 (x5_1 + 1)))=some (r1,r2):=by first|(rw [hy337];with_reducible exact H)|(have H2_:=(Option.bind_some _ _).symm.trans H;rw [hy337];with_reducible exact H2_)|(have H2_:=(Option.bind_some _ _).symm.trans H;with_reducible exact H2_)|with_reducible exact H|(rw [hy337];exact H)|exact H
     have Ny337:=qK hy337;clear hy337;obtain ⟨y338,hy338⟩:∃ y_:List (S106),y_=(y337.set (x5_1:Int).toNat (⟨(rd_T106 y337 x5_1).f0,wrap64 (x1_1 + 1)⟩:S106)):=⟨_,rfl⟩;replace H:(laws_markEarS.l0 k1 y338 (wrap64 ((wrap64 (x1_1 + 1)) + 1)) (wrap64 (x5_1 + 1)))=some (r1,r2):=by first|(rw [hy338];with_reducible exact H)|(have H2_:=(Option.bind_some _ _).symm.trans H;rw [hy338];with_reducible exact H2_)|(have H2_:=(Option.bind_some _ _).symm.trans H;with_reducible exact H2_)|with_reducible exact H|(rw [hy338];exact H)|exact H
     have Ny338:=qK hy338;clear hy338;have H':=qK H;clear H;obtain ⟨Ao7,co7,eo7⟩:=Kd.R_slice HO_0.out;subst eo7;have p5:0≤(x5_1:Int):=of_decide_eq_true (by first|(with_reducible assumption)|assumption);have q5:(x5_1:Int) < ((x0_1.length:Int):Int):=of_decide_eq_true (by first|(with_reducible assumption)|assumption);obtain ⟨go5,co5,eo5,gb5,gl5,cl5,HG5⟩:=Kd.R_form HO_0.out (by omega);(first|cases eo5|(injection eo5 with ea_ en_ ec_;(first|subst ea_|(injection ea_ with ea_;subst ea_));subst ec_;clear en_));have GB5:=qK gb5;have GG5:=qK HG5;clear gb5 gl5 HG5;have HMgo5:=qK (show (P0_ go5 ∨ w.heap.size≤go5) from (HO_0.out.1 _ rfl));obtain ⟨ce5,hcl5,hM5,hcc5,hfr5⟩:=Kd.R_elem HO_0.out z106 (x5_1:Int) p5 q5;obtain rfl:=k106_openM hM5;have hx5_0:wr.cell? ⟨go5,(x5_1:Int).toNat * 2,none⟩=some (.int .i64 ((rd_T106 x0_1 x5_1).f0)):=hcc5 0 _ rfl;have hx5_1:wr.cell? ⟨go5,(x5_1:Int).toNat * 2 + 1,none⟩=some (.int .i64 ((rd_T106 x0_1 x5_1).f1)):=hcc5 1 _ rfl;have hf5_0:wr.frozen? ⟨go5,(x5_1:Int).toNat * 2,none⟩=false:=hfr5 0;have hf5_1:wr.frozen? ⟨go5,(x5_1:Int).toNat * 2 + 1,none⟩=false:=hfr5 1;clear hcl5 hcc5 hfr5 hM5;replace p5:=eq_true p5;replace q5:=eq_true q5;have HX8:=qK (show Kd.R k106 106 wr w0.heap.size (fun k_=>(P0_ k_ ∨ w.heap.size≤k_)) (.slice (some ⟨go5,0,none⟩) x0_1.length co7) x0_1 from (by (with_reducible repeat (first|apply rL|apply rN|apply rW));exact HO_0.out));obtain ⟨ce8,hcl8,hM8,hcc8,hfr8⟩:=Kd.R_elem HX8.out z106 (x5_1:Int) (of_decide_eq_true (by first|(with_reducible assumption)|assumption)) (by have h_:(x5_1:Int) < ((x0_1.length:Int):Int):=of_decide_eq_true (by first|(with_reducible assumption)|assumption);first|exact h_|(have e_:=(Kd.R_reads' HO_0.out).1;omega)|simpa using h_);obtain rfl:=k106_openM hM8;have HP8:=Kd.R_seg HX8.out (x5_1:Int) (of_decide_eq_true (by first|(with_reducible assumption)|assumption)) (by have h_:(x5_1:Int) < ((x0_1.length:Int):Int):=of_decide_eq_true (by first|(with_reducible assumption)|assumption);first|exact h_|(have e_:=(Kd.R_reads' HO_0.out).1;omega)|simpa using h_) (seg:=[.int .i64 x1_1]) (j:=0) hcl8 hcc8 (show 1≤2 from by decide) (x':=(⟨x1_1,(rd_T106 x0_1 x5_1).f1⟩:S106)) (k106_mkM _ _ _ (⟨x1_1,(rd_T106 x0_1 x5_1).f1⟩:S106) ) (fun _ hk=>hk);have hx8_0:=hcc8 0 _ rfl;(try simp only [show (k106).sz=2 from rfl,Nat.mul_one,Nat.add_zero] at hx8_0);have hf8_0:=hfr8 0;(try simp only [show (k106).sz=2 from rfl,Nat.mul_one,Nat.add_zero] at hf8_0);clear hcl8 hcc8 hfr8 hM8;go_wp2_with (first|((with_reducible refine gate_store (t:=3) (p:=16) rfl ?_);refine store_event (t:=3) (p:=16) (v:=?vo_w9) (w1:=(wr.setCell ⟨go5,(x5_1:Int).toNat * 2,none⟩ (.int .i64 x1_1))) ?hg ?ho ?hn ?hr ?_;(case ho=>rfl);(case hg=>rfl);(case hn=>rfl);(case hr=>(go_simp;try rfl));intro w9 hw;have hg:wr.grownBy w9 (some go5):=(by rw [hw];exact HP8.2);have hp_:Kd.R k106 106 w9 w0.heap.size (fun k_=>(P0_ k_ ∨ w.heap.size≤k_)) (.slice (some ⟨go5,0,none⟩) x0_1.length co7) y337:=(by rw [hw,Ny337.out];exact HP8.1);clear HP8;have n0_:=qK (hp_);have n1_:=qK ((by rw [hw];exact qS (HB.out) GB5.out:Below w0.heap.size w0 w9));have n2_:=qK (Kept.of_grown (S:=(fun k_=>P0_ k_)) hg (by repeat (first|(with_reducible first|exact HK.out|apply Kept.alloc|apply Kept.drewN|apply Kept.drew)|exact HK.out)) (fun k_ e_=>(HO_0.out.1 k_ e_)));clear HO_0;clear HB;clear HK;have HO_0:=n0_;have HB:=n1_;have HK:=n2_;clear n0_ n1_ n2_;clear hg hw hp_;have p6:0≤(x5_1:Int):=of_decide_eq_true (by first|(with_reducible assumption)|assumption);have q6:(x5_1:Int) < ((x0_1.length:Int):Int):=of_decide_eq_true (by first|(with_reducible assumption)|assumption);obtain ⟨ce6,hcl6,hM6,hcc6,hfr6⟩:=Kd.R_elem HO_0.out z106 (x5_1:Int) p6 q6;obtain rfl:=k106_openM hM6;have hx6_0:w9.cell? ⟨go5,(x5_1:Int).toNat * 2,none⟩=some (.int .i64 ((rd_T106 y337 x5_1).f0)):=hcc6 0 _ rfl;have hx6_1:w9.cell? ⟨go5,(x5_1:Int).toNat * 2 + 1,none⟩=some (.int .i64 ((rd_T106 y337 x5_1).f1)):=hcc6 1 _ rfl;have hf6_0:w9.frozen? ⟨go5,(x5_1:Int).toNat * 2,none⟩=false:=hfr6 0;have hf6_1:w9.frozen? ⟨go5,(x5_1:Int).toNat * 2 + 1,none⟩=false:=hfr6 1;clear hcl6 hcc6 hfr6 hM6;replace p6:=eq_true p6;replace q6:=eq_true q6;have HX10:=qK (show Kd.R k106 106 w9 w0.heap.size (fun k_=>(P0_ k_ ∨ w.heap.size≤k_)) (.slice (some ⟨go5,0,none⟩) x0_1.length co7) y337 from (by (with_reducible repeat (first|apply rL|apply rN|apply rW));exact HO_0.out));obtain ⟨ce10,hcl10,hM10,hcc10,hfr10⟩:=Kd.R_elem HX10.out z106 (x5_1:Int) (of_decide_eq_true (by first|(with_reducible assumption)|assumption)) (by have h_:(x5_1:Int) < ((x0_1.length:Int):Int):=of_decide_eq_true (by first|(with_reducible assumption)|assumption);first|exact h_|(have e_:=(Kd.R_reads' HO_0.out).1;omega)|simpa using h_);obtain rfl:=k106_openM hM10;have HP10:=Kd.R_seg HX10.out (x5_1:Int) (of_decide_eq_true (by first|(with_reducible assumption)|assumption)) (by have h_:(x5_1:Int) < ((x0_1.length:Int):Int):=of_decide_eq_true (by first|(with_reducible assumption)|assumption);first|exact h_|(have e_:=(Kd.R_reads' HO_0.out).1;omega)|simpa using h_) (seg:=[.int .i64 (wrap64 (x1_1 + 1))]) (j:=1) hcl10 hcc10 (show 2≤2 from by decide) (x':=(⟨(rd_T106 y337 x5_1).f0,wrap64 (x1_1 + 1)⟩:S106)) (k106_mkM _ _ _ (⟨(rd_T106 y337 x5_1).f0,wrap64 (x1_1 + 1)⟩:S106) ) (fun _ hk=>hk);have hx10_1:=hcc10 1 _ rfl;(try simp only [show (k106).sz=2 from rfl,Nat.mul_one,Nat.add_zero] at hx10_1);have hf10_1:=hfr10 1;(try simp only [show (k106).sz=2 from rfl,Nat.mul_one,Nat.add_zero] at hf10_1);clear hcl10 hcc10 hfr10 hM10)|((with_reducible refine gate_store (t:=3) (p:=23) rfl ?_);refine store_event (t:=3) (p:=23) (v:=?vo_w11) (w1:=(w9.setCell ⟨go5,(x5_1:Int).toNat * 2 + 1,none⟩ (.int .i64 (wrap64 (x1_1 + 1))))) ?hg ?ho ?hn ?hr ?_;(case ho=>rfl);(case hg=>rfl);(case hn=>rfl);(case hr=>(go_simp;try rfl));intro w11 hw;have hg:w9.grownBy w11 (some go5):=(by rw [hw];exact HP10.2);have hp_:Kd.R k106 106 w11 w0.heap.size (fun k_=>(P0_ k_ ∨ w.heap.size≤k_)) (.slice (some ⟨go5,0,none⟩) x0_1.length co7) y338:=(by rw [hw,Ny338.out];exact HP10.1);clear HP10;have n0_:=qK (hp_);have n1_:=qK ((by rw [hw];exact qS (HB.out) GB5.out:Below w0.heap.size w0 w11));have n2_:=qK (Kept.of_grown (S:=(fun k_=>P0_ k_)) hg (by repeat (first|(with_reducible first|exact HK.out|apply Kept.alloc|apply Kept.drewN|apply Kept.drew)|exact HK.out)) (fun k_ e_=>(HO_0.out.1 k_ e_)));clear HO_0;clear HB;clear HK;have HO_0:=n0_;have HB:=n1_;have HK:=n2_;clear n0_ n1_ n2_;clear hg hw hp_))
     go_roundg k1
     case measure=>have:=HK1.out;omega
     case rel=>exact ⟨(y338),(wrap64 ((wrap64 (x1_1 + 1)) + 1)),(wrap64 (x5_1 + 1)),(by first|rfl|(simp;done)|(simp [*];done)),(by first|rfl|(simp;done)|(simp [*];done)),H',⟨by have:=HK1.out;omega⟩,⟨by (with_reducible repeat (first|apply rL|apply rN|apply rW));exact HO_0.out⟩,⟨by repeat (first|(with_reducible first|exact HK.out|apply Kept.alloc|apply Kept.drewN|apply Kept.drew)|exact HK.out)⟩,⟨by repeat (first|(with_reducible first|exact HB.out|apply qA|apply qD|apply qO)|exact HB.out)⟩⟩
    ·rw [if_neg c4] at H;exact absurd H (by simp)
   ·rw [if_neg c3] at H;have c3b0:decide (x5_1 < (x0_1.length:Int))=false:=decide_eq_false c3;clear c3;simp only [Option.some.injEq,Prod.mk.injEq] at H;obtain ⟨rfl,rfl⟩:=H;obtain ⟨Ao12,co12,eo12⟩:=Kd.R_slice HO_0.out;subst eo12;go_wp2
    go_ret
    exact ⟨by first|rfl|(simp [errW_none,errW_some] <;> rfl)|(simp [*,errW_none,errW_some] <;> rfl),by (with_reducible repeat (first|apply rL|apply rN|apply rW));exact HO_0.out,by repeat (first|(with_reducible first|exact HB.out|apply qA|apply qD|apply qO)|exact HB.out),by repeat (first|(with_reducible first|exact HK.out|apply Kept.alloc|apply Kept.drewN|apply Kept.drew)|exact HK.out)⟩

/-! ### laws_heldEarS: function 63 -/
def laws_heldEarS.l0 : Nat→List (S106)→Int→Int→Option (Int)
 | 0,_,_,_=>none
 | k + 1,x0,x1,x5=>if x5 < (x0.length:Int) then (if 0≤x5 then (if ((rd_T106 x0 x5).f0)=x1 then (if ((rd_T106 x0 x5).f1)=(wrap64 (x1 + 1)) then (laws_heldEarS.l0 k x0 (wrap64 ((wrap64 (x1 + 1)) + 1)) (wrap64 (x5 + 1))) else (none)) else (none)) else (none)) else (some x1)
def laws_heldEarS.f (k:Nat) (l0:List (S106)) (a1:Int):Option (Int):=laws_heldEarS.l0 k l0 a1 0
theorem laws_heldEarS.mono_l : ∀ k,(∀ y0 y1 y2,LeO (laws_heldEarS.l0 k y0 y1 y2) (laws_heldEarS.l0 (k + 1) y0 y1 y2))
 | 0=>fun _ _ _ r h=>by simp [laws_heldEarS.l0] at h
 | k + 1=>by
  have ih0:=laws_heldEarS.mono_l k
  ·intro y0 y1 y2;unfold laws_heldEarS.l0
   repeat' first
   | (with_reducible exact ih0 _ _ _)
   | (with_reducible exact LeO.refl _)
   | (with_reducible exact LeO.none _)
   | (with_reducible refine LeO.ite ?_ ?_)
   | (with_reducible refine LeO.bind ?_ (fun _=>?_))
   | exact ih0 _ _ _
   | exact LeO.none _
   | refine LeO.ite ?_ ?_
   | refine LeO.bind ?_ (fun _=>?_)
theorem laws_heldEarS.mono : ∀ a0 a1 k,LeO (laws_heldEarS.f k a0 a1) (laws_heldEarS.f (k + 1) a0 a1):=by
 intro a0 a1 k;have ih0:=laws_heldEarS.mono_l k;unfold laws_heldEarS.f
 repeat' first
   | (with_reducible exact ih0 _ _ _)
   | (with_reducible exact LeO.refl _)
   | (with_reducible exact LeO.none _)
   | (with_reducible refine LeO.ite ?_ ?_)
   | (with_reducible refine LeO.bind ?_ (fun _=>?_))
   | exact ih0 _ _ _
   | exact LeO.none _
   | refine LeO.ite ?_ ?_
   | refine LeO.bind ?_ (fun _=>?_)
set_option maxHeartbeats 8000000 in
set_option maxRecDepth 100000 in
theorem laws_heldEarS.calls (k:Nat) (A0:Option Addr) (c0:Nat) (l0:List (S106)) (a1:Int) (r:Int) (w:World) (hr0:Kd.C k106 w A0 l0.length l0) (hc0:l0.length≤c0) (h:laws_heldEarS.f k l0 a1=some r) :
  Calls Try.prog 63 #[.slice A0 l0.length c0,.int .i64 a1] w fun e w'=>e=.returned (.int .i64 r)∧Drawn0 w w':=by
 have HR0:=qK hr0;have HC0:=qK hc0;clear hr0 hc0;have H:(laws_heldEarS.l0 k l0 a1 0)=some r:=h;clear h;have H':=qK H;clear H;go_enter Try.func63,Try.ntmps63
 go_wp2
 go_loopg [1,5] k (fun kq v1 v5 w'=>∃ (x1_1:Int) (x5_1:Int),v1=.int .i64 x1_1∧v5=.int .i64 x5_1∧Aside0 (laws_heldEarS.l0 kq l0 x1_1 x5_1=some r)∧Aside0 (kq≤k)∧Drawn0 w w')
 case atStart=>exact ⟨(a1),(0),(by first|rfl|(simp;done)|(simp [*];done)),(by first|rfl|(simp;done)|(simp [*];done)),H',⟨Nat.le_refl _⟩,by repeat (first|exact Drawn0.refl _|apply Drawn0.step)⟩
 case round =>
  clear H';try clear p2
  obtain ⟨x1_1,x5_1,rfl,rfl,HA,HK1,⟨m1,rfl⟩⟩:=hrel;cases gk with
  | zero=>exact absurd HA.out (by simp [laws_heldEarS.l0])
  | succ k1 =>
   have H:=HA.out;clear HA;simp only [laws_heldEarS.l0] at H;by_cases c3:x5_1 < (l0.length:Int)
   ·rw [if_pos c3] at H;have c3b0:decide (x5_1 < (l0.length:Int))=true:=decide_eq_true c3;clear c3;by_cases c4:0≤x5_1
    ·rw [if_pos c4] at H;have c4b0:decide (0≤x5_1)=true:=decide_eq_true c4;clear c4;by_cases c5:((rd_T106 l0 x5_1).f0)=x1_1
     ·rw [if_pos c5] at H;have c5b0:(((rd_T106 l0 x5_1).f0) == x1_1)=true:=beq_iff_eq.mpr c5;have c5b1:(((rd_T106 l0 x5_1).f0) != x1_1)=false:=bne_eq_false_iff_eq.mpr c5;clear c5;by_cases c6:((rd_T106 l0 x5_1).f1)=(wrap64 (x1_1 + 1))
      ·rw [if_pos c6] at H;have c6b0:(((rd_T106 l0 x5_1).f1) == (wrap64 (x1_1 + 1)))=true:=beq_iff_eq.mpr c6;have c6b1:(((rd_T106 l0 x5_1).f1) != (wrap64 (x1_1 + 1)))=false:=bne_eq_false_iff_eq.mpr c6;clear c6;have H':=qK H;clear H;have p339:0≤(x5_1:Int):=of_decide_eq_true (by first|(with_reducible assumption)|assumption);have q339:x5_1 < (l0.length:Int):=of_decide_eq_true (by first|(with_reducible assumption)|assumption);obtain ⟨ad339,e339,hx339_0,hx339_1⟩:=at_T106 HR0.out x5_1 p339 q339;cases e339
       replace p339:=eq_true p339;replace q339:=eq_true q339;have p340:0≤(x5_1:Int):=of_decide_eq_true (by first|(with_reducible assumption)|assumption);have q340:x5_1 < (l0.length:Int):=of_decide_eq_true (by first|(with_reducible assumption)|assumption);obtain ⟨ad340,e340,hx340_0,hx340_1⟩:=at_T106 HR0.out x5_1 p340 q340;obtain rfl:ad339=ad340:=(by injection e340);replace p340:=eq_true p340;replace q340:=eq_true q340;go_wp2
       go_roundg k1
       case measure=>have:=HK1.out;omega
       case rel=>exact ⟨(wrap64 ((wrap64 (x1_1 + 1)) + 1)),(wrap64 (x5_1 + 1)),(by first|rfl|(simp;done)|(simp [*];done)),(by first|rfl|(simp;done)|(simp [*];done)),H',⟨by have:=HK1.out;omega⟩,by repeat (first|exact Drawn0.refl _|apply Drawn0.step)⟩
      ·rw [if_neg c6] at H;exact absurd H (by simp)
     ·rw [if_neg c5] at H;exact absurd H (by simp)
    ·rw [if_neg c4] at H;exact absurd H (by simp)
   ·rw [if_neg c3] at H;have c3b0:decide (x5_1 < (l0.length:Int))=false:=decide_eq_false c3;clear c3;obtain rfl:=Option.some.inj H;go_wp2
    go_ret
    exact ⟨by first|rfl|(simp;done)|(simp [*];done),by repeat (first|exact Drawn0.refl _|apply Drawn0.step)⟩

end Go.Proofs.Ytboligpcbndkjaa.PFnExactEarsOf
