/-
  A text of this claim's own, printed by a program of the session (wip/tools/xprint.py): functions of the program as Lean functions, each with what its call comes to.
-/
import Derived.Test.YtadfmbmnnekamaaPFnCoverx0
import Derived.Test.YtadfmbmnnekamaaPFnCoverx4
namespace Go.Proofs.Ytadfmbmnnekamaa.PFnCover
open Go.Proofs.YtadfmbmnnekamaaW.PrintWords renaming pw_below_drewN → qD, blk_cell → qC, below_drew1 → qO, below_alloc → qA, blk_frozen → qF, below_set → qS, blk_drewN → qN, blk_alloc → qL, blk_drew → qW, below_size → qZ, below_step → qT, blk_below → qB, blk_far → qR, blk_put → qP
open Go.Proofs.YtadfmbmnnekamaaW.PrintWords.Aside0 renaming mk → qK
open Bool renaming true → Y, false → Z
open List renaming setIfInBounds_toArray → sIb, set_cons_zero → sZ, set_cons_succ → sS, map_toArray → mT, map_cons → mC, map_nil → mN, length_drop → lD, length_take → lT
open Go.Proofs.YtadfmbmnnekamaaW.PrintWords.Kd renaming C_alloc → cL, C_drewN → cN, C_drew → cW, C_below → cB, R_alloc → rL, R_drewN → rN, R_drew → rW, R_below → rB
open Go.RowKit Go.Proofs.YtadfmbmnnekamaaW.PrintWords Go.Proofs.YtadfmbmnnekamaaW.PrintLast Go.Proofs.YtadfmbmnnekamaaW.PrintMore
attribute [local go_sem] max2_int min2_int max_two min_two max_three min_three max_four min_four   -- for this text's walks alone
set_option linter.unusedVariables false
set_option linter.unusedSimpArgs false

/-! ### impl_closure: function 53 -/
mutual
def impl_closure.l0 : Nat→List (S53)→Int→Option (Int)
 | 0,_,_=>none
 | k + 1,x0,x1=>impl_closure.l1 k x0 x1 x1 x0 (x0.length:Int) 0
def impl_closure.l1 : Nat→List (S53)→Int→Int→List (S53)→Int→Int→Option (Int)
 | 0,_,_,_,_,_,_=>none
 | k + 1,x0,x1,x5,x9,x10,x11=>if x11 < x10 then (if 0≤x11 then (if x11 < (x9.length:Int) then ((impl_set_has.f x5 ((rd_T53 x9 x11).f0)).bind fun t256=>(if t256=true then (impl_closure.l1 k x0 x1 (Go.bits .or .i64 x5 ((rd_T53 x9 x11).f1)) x9 x10 (wrap64 (x11 + 1))) else (impl_closure.l1 k x0 x1 x5 x9 x10 (wrap64 (x11 + 1))))) else (none)) else (none)) else (if x5=x1 then (some x1) else (impl_closure.l0 k x0 x5))
end
def impl_closure.f (k:Nat) (l0:List (S53)) (a1:Int):Option (Int):=impl_closure.l0 k l0 a1
theorem impl_closure.mono_l : ∀ k,(∀ y0 y1,LeO (impl_closure.l0 k y0 y1) (impl_closure.l0 (k + 1) y0 y1))∧(∀ y0 y1 y2 y3 y4 y5,LeO (impl_closure.l1 k y0 y1 y2 y3 y4 y5) (impl_closure.l1 (k + 1) y0 y1 y2 y3 y4 y5))
 | 0=>⟨fun _ _ r h=>by simp [impl_closure.l0] at h,fun _ _ _ _ _ _ r h=>by simp [impl_closure.l1] at h⟩
 | k + 1=>by
  obtain ⟨ih0,ih1⟩:=impl_closure.mono_l k;refine ⟨?_,?_⟩
  ·intro y0 y1;unfold impl_closure.l0
   repeat' first
   | (with_reducible exact ih0 _ _)
   | (with_reducible exact ih1 _ _ _ _ _ _)
   | (with_reducible exact LeO.refl _)
   | (with_reducible exact LeO.none _)
   | (with_reducible refine LeO.ite ?_ ?_)
   | (with_reducible refine LeO.bind ?_ (fun _=>?_))
   | exact ih0 _ _
   | exact ih1 _ _ _ _ _ _
   | exact LeO.none _
   | refine LeO.ite ?_ ?_
   | refine LeO.bind ?_ (fun _=>?_)
  ·intro y0 y1 y2 y3 y4 y5;unfold impl_closure.l1
   repeat' first
   | (with_reducible exact ih0 _ _)
   | (with_reducible exact ih1 _ _ _ _ _ _)
   | (with_reducible exact LeO.refl _)
   | (with_reducible exact LeO.none _)
   | (with_reducible refine LeO.ite ?_ ?_)
   | (with_reducible refine LeO.bind ?_ (fun _=>?_))
   | exact ih0 _ _
   | exact ih1 _ _ _ _ _ _
   | exact LeO.none _
   | refine LeO.ite ?_ ?_
   | refine LeO.bind ?_ (fun _=>?_)
theorem impl_closure.mono : ∀ a0 a1 k,LeO (impl_closure.f k a0 a1) (impl_closure.f (k + 1) a0 a1):=by
 intro a0 a1 k;obtain ⟨ih0,ih1⟩:=impl_closure.mono_l k;unfold impl_closure.f
 repeat' first
   | (with_reducible exact ih0 _ _)
   | (with_reducible exact ih1 _ _ _ _ _ _)
   | (with_reducible exact LeO.refl _)
   | (with_reducible exact LeO.none _)
   | (with_reducible refine LeO.ite ?_ ?_)
   | (with_reducible refine LeO.bind ?_ (fun _=>?_))
   | exact ih0 _ _
   | exact ih1 _ _ _ _ _ _
   | exact LeO.none _
   | refine LeO.ite ?_ ?_
   | refine LeO.bind ?_ (fun _=>?_)
set_option maxHeartbeats 8000000 in
set_option maxRecDepth 100000 in
theorem impl_closure.calls (k:Nat) (A0:Option Addr) (c0:Nat) (l0:List (S53)) (a1:Int) (r:Int) (w:World) (hr0:Kd.C k53 w A0 l0.length l0) (hc0:l0.length≤c0) (h:impl_closure.f k l0 a1=some r) :
  Calls Try.prog 53 #[.slice A0 l0.length c0,.int .i64 a1] w fun e w'=>e=.returned (.int .i64 r)∧Below w.heap.size w w':=by
 have hu53:=Try.underlying53;have HR0:=qK hr0;have HC0:=qK hc0;clear hr0 hc0;have HB:=qK (Below.refl w.heap.size w);have H:(impl_closure.l0 k l0 a1)=some r:=h;clear h;have H':=qK H;clear H;go_enter Try.func53,Try.ntmps53
 go_wp2
 go_loopg [1] k (fun kq v1 w'=>∃ (x1_1:Int),v1=.int .i64 x1_1∧Aside0 (impl_closure.l0 kq l0 x1_1=some r)∧Aside0 (kq≤k)∧Aside0 (Below w.heap.size w w'))
 case atStart=>exact ⟨(a1),(by first|rfl|(simp;done)|(simp [*];done)),H',⟨Nat.le_refl _⟩,⟨by repeat (first|(with_reducible first|exact HB.out|apply qA|apply qD|apply qO)|exact HB.out)⟩⟩
 case round =>
  clear H';try clear p2
  obtain ⟨x1_1,rfl,HA,HK1,HB⟩:=hrel;cases gk with
  | zero=>exact absurd HA.out (by simp [impl_closure.l0])
  | succ k1 =>
   have H:=HA.out;clear HA;simp only [impl_closure.l0] at H;have H':=qK H;clear H;go_wp2
   go_loopg [5,11] k1 (fun kq v5 v11 w'=>∃ (x5_2:Int) (x11_2:Int),v5=.int .i64 x5_2∧v11=.int .i64 x11_2∧Aside0 (impl_closure.l1 kq l0 x1_1 x5_2 l0 (l0.length:Int) x11_2=some r)∧Aside0 (kq≤k1)∧Aside0 (Below w.heap.size w w'))
   case atStart=>exact ⟨(x1_1),(0),(by first|rfl|(simp;done)|(simp [*];done)),(by first|rfl|(simp;done)|(simp [*];done)),H',⟨Nat.le_refl _⟩,⟨by repeat (first|(with_reducible first|exact HB.out|apply qA|apply qD|apply qO)|exact HB.out)⟩⟩
   case round =>
    clear H';try clear p2
    try clear p2
    obtain ⟨x5_2,x11_2,rfl,rfl,HA,HK2,HB⟩:=hrel;cases gk with
    | zero=>exact absurd HA.out (by simp [impl_closure.l1])
    | succ k2 =>
     have H:=HA.out;clear HA;simp only [impl_closure.l1] at H;by_cases c3:x11_2 < (l0.length:Int)
     ·rw [if_pos c3] at H;have c3b0:decide (x11_2 < (l0.length:Int))=true:=decide_eq_true c3;clear c3;by_cases c4:0≤x11_2
      ·rw [if_pos c4] at H;have c4b0:decide (0≤x11_2)=true:=decide_eq_true c4;clear c4;by_cases c5:x11_2 < (l0.length:Int)
       ·rw [if_pos c5] at H;have c5b0:decide (x11_2 < (l0.length:Int))=true:=decide_eq_true c5;clear c5;replace H:=Option.bind_eq_some_iff.mp H;obtain ⟨t256,A60,H⟩:=H;replace H:(if t256=true then (impl_closure.l1 k2 l0 x1_1 (Go.bits .or .i64 x5_2 ((rd_T53 l0 x11_2).f1)) l0 (l0.length:Int) (wrap64 (x11_2 + 1))) else (impl_closure.l1 k2 l0 x1_1 x5_2 l0 (l0.length:Int) (wrap64 (x11_2 + 1))))=some r:=H;have A6:=qK A60;clear A60;by_cases c7:t256=true
        ·subst c7;have H1:(impl_closure.l1 k2 l0 x1_1 (Go.bits .or .i64 x5_2 ((rd_T53 l0 x11_2).f1)) l0 (l0.length:Int) (wrap64 (x11_2 + 1)))=some r:=by rw [if_pos rfl] at H;exact H
         clear H;have H:=H1;clear H1;have H':=qK H;clear H;have p254:0≤(x11_2:Int):=of_decide_eq_true (by first|(with_reducible assumption)|assumption);have q254:x11_2 < (l0.length:Int):=of_decide_eq_true (by first|(with_reducible assumption)|assumption);obtain ⟨ad254,e254,hx254_0,hx254_1⟩:=at_T53 HR0.out x11_2 p254 q254;cases e254
         replace hx254_0:=(HB.out.cell (World.block_lt_of_cell? w _ hx254_0)).trans hx254_0;replace hx254_1:=(HB.out.cell (World.block_lt_of_cell? w _ hx254_1)).trans hx254_1;replace p254:=eq_true p254;replace q254:=eq_true q254;go_wp2_with (first|((with_reducible refine gate_dst (N:=7) rfl ?_);refine box_event ?hg (N:=7) ?hd (cs:=#[.int .i64 0,.int .i64 0]) (t:=53) ?hr ?_;(case hd=>rfl);(case hg=>rfl);(case hr=>(go_simp;try rfl));intro gb255 hg w8 hbox hb;have n0_:=qK (qT (by repeat (with_reducible first|exact HB.out|apply qA|apply qD|apply qO)) hb);have n1_:=qK (hbox);have n2_:=qK ((by rw [hg];exact (qZ (by repeat (with_reducible first|exact HB.out|apply qA|apply qD|apply qO))):w.heap.size≤gb255));have n3_:=qK ((by rw [hg];exact (qZ (by repeat (with_reducible first|exact HB.out|apply qA|apply qD|apply qO))):w.heap.size≤gb255));clear HB;have HB:=n0_;have BK255:=n1_;have GW255:=n2_;have GE255:=n3_;clear n0_ n1_ n2_ n3_;clear hb hbox hg;have hcz9_0:w8.cell? ⟨gb255,0,none⟩=some (.int .i64 0):=(qC BK255.out 0).trans rfl;have hcz9_1:w8.cell? ⟨gb255,1,none⟩=some (.int .i64 0):=(qC BK255.out 1).trans rfl;have hfz9_0:=qF BK255.out 0;have hfz9_1:=qF BK255.out 1)|((with_reducible refine gate_callee (f:=54) rfl ?_);refine goesL_ (some 18) rfl rfl Try.func54 (by kernel_rfl) rfl #[.int .i64 x5_2,.int .i64 ((rd_T53 l0 x11_2).f0)] rfl (by (try simp only [mT,mC,mN]);first|done|rfl|(simp only [lD,lT];rfl)) ?_;(with_reducible refine (impl_set_has.calls x5_2 ((rd_T53 l0 x11_2).f0) true _ A6.out).mono ?_);rintro e w' ⟨rfl,⟨nd,rfl⟩⟩;refine ⟨_,rfl,?_⟩))
         go_roundg k2
         case measure=>have:=HK1.out;have:=HK2.out;omega
         case rel=>exact ⟨(Go.bits .or .i64 x5_2 ((rd_T53 l0 x11_2).f1)),(wrap64 (x11_2 + 1)),(by first|rfl|(simp;done)|(simp [*];done)),(by first|rfl|(simp;done)|(simp [*];done)),H',⟨by have:=HK1.out;have:=HK2.out;omega⟩,⟨by repeat (first|(with_reducible first|exact HB.out|apply qA|apply qD|apply qO|refine qS ?_ GE255.out)|exact HB.out)⟩⟩
        ·replace c7:=Bool.eq_false_iff.mpr c7;subst c7;have H1:(impl_closure.l1 k2 l0 x1_1 x5_2 l0 (l0.length:Int) (wrap64 (x11_2 + 1)))=some r:=by rw [if_neg (show ¬ (false=true) by decide)] at H;exact H
         clear H;have H:=H1;clear H1;have H':=qK H;clear H;have p254:0≤(x11_2:Int):=of_decide_eq_true (by first|(with_reducible assumption)|assumption);have q254:x11_2 < (l0.length:Int):=of_decide_eq_true (by first|(with_reducible assumption)|assumption);obtain ⟨ad254,e254,hx254_0,hx254_1⟩:=at_T53 HR0.out x11_2 p254 q254;cases e254
         replace hx254_0:=(HB.out.cell (World.block_lt_of_cell? w _ hx254_0)).trans hx254_0;replace hx254_1:=(HB.out.cell (World.block_lt_of_cell? w _ hx254_1)).trans hx254_1;replace p254:=eq_true p254;replace q254:=eq_true q254;go_wp2_with (first|((with_reducible refine gate_dst (N:=7) rfl ?_);refine box_event ?hg (N:=7) ?hd (cs:=#[.int .i64 0,.int .i64 0]) (t:=53) ?hr ?_;(case hd=>rfl);(case hg=>rfl);(case hr=>(go_simp;try rfl));intro gb255 hg w10 hbox hb;have n0_:=qK (qT (by repeat (with_reducible first|exact HB.out|apply qA|apply qD|apply qO)) hb);have n1_:=qK (hbox);have n2_:=qK ((by rw [hg];exact (qZ (by repeat (with_reducible first|exact HB.out|apply qA|apply qD|apply qO))):w.heap.size≤gb255));have n3_:=qK ((by rw [hg];exact (qZ (by repeat (with_reducible first|exact HB.out|apply qA|apply qD|apply qO))):w.heap.size≤gb255));clear HB;have HB:=n0_;have BK255:=n1_;have GW255:=n2_;have GE255:=n3_;clear n0_ n1_ n2_ n3_;clear hb hbox hg;have hcz11_0:w10.cell? ⟨gb255,0,none⟩=some (.int .i64 0):=(qC BK255.out 0).trans rfl;have hcz11_1:w10.cell? ⟨gb255,1,none⟩=some (.int .i64 0):=(qC BK255.out 1).trans rfl;have hfz11_0:=qF BK255.out 0;have hfz11_1:=qF BK255.out 1)|((with_reducible refine gate_callee (f:=54) rfl ?_);refine goesL_ (some 18) rfl rfl Try.func54 (by kernel_rfl) rfl #[.int .i64 x5_2,.int .i64 ((rd_T53 l0 x11_2).f0)] rfl (by (try simp only [mT,mC,mN]);first|done|rfl|(simp only [lD,lT];rfl)) ?_;(with_reducible refine (impl_set_has.calls x5_2 ((rd_T53 l0 x11_2).f0) false _ A6.out).mono ?_);rintro e w' ⟨rfl,⟨nd,rfl⟩⟩;refine ⟨_,rfl,?_⟩))
         go_roundg k2
         case measure=>have:=HK1.out;have:=HK2.out;omega
         case rel=>exact ⟨(x5_2),(wrap64 (x11_2 + 1)),(by first|rfl|(simp;done)|(simp [*];done)),(by first|rfl|(simp;done)|(simp [*];done)),H',⟨by have:=HK1.out;have:=HK2.out;omega⟩,⟨by repeat (first|(with_reducible first|exact HB.out|apply qA|apply qD|apply qO|refine qS ?_ GE255.out)|exact HB.out)⟩⟩
       ·rw [if_neg c5] at H;exact absurd H (by simp)
      ·rw [if_neg c4] at H;exact absurd H (by simp)
     ·rw [if_neg c3] at H;have c3b0:decide (x11_2 < (l0.length:Int))=false:=decide_eq_false c3;clear c3;by_cases c12:x5_2=x1_1
      ·rw [if_pos c12] at H;have c12b0:(x5_2 == x1_1)=true:=beq_iff_eq.mpr c12;have c12b1:(x5_2 != x1_1)=false:=bne_eq_false_iff_eq.mpr c12;clear c12;obtain rfl:=Option.some.inj H;go_wp2
       go_ret
       exact ⟨by first|rfl|(simp [errW_none,errW_some] <;> rfl)|(simp [*,errW_none,errW_some] <;> rfl),by repeat (first|(with_reducible first|exact HB.out|apply qA|apply qD|apply qO)|exact HB.out)⟩
      ·rw [if_neg c12] at H;have c12b0:(x5_2 == x1_1)=false:=beq_eq_false_iff_ne.mpr c12;have c12b1:(x5_2 != x1_1)=true:=bne_iff_ne.mpr c12;have H':=qK H;clear H;go_wp2
       go_roundg k2
       case measure=>have:=HK1.out;have:=HK2.out;omega
       case rel=>exact ⟨(x5_2),(by first|rfl|(simp;done)|(simp [*];done)),H',⟨by have:=HK1.out;have:=HK2.out;omega⟩,⟨by repeat (first|(with_reducible first|exact HB.out|apply qA|apply qD|apply qO)|exact HB.out)⟩⟩

/-! ### impl_implies: function 27 -/
def impl_implies.f (k:Nat) (l0:List (S53)) (a1_0:Int) (a1_1:Int):Option (Bool):=(impl_closure.f k l0 a1_0).bind fun t258=>((impl_set_has.f t258 a1_1).bind fun t259=>(some t259))
theorem impl_implies.mono : ∀ a0 a1 a2 k,LeO (impl_implies.f k a0 a1 a2) (impl_implies.f (k + 1) a0 a1 a2):=by
 intro a0 a1 a2 k;unfold impl_implies.f
 repeat' first
   | (with_reducible exact impl_closure.mono _ _ _)
   | (with_reducible exact LeO.refl _)
   | (with_reducible exact LeO.none _)
   | (with_reducible refine LeO.ite ?_ ?_)
   | (with_reducible refine LeO.bind ?_ (fun _=>?_))
   | exact impl_closure.mono _ _ _
   | exact LeO.none _
   | refine LeO.ite ?_ ?_
   | refine LeO.bind ?_ (fun _=>?_)
def impl_implies.T1 : Bool × List (List Nat × List Nat):=(true,[([],[]),([],[]),([1],[1]),([0,2],[0,2]),([],[]),([4],[4]),([3,5,3],[3,5]),([6,6,0,1,2,3,4,5,6],[6])])
def impl_implies.B1 : List Nat:=[0,0,2,7,0,16,63,127]
theorem impl_implies.tab1 : rtab .any (opsOf Try.f27 1)=impl_implies.T1:=by kernel_rfl
theorem impl_implies.bits1 : waitsOk impl_implies.T1.2 impl_implies.B1=true:=by kernel_rfl
set_option maxHeartbeats 8000000 in
set_option maxRecDepth 100000 in
theorem impl_implies.calls (k:Nat) (A0:Option Addr) (c0:Nat) (l0:List (S53)) (a1_0:Int) (a1_1:Int) (r:Bool) (w:World) (hr0:Kd.C k53 w A0 l0.length l0) (hc0:l0.length≤c0) (h:impl_implies.f k l0 a1_0 a1_1=some r) :
  Calls Try.prog 27 #[.slice A0 l0.length c0,.agg #[.int .i64 a1_0,.int .i64 a1_1]] w fun e w'=>e=.returned (.bool r)∧Below w.heap.size w w':=by
 have hu53:=Try.underlying53;have HR0:=qK hr0;have HC0:=qK hc0;clear hr0 hc0;have HB:=qK (Below.refl w.heap.size w);have H:((impl_closure.f k l0 a1_0).bind fun t258=>((impl_set_has.f t258 a1_1).bind fun t259=>(some t259)))=some r:=h;clear h;replace H:=Option.bind_eq_some_iff.mp H;obtain ⟨t258,A30,H⟩:=H;replace H:((impl_set_has.f t258 a1_1).bind fun t259=>(some t259))=some r:=H;have A3:=qK A30;clear A30;replace H:=Option.bind_eq_some_iff.mp H;obtain ⟨t259,A40,H⟩:=H;replace H:(some t259)=some r:=H;have A4:=qK A40;clear A40;obtain rfl:=Option.some.inj H;go_enter Try.func27,Try.ntmps27
 try go_wp2_with (first|((with_reducible refine gate_dst (N:=3) rfl ?_);refine box_event ?hg (N:=3) ?hd (cs:=#[.int .i64 a1_0,.int .i64 a1_1]) (t:=53) ?hr ?_;(case hd=>rfl);(case hg=>rfl);(case hr=>(go_simp;try rfl));intro gb257 hg w5 hbox hb;have n0_:=qK (qT (by repeat (with_reducible first|exact HB.out|apply qA|apply qD|apply qO)) hb);have n1_:=qK (hbox);have n2_:=qK ((by rw [hg];exact (qZ (by repeat (with_reducible first|exact HB.out|apply qA|apply qD|apply qO))):w.heap.size≤gb257));have n3_:=qK ((by rw [hg];exact (qZ (by repeat (with_reducible first|exact HB.out|apply qA|apply qD|apply qO))):w.heap.size≤gb257));clear HB;have HB:=n0_;have BK257:=n1_;have GW257:=n2_;have GE257:=n3_;clear n0_ n1_ n2_ n3_;clear hb hbox hg))
 have n0_:=qK (qW BK257.out);have n1_:=qK (qO HB.out);clear BK257;clear HB;have BK257:=n0_;have HB:=n1_;clear n0_ n1_;refine start_ (n:=8) (S:=fun w'=>w'.cell? ⟨gb257,0,none⟩=some (.int .i64 a1_0)∧w'.cell? ⟨gb257,1,none⟩=some (.int .i64 a1_1)) (ds:=[]) #[Z,Z,Z,Z,Z,Z,Z,Z] (by kernel_rfl) rfl rfl ⟨(qC BK257.out 0).trans rfl,(qC BK257.out 1).trans rfl⟩ (fun hHeld=>?_);refine with_tabW impl_implies.tab1 impl_implies.bits1 (fun HT_ HW_=>?_);generalize w5.drew=w6 at BK257 HB hHeld ⊢
 refine pure_ (i:=0) (N:=some 5) (v:=?_) (a':=?_) #[Y,Z,Z,Z,Z,Z,Z,Z] rfl rfl (any_of HT_.out (by kernel_rfl)) (fun _ _ _ h=>h) (Or.inl ⟨by rfl,?_⟩) ?_ ?_;rotate_left
 ·intro w';go_simp;with_reducible rfl
 rotate_left
 ·simp only [Act.put,sIb,sZ,sS,i64_w,i32_w];rfl
 refine pure_ (i:=1) (N:=some 6) (v:=?_) (a':=?_) #[Y,Y,Z,Z,Z,Z,Z,Z] rfl rfl (any_of HT_.out (by kernel_rfl)) (fun _ _ _ h=>h) (Or.inl ⟨by rfl,?_⟩) ?_ ?_;rotate_left
 ·intro w';go_simp;with_reducible rfl
 rotate_left
 ·simp only [Act.put,sIb,sZ,sS,i64_w,i32_w];rfl
 refine pure_ (i:=4) (N:=some 9) (v:=?_) (a':=?_) #[Y,Y,Z,Z,Y,Z,Z,Z] rfl rfl (any_of HT_.out (by kernel_rfl)) (fun _ _ _ h=>h) (Or.inl ⟨by rfl,?_⟩) ?_ ?_;rotate_left
 ·intro w';go_simp;with_reducible rfl
 rotate_left
 ·simp only [Act.put,sIb,sZ,sS,i64_w,i32_w];rfl
 refine take_ (i:=2) (N:=some 7) (v:=?_) (a':=?_) #[Y,Y,Y,Z,Y,Z,Z,Z] rfl rfl (take_ofW HT_.out HW_.out (by kernel_rfl)) (fun _ _ _ h=>h) (Or.inl ⟨by rfl,?_⟩) hHeld ?_ ?_;rotate_left
 ·rintro w' ⟨s0,s1⟩;go_simp;with_reducible rfl
 rotate_left
 ·simp only [Act.put,sIb,sZ,sS,i64_w,i32_w];rfl
 refine take_ (i:=5) (N:=some 10) (v:=?_) (a':=?_) #[Y,Y,Y,Z,Y,Y,Z,Z] rfl rfl (take_ofW HT_.out HW_.out (by kernel_rfl)) (fun _ _ _ h=>h) (Or.inl ⟨by rfl,?_⟩) hHeld ?_ ?_;rotate_left
 ·rintro w' ⟨s0,s1⟩;go_simp;with_reducible rfl
 rotate_left
 ·simp only [Act.put,sIb,sZ,sS,i64_w,i32_w];rfl
 refine one_ (i:=3) (N:=some 8) #[Y,Y,Y,Y,Y,Y,Z,Z] rfl rfl (one_of HT_.out (by kernel_rfl)) (by decide) (fun K hK=>?_);refine goes_ Try.func53 (by kernel_rfl) rfl #[.slice A0 l0.length c0,.int .i64 a1_0] (by rfl) rfl rfl (by (try simp only [mT,mC,mN]);first|done|rfl|(simp only [lD,lT];rfl)) ?_;with_reducible refine (impl_closure.calls k _ _ l0 a1_0 t258 _ ?side1 ?side2 A3.out).mono ?_
 (case side1=>repeat (first|exact (cB HR0.out HB.out)|(with_reducible first|refine cL ?_ _|refine cN ?_ _|refine cW ?_)));(case side2=>exact HC0.out);rintro e w7 ⟨rfl,hb⟩;refine ⟨_,rfl,?_⟩;have n0_:=qK (qB (g:=gb257) (o:=_) (by (with_reducible repeat (first|refine qN ?_ _|refine qW ?_|refine qL ?_ _));exact BK257.out) hb);have n1_:=qK (qT (by repeat (with_reducible first|exact HB.out|apply qA|apply qD|apply qO|refine qS ?_ GE257.out)) hb);clear BK257;clear HB;have BK257:=n0_;have HB:=n1_;clear n0_ n1_;(try clear hb);refine hK.out _ _ ⟨(qC BK257.out 0).trans rfl,(qC BK257.out 1).trans rfl⟩ (fun hHeld=>?_);clear hK K;refine norm_ (a':=?_) ?_ ?_;rotate_left
 ·show Act.put _ (some 8) _=_
  simp only [Act.put,sIb,sZ,sS,i64_w,i32_w];rfl
 refine one_ (i:=6) (N:=some 11) #[Y,Y,Y,Y,Y,Y,Y,Z] rfl rfl (one_of HT_.out (by kernel_rfl)) (by decide) (fun K hK=>?_);refine goes_ Try.func54 (by kernel_rfl) rfl #[.int .i64 t258,.int .i64 a1_1] (by rfl) rfl rfl (by (try simp only [mT,mC,mN]);first|done|rfl|(simp only [lD,lT];rfl)) ?_;with_reducible refine (impl_set_has.calls t258 a1_1 t259 _ A4.out).mono ?_
 rintro e w' ⟨rfl,⟨nd,rfl⟩⟩;refine ⟨_,rfl,?_⟩;refine hK.out _ _ ⟨(qC BK257.out 0).trans rfl,(qC BK257.out 1).trans rfl⟩ (fun hHeld=>?_);clear hK K;refine norm_ (a':=?_) ?_ ?_;rotate_left
 ·show Act.put _ (some 11) _=_
  simp only [Act.put,sIb,sZ,sS,i64_w,i32_w];rfl
 refine pure_ (i:=7) (N:=some 4) (v:=?_) (a':=?_) #[Y,Y,Y,Y,Y,Y,Y,Y] rfl rfl (any_of HT_.out (by kernel_rfl)) (fun _ _ _ h=>h) (Or.inl ⟨by rfl,?_⟩) ?_ ?_;rotate_left
 ·intro w';go_simp;with_reducible rfl
 rotate_left
 ·simp only [Act.put,sIb,sZ,sS,i64_w,i32_w];rfl
 refine done_ (done_of HT_.out (by kernel_rfl)) ?_;try go_wp2
 go_ret
 exact ⟨by first|rfl|(simp [errW_none,errW_some] <;> rfl)|(simp [*,errW_none,errW_some] <;> rfl),by repeat (first|(with_reducible first|exact HB.out|apply qA|apply qD|apply qO|refine qS ?_ GE257.out)|exact HB.out)⟩

/-! ### del_Rule: function 28 -/
theorem flatRuleD {w W : World} {base : Nat} {ok : Nat → Prop} {x : S53} {cs : List Value} (h : Kd.K k53 w x cs) : Kd.M k53 W base ok x cs := by
  rw [k53_open h]
  exact k53_mkM W base ok x
def del_Rule.f (l0 : List S53) (a1 : Int) (a2 : Int) : Option (List S53) := if 0 ≤ a1 ∧ a2 = a1 + 1 ∧ a1 < (l0.length : Int) then some (l0.eraseIdx a1.toNat) else none
open Go.Lib Go.Sort Go.Shelf in
set_option maxHeartbeats 4000000 in
set_option maxRecDepth 100000 in
theorem del_Rule.raw (g n cap i j : Nat) (inner : List Value) (w : World) (base : Nat) (ho : w.ownsRow base 53 2 (.slice (some ⟨g, 0, none⟩) n cap) n inner) (h1 : ∀ u ∈ inner, u.oneCell' = true) (hj : j = i + 1) (hi : i < n) :
    Calls Try.prog 28 #[.slice (some ⟨g, 0, none⟩) n cap, .int .i64 i, .int .i64 j] w fun e w' => e = .returned (.slice (some ⟨g, 0, none⟩) (n - 1) cap) ∧ w'.ownsRow base 53 2 (.slice (some ⟨g, 0, none⟩) (n - 1) cap) (n - 1) (inner.take (i * 2) ++ inner.drop ((i + 1) * 2)) ∧ w.grownBy w' (some g) := by
  have mixed : Try.prog.follows .mixedOrders = true := by kernel_rfl
  obtain ⟨i0, hi0, _, hz1, _⟩ := info_parts info53
  obtain ⟨hH, hb, hglt, hcap, hmax, hl⟩ := holdsK ho
  have hm : cap ≤ 9223372036854775807 := hmax
  have hlt : i < j := by omega
  have hjn : j ≤ n := by omega
  have hic : i ≤ cap := by omega
  have hjc : j ≤ cap := by omega
  have heq : ¬ i = j := by omega
  obtain ⟨news, hnews⟩ : ∃ news, news = inner.drop (j * 2) := ⟨_, rfl⟩
  have hlen : news.length = (n - j) * 2 := by rw [hnews, List.length_drop]; omega
  have hcell : ∀ t, t < n * 2 → w.cell? ⟨g, t, none⟩ = some inner[t]! ∧ w.frozen? ⟨g, t, none⟩ = false := fun t ht => by
    have := hH t (by simp; omega)
    simpa using this
  have hget : ∀ t u, news[t]? = some u → w.cell? ⟨g, j * 2 + t, none⟩ = some u := fun t u hu => by
    have ht : t < news.length := (List.getElem?_eq_some_iff.1 hu).1
    rw [(hcell (j * 2 + t) (by omega)).1, ← hu, hnews, List.getElem?_drop, getElem!_pos inner _ (by omega), List.getElem?_eq_getElem (by omega)]
  obtain ⟨A, hA, hsrc⟩ : ∃ A : Addr, (if cap = j then some (⟨g, 0, none⟩ : Addr) else some ⟨g, j * 2, none⟩) = some A ∧ Hid (∀ t u, news[t]? = some u → w.drew.cell? (A.add t) = some u) := by
    by_cases h : cap = j
    · refine ⟨⟨g, 0, none⟩, by simp [h], fun t u hu => ?_⟩
      have h0 : news.length = 0 := by rw [hlen]; omega
      rw [List.length_eq_zero_iff.1 h0] at hu
      simp at hu
    · refine ⟨⟨g, j * 2, none⟩, by simp [h], fun t u hu => ?_⟩
      rw [Addr.add_lit]
      exact hget t u hu
  have s1 : Hid (news.length = (n - j) * 2) := hlen
  have s2 : Hid (∀ u ∈ news, u.oneCell' = true) := fun u hu => h1 u (by rw [hnews] at hu; exact List.mem_of_mem_drop hu)
  have s3 : Hid (∀ t, t < news.length → (w.drew.cell? ⟨g, 0 + i * 2 + t, none⟩).isSome = true ∧ w.drew.frozen? ⟨g, 0 + i * 2 + t, none⟩ = false) := fun t ht => by
    rw [Nat.zero_add]
    obtain ⟨a, b⟩ := hcell (i * 2 + t) (by omega)
    exact ⟨by show (w.cell? _).isSome = true; rw [a]; rfl, b⟩
  obtain ⟨W1, hW1⟩ : ∃ W1, W1 = w.drew.setCells g (0 + i * 2) news := ⟨_, rfl⟩
  have hself : w.drew = putRow id (Sort.ahead w 1) g 0 inner.toArray := by
    rw [putRow_self id (Sort.ahead w 1) g 0 _ (holds_ahead id w 1 g 0 _ hH)]
    rfl
  have hW1' : W1 = putRow id (Sort.ahead w 1) g 0 (setMany inner.toArray (i * 2) news) := by
    rw [hW1, hself, setCells_putRow _ _ _ _ _ _ (by simp; omega)]
  have hH1 : Holds id W1 g 0 (setMany inner.toArray (i * 2) news) := by
    rw [hW1']
    exact holds_putRow id _ g 0 inner.toArray _ (holds_ahead id w 1 g 0 _ hH) (by simp)
  have e1 : n - (i + (n - j)) = 1 := by omega
  have e2 : (i + (n - j)) * 2 = (n - 1) * 2 := by omega
  have hcl : ∀ ty, (Builtin.clear_ #[49] ty #[.slice (some ⟨g, (i + (n - j)) * 2, none⟩) (n - (i + (n - j))) (cap - (i + (n - j)))]).run Try.prog W1 = .ok (.tuple #[]) (W1.setCells g ((i + (n - j)) * 2) [.int .i64 0, .int .i64 0]) := fun ty => by
    rw [e1, e2]
    refine clear_one W1 49 53 ty (.agg #[.int .i64 0, .int .i64 0]) Try.underlying49 Try.zeroValue53 (by simp [Value.cells, Value.oneCell']) g _ _ (fun t ht => ?_) (fun t ht => ?_)
    · have ht' : t < 2 := ht
      have := (hH1 ((n - 1) * 2 + t) (by simp; omega)).1
      rw [Nat.zero_add] at this
      rw [this]; rfl
    · have ht' : t < 2 := ht
      have := (hH1 ((n - 1) * 2 + t) (by simp; omega)).2
      rwa [Nat.zero_add] at this
  have hend : (putRow id (Sort.ahead w 1) g 0 (setMany (setMany inner.toArray (i * 2) news) ((n - 1) * 2) [.int .i64 0, .int .i64 0])) = W1.setCells g ((i + (n - j)) * 2) [.int .i64 0, .int .i64 0] := by
    rw [e2, hW1']
    have := setCells_putRow (Sort.ahead w 1) g 0 [.int .i64 0, .int .i64 0] ((n - 1) * 2) (setMany inner.toArray (i * 2) news) (by simp; omega)
    rw [Nat.zero_add] at this
    rw [this]
  have hown2 := ownsK (q := 1) ho (setMany (setMany inner.toArray (i * 2) news) ((n - 1) * 2) [.int .i64 0, .int .i64 0]) (by simp; omega) (show n - 1 ≤ n by omega)
  rw [take_setMany hl hi (by rw [hnews, hj]) rfl, hend] at hown2
  have hgr : w.grownBy (W1.setCells g ((i + (n - j)) * 2) [.int .i64 0, .int .i64 0]) (some g) := by
    rw [← hend]
    exact ⟨rfl, rfl, rfl, by simp [putRow, mapBlock, Sort.ahead], fun k hk hne => by simp [putRow, mapBlock, Sort.ahead, Array.getElem?_modify, show g ≠ k from fun e => hne (by rw [e])]; rfl⟩
  have HO2 := Aside0.mk hown2
  have HG := Aside0.mk hgr
  have hW : Hid (W1 = w.drew.setCells g (0 + i * 2) news) := hW1
  have HJ := Aside0.mk hj
  clear hW1 hW1' hH1 hH hget hcell hnews hlen hself hend hown2 hgr ho hl e1 e2 hj
  go_enter Try.func28, Try.ntmps28
  go_wp2_with fail
  go_region_law_o (refine step_append_room rfl (.tmp 22) (.tmp 25) 49 rfl 53 i0 2 Try.underlying49 hi0 hz1 g 0 i cap (by simp [Act.eval, Act.put]) A (n - j) (cap - j) news (by simp [Act.eval, Act.put]) s1.out hsrc.out s2.out (by omega) s3.out ?_; rw [← hW.out])
  go_wp2
  go_ret
  exact ⟨by rw [show n - 1 = i + (n - j) by have := HJ.out; omega]; rfl, HO2.out, HG.out⟩
theorem del_Rule.calls (P0_ : Nat → Prop) (u : Value) (l0 : List S53) (a1 : Int) (a2 : Int) (r : List S53) (w0 w : World) (hB : Below w0.heap.size w0 w) (ho0 : Kd.R k53 53 w w0.heap.size P0_ u l0) (h : del_Rule.f l0 a1 a2 = some r) :
    Calls Try.prog 28 #[u, .int .i64 a1, .int .i64 a2] w fun e w' => ∃ v0_ : Value, e = .returned (v0_) ∧ Kd.R k53 53 w' w0.heap.size (fun k_ => (P0_ k_ ∨ w.heap.size ≤ k_)) v0_ r ∧ Below w0.heap.size w0 w' ∧ Kept w w' (fun k_ => P0_ k_) := by
  unfold del_Rule.f at h
  by_cases hl : 0 ≤ a1 ∧ a2 = a1 + 1 ∧ a1 < (l0.length : Int)
  · rw [if_pos hl] at h
    obtain rfl := Option.some.inj h
    obtain ⟨h0, rfl, h1⟩ := hl
    obtain ⟨i, rfl⟩ : ∃ i : Nat, a1 = (i : Int) := ⟨a1.toNat, by omega⟩
    have hi : i < l0.length := by omega
    obtain ⟨g, cap, rfl, hbg, _⟩ := Kd.R_form ho0 (by omega)
    have hok : P0_ g := ho0.1 g rfl
    refine (del_R k53 (i := i) (rest := #[.int .i64 (i : Int), .int .i64 ((i : Int) + 1)]) (fun h => flatRuleD h) (fun g inner ho1 h1 => del_Rule.raw g l0.length cap i (i + 1) inner w w0.heap.size ho1 h1 rfl hi) ho0 hi (by decide)).mono ?_
    rintro e w' ⟨v0, rfl, hR, hg, _⟩
    have hbk : ∀ k, (Value.slice (some ⟨g, 0, none⟩) l0.length cap).ownBlock = some k → g = k := fun k hk => by simpa [Value.ownBlock] using hk
    exact ⟨v0, rfl, Kd.R_mono hR (fun k hk => .inl hk), hB.grown hg hB.size (fun k hk => hbk k hk ▸ hbg), kept_grown hg (fun k hk => hbk k hk ▸ hok)⟩
  · rw [if_neg hl] at h
    cases h

/-! ### clone_Rule: function 29 -/
def cloneEL_ren : Go.Shelf.Ren := ⟨fun | 41 => 29 | n => n, fun | 22 => 49 | 23 => 53 | 4 => 4 | n => n, fun | n => n⟩
theorem cloneEL : Go.Proofs.SlLaysE0.n41 Try.prog cloneEL_ren := {
  mixed := by kernel_rfl
  f41 := ⟨Try.f29.name, by decide, Try.func29.trans (congrArg some (by kernel_rfl))⟩
  t4 := Try.underlying4
  a4 := Try.isAgg4
  z4 := Try.sizeOf4
  v4 := Try.zeroValue4
  t22 := Try.underlying49
  a22 := Try.isAgg49
  z22 := Try.sizeOf49
  v22 := Try.zeroValue49 }
theorem flatRule {w W : World} {base : Nat} {ok : Nat → Prop} {x : S53} {cs : List Value} (h : Kd.K k53 w x cs) : Kd.M k53 W base ok x cs := by
  rw [k53_open h]
  exact k53_mkM W base ok x
def clone_Rule.f (l0 : List S53) : Option (List S53) := if 0 < l0.length ∧ l0.length ≤ 1099511627776 then some l0 else none
theorem clone_Rule.calls (A0 : Option Addr) (c0 : Nat) (l0 : List S53) (r : List S53) (w : World) (hr0 : Kd.C k53 w A0 l0.length l0) (hc0 : l0.length ≤ c0) (h : clone_Rule.f l0 = some r) :
    Calls Try.prog 29 #[.slice A0 l0.length c0] w fun e w' => ∃ v0_ : Value, e = .returned (v0_) ∧ Kd.R k53 53 w' w.heap.size (fun _ => True) v0_ r ∧ Below w.heap.size w w' := by
  unfold clone_Rule.f at h
  by_cases hl : 0 < l0.length ∧ l0.length ≤ 1099511627776
  · rw [if_pos hl] at h
    obtain rfl := Option.some.inj h
    obtain ⟨i0, hi0, hz0, hz1, hz2⟩ := info_parts info53
    exact clone_R k53 (fun h => flatRule h) cloneEL i0 _ 16 hi0 hz0 hz1 hz2 rfl (by decide) (by decide) Try.sizeOf53 hr0 hl.1 (by omega)
  · rw [if_neg hl] at h
    cases h

end Go.Proofs.Ytadfmbmnnekamaa.PFnCover
