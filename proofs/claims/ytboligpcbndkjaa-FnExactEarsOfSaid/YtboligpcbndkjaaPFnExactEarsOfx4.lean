/-
  A text of this claim's own, printed by a program of the session (wip/tools/xprint.py): functions of the program as Lean functions, each with what its call comes to.
-/
import Derived.Test.YtboligpcbndkjaaPFnExactEarsOfx0
import Derived.Test.YtboligpcbndkjaaPFnExactEarsOfx2
import Derived.Test.YtboligpcbndkjaaPFnExactEarsOfx3
namespace Go.Proofs.Ytboligpcbndkjaa.PFnExactEarsOf
open Go.Proofs.YtboligpcbndkjaaW.PrintWords renaming pw_below_drewN → qD, blk_cell → qC, below_drew1 → qO, below_alloc → qA, blk_frozen → qF, below_set → qS, blk_drewN → qN, blk_alloc → qL, blk_drew → qW, below_size → qZ, below_step → qT, blk_below → qB, blk_far → qR, blk_put → qP
open Go.Proofs.YtboligpcbndkjaaW.PrintWords.Aside0 renaming mk → qK
open Bool renaming true → Y, false → Z
open List renaming setIfInBounds_toArray → sIb, set_cons_zero → sZ, set_cons_succ → sS, map_toArray → mT, map_cons → mC, map_nil → mN, length_drop → lD, length_take → lT
open Go.Proofs.YtboligpcbndkjaaW.PrintWords.Kd renaming C_alloc → cL, C_drewN → cN, C_drew → cW, C_below → cB, R_alloc → rL, R_drewN → rN, R_drew → rW, R_below → rB
open Go.RowKit Go.Proofs.YtboligpcbndkjaaW.PrintWords Go.Proofs.YtboligpcbndkjaaW.PrintLast Go.Proofs.YtboligpcbndkjaaW.PrintMore
attribute [local go_sem] max2_int min2_int max_two min_two max_three min_three max_four min_four   -- for this text's walks alone
set_option linter.unusedVariables false
set_option linter.unusedSimpArgs false

/-! ### spec_l11Shared: function 84 -/
mutual
def spec_l11Shared.l0 : Nat→List Int→List Int→List Int→Int→Int→List Int→List (S97)→Option (List Int)
 | 0,_,_,_,_,_,_,_=>none
 | k + 1,x2,x7,x17,x18,x19,x230000,x230001=>if x19 < x18 then (if 0≤x19 then (if x19 < (x17.length:Int) then (spec_l11Shared.l1 k x2 x7 (rd x17 x19) x17 x18 x19 x2 (x2.length:Int) 0 x230000 x230001) else (none)) else (none)) else (some x7)
def spec_l11Shared.l1 : Nat→List Int→List Int→Int→List Int→Int→Int→List Int→Int→Int→List Int→List (S97)→Option (List Int)
 | 0,_,_,_,_,_,_,_,_,_,_,_=>none
 | k + 1,x2,x7,x9,x17,x18,x19,x23,x24,x25,x230000,x230001=>if x25 < x24 then (if 0≤x25 then (if x25 < (x23.length:Int) then (if 0≤(rd x23 x25) then (if (rd x23 x25) < (x230001.length:Int) then ((spec_l1Has.f k ((rd_T97 x230001 (rd x23 x25)).f1) x9).bind fun t237=>(if t237=true then ((spec_l7Put.f k x7 x9).bind fun t238=>(spec_l11Shared.l1 k x2 t238 x9 x17 x18 x19 x23 x24 (wrap64 (x25 + 1)) x230000 x230001)) else (spec_l11Shared.l1 k x2 x7 x9 x17 x18 x19 x23 x24 (wrap64 (x25 + 1)) x230000 x230001))) else (none)) else (none)) else (none)) else (none)) else (spec_l11Shared.l0 k x2 x7 x17 x18 (wrap64 (x19 + 1)) x230000 x230001)
end
def spec_l11Shared.f (k:Nat) (l0_0:List Int) (l0_1:List (S97)) (a1:Int) (l2:List Int):Option (List Int):=if 0≤a1 then (if a1 < (l0_1.length:Int) then ((spec_l11Edge.f k ((rd_T97 l0_1 a1).f0) ((rd_T97 l0_1 a1).f1)).bind fun t231=>(spec_l11Shared.l0 k l2 ([]:List Int) t231 (t231.length:Int) 0 l0_0 l0_1)) else (none)) else (none)
theorem spec_l11Shared.mono_l : ∀ k,(∀ y0 y1 y2 y3 y4 y5 y6,LeO (spec_l11Shared.l0 k y0 y1 y2 y3 y4 y5 y6) (spec_l11Shared.l0 (k + 1) y0 y1 y2 y3 y4 y5 y6))∧(∀ y0 y1 y2 y3 y4 y5 y6 y7 y8 y9 y10,LeO (spec_l11Shared.l1 k y0 y1 y2 y3 y4 y5 y6 y7 y8 y9 y10) (spec_l11Shared.l1 (k + 1) y0 y1 y2 y3 y4 y5 y6 y7 y8 y9 y10))
 | 0=>⟨fun _ _ _ _ _ _ _ r h=>by simp [spec_l11Shared.l0] at h,fun _ _ _ _ _ _ _ _ _ _ _ r h=>by simp [spec_l11Shared.l1] at h⟩
 | k + 1=>by
  obtain ⟨ih0,ih1⟩:=spec_l11Shared.mono_l k;refine ⟨?_,?_⟩
  ·intro y0 y1 y2 y3 y4 y5 y6;unfold spec_l11Shared.l0
   repeat' first
   | (with_reducible exact ih0 _ _ _ _ _ _ _)
   | (with_reducible exact ih1 _ _ _ _ _ _ _ _ _ _ _)
   | (with_reducible exact spec_l11Edge.mono _ _ _)
   | (with_reducible exact spec_l1Has.mono _ _ _)
   | (with_reducible exact spec_l7Put.mono _ _ _)
   | (with_reducible exact LeO.refl _)
   | (with_reducible exact LeO.none _)
   | (with_reducible refine LeO.ite ?_ ?_)
   | (with_reducible refine LeO.bind ?_ (fun _=>?_))
   | exact ih0 _ _ _ _ _ _ _
   | exact ih1 _ _ _ _ _ _ _ _ _ _ _
   | exact spec_l11Edge.mono _ _ _
   | exact spec_l1Has.mono _ _ _
   | exact spec_l7Put.mono _ _ _
   | exact LeO.none _
   | refine LeO.ite ?_ ?_
   | refine LeO.bind ?_ (fun _=>?_)
  ·intro y0 y1 y2 y3 y4 y5 y6 y7 y8 y9 y10;unfold spec_l11Shared.l1
   repeat' first
   | (with_reducible exact ih0 _ _ _ _ _ _ _)
   | (with_reducible exact ih1 _ _ _ _ _ _ _ _ _ _ _)
   | (with_reducible exact spec_l11Edge.mono _ _ _)
   | (with_reducible exact spec_l1Has.mono _ _ _)
   | (with_reducible exact spec_l7Put.mono _ _ _)
   | (with_reducible exact LeO.refl _)
   | (with_reducible exact LeO.none _)
   | (with_reducible refine LeO.ite ?_ ?_)
   | (with_reducible refine LeO.bind ?_ (fun _=>?_))
   | exact ih0 _ _ _ _ _ _ _
   | exact ih1 _ _ _ _ _ _ _ _ _ _ _
   | exact spec_l11Edge.mono _ _ _
   | exact spec_l1Has.mono _ _ _
   | exact spec_l7Put.mono _ _ _
   | exact LeO.none _
   | refine LeO.ite ?_ ?_
   | refine LeO.bind ?_ (fun _=>?_)
theorem spec_l11Shared.mono : ∀ a0 a1 a2 a3 k,LeO (spec_l11Shared.f k a0 a1 a2 a3) (spec_l11Shared.f (k + 1) a0 a1 a2 a3):=by
 intro a0 a1 a2 a3 k;obtain ⟨ih0,ih1⟩:=spec_l11Shared.mono_l k;unfold spec_l11Shared.f
 repeat' first
   | (with_reducible exact ih0 _ _ _ _ _ _ _)
   | (with_reducible exact ih1 _ _ _ _ _ _ _ _ _ _ _)
   | (with_reducible exact spec_l11Edge.mono _ _ _)
   | (with_reducible exact spec_l1Has.mono _ _ _)
   | (with_reducible exact spec_l7Put.mono _ _ _)
   | (with_reducible exact LeO.refl _)
   | (with_reducible exact LeO.none _)
   | (with_reducible refine LeO.ite ?_ ?_)
   | (with_reducible refine LeO.bind ?_ (fun _=>?_))
   | exact ih0 _ _ _ _ _ _ _
   | exact ih1 _ _ _ _ _ _ _ _ _ _ _
   | exact spec_l11Edge.mono _ _ _
   | exact spec_l1Has.mono _ _ _
   | exact spec_l7Put.mono _ _ _
   | exact LeO.none _
   | refine LeO.ite ?_ ?_
   | refine LeO.bind ?_ (fun _=>?_)
set_option maxHeartbeats 8000000 in
set_option maxRecDepth 100000 in
theorem spec_l11Shared.calls (k:Nat) (A0_0:Option Addr) (c0_0:Nat) (l0_0:List Int) (A0_1:Option Addr) (c0_1:Nat) (l0_1:List (S97)) (a1:Int) (A2:Option Addr) (c2:Nat) (l2:List Int) (r:List Int) (w:World) (hr0_0:Kd.C (Kd.int .i64) w A0_0 l0_0.length l0_0) (hc0_0:l0_0.length≤c0_0) (hr0_1:Kd.C k97 w A0_1 l0_1.length l0_1) (hc0_1:l0_1.length≤c0_1) (hr2:Kd.C (Kd.int .i64) w A2 l2.length l2) (hc2:l2.length≤c2) (h:spec_l11Shared.f k l0_0 l0_1 a1 l2=some r) :
  Calls Try.prog 84 #[.agg #[.slice A0_0 l0_0.length c0_0,.slice A0_1 l0_1.length c0_1],.int .i64 a1,.slice A2 l2.length c2] w fun e w'=>∃ v0_:Value,e=.returned (v0_)∧Kd.V (Kd.int .i64) 3 w' w.heap.size (fun k_=>(w.heap.size≤k_)) v0_ r∧Below w.heap.size w w':=by
 have hu32:=Try.underlying32;have hu97:=Try.underlying97;have HR0_0:=qK hr0_0;have HC0_0:=qK hc0_0;clear hr0_0 hc0_0;have HR0_1:=qK hr0_1;have HC0_1:=qK hc0_1;clear hr0_1 hc0_1;have HR2:=qK hr2;have HC2:=qK hc2;clear hr2 hc2;have HB:=qK (Below.refl w.heap.size w);have H:(if 0≤a1 then (if a1 < (l0_1.length:Int) then ((spec_l11Edge.f k ((rd_T97 l0_1 a1).f0) ((rd_T97 l0_1 a1).f1)).bind fun t231=>(spec_l11Shared.l0 k l2 ([]:List Int) t231 (t231.length:Int) 0 l0_0 l0_1)) else (none)) else (none))=some r:=h;clear h;by_cases c4:0≤a1
 ·rw [if_pos c4] at H;have c4b0:decide (0≤a1)=true:=decide_eq_true c4;clear c4;by_cases c5:a1 < (l0_1.length:Int)
  ·rw [if_pos c5] at H;have c5b0:decide (a1 < (l0_1.length:Int))=true:=decide_eq_true c5;clear c5;replace H:=Option.bind_eq_some_iff.mp H;obtain ⟨t231,A60,H⟩:=H;replace H:(spec_l11Shared.l0 k l2 ([]:List Int) t231 (t231.length:Int) 0 l0_0 l0_1)=some r:=H;have A6:=qK A60;clear A60;have H':=qK H;clear H;go_enter Try.func84,Try.ntmps84
   go_wp2_with (first|((with_reducible refine gate_dst (N:=3) rfl ?_);refine box_event ?hg (N:=3) ?hd (cs:=#[.slice A0_0 l0_0.length c0_0,.slice A0_1 l0_1.length c0_1]) (t:=32) ?hr ?_;(case hd=>rfl);(case hg=>rfl);(case hr=>(go_simp;try rfl));intro gb229 hg w7 hbox hb;have n0_:=qK (qT (by repeat (with_reducible first|exact HB.out|apply qA|apply qD|apply qO)) hb);have n1_:=qK (hbox);have n2_:=qK ((by rw [hg];exact (qZ (by repeat (with_reducible first|exact HB.out|apply qA|apply qD|apply qO))):w.heap.size≤gb229));have n3_:=qK ((by rw [hg];exact (qZ (by repeat (with_reducible first|exact HB.out|apply qA|apply qD|apply qO))):w.heap.size≤gb229));clear HB;have HB:=n0_;have BK229:=n1_;have GW229:=n2_;have GE229:=n3_;clear n0_ n1_ n2_ n3_;clear hb hbox hg;have hcz8_0:w7.cell? ⟨gb229,0,none⟩=some (.slice A0_0 l0_0.length c0_0):=(qC BK229.out 0).trans rfl;have hcz8_1:w7.cell? ⟨gb229,1,none⟩=some (.slice A0_1 l0_1.length c0_1):=(qC BK229.out 1).trans rfl;have hfz8_0:=qF BK229.out 0;have hfz8_1:=qF BK229.out 1;have p230:0≤(a1:Int):=of_decide_eq_true (by first|(with_reducible assumption)|assumption);have q230:a1 < (l0_1.length:Int):=of_decide_eq_true (by first|(with_reducible assumption)|assumption);obtain ⟨ad230,A230_1,c230_1,e230,hx230_0,hx230_1,hl230_1,hi230_1⟩:=at_T97 HR0_1.out a1 p230 q230;cases e230;replace hx230_0:=(HB.out.cell (World.block_lt_of_cell? w _ hx230_0)).trans hx230_0;replace hx230_1:=(HB.out.cell (World.block_lt_of_cell? w _ hx230_1)).trans hx230_1;have HR230_1:=qK hi230_1;have HC230_1:=qK hl230_1;clear hi230_1 hl230_1;replace p230:=eq_true p230;replace q230:=eq_true q230)|((with_reducible refine gate_callee (f:=76) rfl ?_);refine goesL_ (some 17) rfl rfl Try.func76 (by kernel_rfl) rfl #[.agg #[.int .i64 ((rd_T97 l0_1 a1).f0),.slice A230_1 ((rd_T97 l0_1 a1).f1).length c230_1]] rfl (by (try simp only [mT,mC,mN]);first|done|rfl|(simp only [lD,lT];rfl)) ?_;(with_reducible refine (spec_l11Edge.calls k ((rd_T97 l0_1 a1).f0) _ _ ((rd_T97 l0_1 a1).f1) t231 _ ?side1 ?side2 A6.out).mono ?_);(case side1=>repeat (first|exact (cB HR230_1.out HB.out)|(with_reducible first|refine cL ?_ _|refine cN ?_ _|refine cW ?_)));(case side2=>exact HC230_1.out);rintro e w9 ⟨v232,rfl,ho0,hb⟩;refine ⟨_,rfl,?_⟩;have n0_:=qK (Kd.V_lower (Kd.V_mono (ok':=fun k_=>(w.heap.size≤k_)∧k_ ≠ gb229) ho0 (fun k_ hk_=>⟨(Nat.le_trans (qZ (by repeat (with_reducible first|exact HB.out|apply qA|apply qD|apply qO|refine qS ?_ GE229.out))) hk_),(Kd.freshB (g:=gb229) (o:=_) (by (with_reducible repeat (first|refine qN ?_ _|refine qW ?_|refine qL ?_ _));exact BK229.out) k_ hk_)⟩)) (qZ (by repeat (with_reducible first|exact HB.out|apply qA|apply qD|apply qO|refine qS ?_ GE229.out))));have n1_:=qK (qB (g:=gb229) (o:=_) (by (with_reducible repeat (first|refine qN ?_ _|refine qW ?_|refine qL ?_ _));exact BK229.out) hb);have n2_:=qK (qT (by repeat (with_reducible first|exact HB.out|apply qA|apply qD|apply qO|refine qS ?_ GE229.out)) hb);clear BK229;clear HB;have HO233:=n0_;have BK229:=n1_;have HB:=n2_;clear n0_ n1_ n2_;(try clear hb);(try clear ho0);obtain ⟨Ao10,co10,eo10⟩:=Kd.V_slice HO233.out;subst eo10))
   go_loopg [7,19] k (fun kq v7 v19 w'=>∃ (x7_1:List Int) (x19_1:Int),v19=.int .i64 x19_1∧Aside0 (spec_l11Shared.l0 kq l2 x7_1 t231 (t231.length:Int) x19_1 l0_0 l0_1=some r)∧Aside0 (kq≤k)∧Aside0 (Kd.V (Kd.int .i64) 3 w' w.heap.size (fun k_=>(w.heap.size≤k_)∧k_ ≠ gb229) v7 x7_1)∧Aside0 (Kd.V (Kd.int .i64) 3 w' w.heap.size (fun k_=>(w.heap.size≤k_)∧k_ ≠ gb229) (.slice Ao10 t231.length co10) t231)∧Aside0 (w'.heap[gb229]?=some (.cells #[(.slice A0_0 l0_0.length c0_0),(.slice (some ad230) l0_1.length c0_1)] 32 (0,0)))∧Aside0 (Below w.heap.size w w'))
   case atStart=>exact ⟨(([]:List Int)),(0),(by first|rfl|(simp;done)|(simp [*];done)),H',⟨Nat.le_refl _⟩,⟨Kd.R_V (base:=0) (by first|exact Kd.R_nil _ _ _ _ _|exact Kd.N_nil _ _ _ _ _|exact Kd.V_nil _ _ _ _ _|exact Kd.Q_nil _ _ _ _ _|exact Kd.S_nil _ _ _ _ _)⟩,⟨by (with_reducible repeat (first|apply Kd.V_alloc|apply Kd.V_drewN|apply Kd.V_drew));exact HO233.out⟩,⟨by (with_reducible repeat (first|refine qN ?_ _|refine qW ?_|refine qL ?_ _));exact BK229.out⟩,⟨by repeat (first|(with_reducible first|exact HB.out|apply qA|apply qD|apply qO|refine qS ?_ GE229.out)|exact HB.out)⟩⟩
   case round =>
    clear H';try clear c2
    try clear p2
    try clear q2
    try clear hx2
    try clear c4
    try clear c4b0
    try clear c5
    try clear c5b0
    try clear c7
    try clear c8
    try clear hcz8_0
    try clear hcz8_1
    try clear hfz8_0
    try clear hfz8_1
    try clear hx230_0
    try clear hx230_1
    try clear p230
    try clear q230
    obtain ⟨x7_1,x19_1,rfl,HA,HK1,HO_7,HO_17,BK229,HB⟩:=hrel;cases gk with
    | zero=>exact absurd HA.out (by simp [spec_l11Shared.l0])
    | succ k1 =>
     have H:=HA.out;clear HA;simp only [spec_l11Shared.l0] at H;by_cases c11:x19_1 < (t231.length:Int)
     ·rw [if_pos c11] at H;have c11b0:decide (x19_1 < (t231.length:Int))=true:=decide_eq_true c11;clear c11;by_cases c12:0≤x19_1
      ·rw [if_pos c12] at H;have c12b0:decide (0≤x19_1)=true:=decide_eq_true c12;clear c12;by_cases c13:x19_1 < (t231.length:Int)
       ·rw [if_pos c13] at H;have c13b0:decide (x19_1 < (t231.length:Int))=true:=decide_eq_true c13;clear c13;have H':=qK H;clear H;have p234:0≤(x19_1:Int):=of_decide_eq_true (by first|(with_reducible assumption)|assumption);have q234:x19_1 < (t231.length:Int):=of_decide_eq_true (by first|(with_reducible assumption)|assumption);obtain ⟨ad234,e234,hx234_0⟩:=Kd.at_int (Kd.V_reads' HO_17.out).2.2 x19_1 p234 q234;cases e234
        replace p234:=eq_true p234;replace q234:=eq_true q234;go_wp2
        go_loopg [7,25] k1 (fun kq v7 v25 w'=>∃ (x7_2:List Int) (x25_2:Int),v25=.int .i64 x25_2∧Aside0 (spec_l11Shared.l1 kq l2 x7_2 (rd t231 x19_1) t231 (t231.length:Int) x19_1 l2 (l2.length:Int) x25_2 l0_0 l0_1=some r)∧Aside0 (kq≤k1)∧Aside0 (Kd.V (Kd.int .i64) 3 w' w.heap.size (fun k_=>(w.heap.size≤k_)∧k_ ≠ gb229) v7 x7_2)∧Aside0 (Kd.V (Kd.int .i64) 3 w' w.heap.size (fun k_=>(w.heap.size≤k_)∧k_ ≠ gb229) (.slice (some ad234) t231.length co10) t231)∧Aside0 (w'.heap[gb229]?=some (.cells #[(.slice A0_0 l0_0.length c0_0),(.slice (some ad230) l0_1.length c0_1)] 32 (0,0)))∧Aside0 (Below w.heap.size w w'))
        case atStart=>exact ⟨(x7_1),(0),(by first|rfl|(simp;done)|(simp [*];done)),H',⟨Nat.le_refl _⟩,⟨by (with_reducible repeat (first|apply Kd.V_alloc|apply Kd.V_drewN|apply Kd.V_drew));exact HO_7.out⟩,⟨by (with_reducible repeat (first|apply Kd.V_alloc|apply Kd.V_drewN|apply Kd.V_drew));exact HO_17.out⟩,⟨by (with_reducible repeat (first|refine qN ?_ _|refine qW ?_|refine qL ?_ _));exact BK229.out⟩,⟨by repeat (first|(with_reducible first|exact HB.out|apply qA|apply qD|apply qO|refine qS ?_ GE229.out)|exact HB.out)⟩⟩
        case round =>
         clear H';try clear c1
         try clear c2
         try clear p2
         try clear q2
         try clear hx2
         try clear c4
         try clear c4b0
         try clear c5
         try clear c5b0
         try clear c7
         try clear c8
         try clear c11
         try clear c11b0
         try clear c12
         try clear c12b0
         try clear c13
         try clear c13b0
         try clear hcz8_0
         try clear hcz8_1
         try clear hfz8_0
         try clear hfz8_1
         try clear hx230_0
         try clear hx230_1
         try clear hx234_0
         try clear p2
         try clear p230
         try clear p234
         try clear q2
         try clear q230
         try clear q234
         obtain ⟨x7_2,x25_2,rfl,HA,HK2,HO_7,HO_17,BK229,HB⟩:=hrel;cases gk with
         | zero=>exact absurd HA.out (by simp [spec_l11Shared.l1])
         | succ k2 =>
          have H:=HA.out;clear HA;simp only [spec_l11Shared.l1] at H;by_cases c14:x25_2 < (l2.length:Int)
          ·rw [if_pos c14] at H;have c14b0:decide (x25_2 < (l2.length:Int))=true:=decide_eq_true c14;clear c14;by_cases c15:0≤x25_2
           ·rw [if_pos c15] at H;have c15b0:decide (0≤x25_2)=true:=decide_eq_true c15;clear c15;by_cases c16:x25_2 < (l2.length:Int)
            ·rw [if_pos c16] at H;have c16b0:decide (x25_2 < (l2.length:Int))=true:=decide_eq_true c16;clear c16;by_cases c17:0≤(rd l2 x25_2)
             ·rw [if_pos c17] at H;have c17b0:decide (0≤(rd l2 x25_2))=true:=decide_eq_true c17;clear c17;by_cases c18:(rd l2 x25_2) < (l0_1.length:Int)
              ·rw [if_pos c18] at H;have c18b0:decide ((rd l2 x25_2) < (l0_1.length:Int))=true:=decide_eq_true c18;clear c18;replace H:=Option.bind_eq_some_iff.mp H;obtain ⟨t237,A190,H⟩:=H;replace H:(if t237=true then ((spec_l7Put.f k2 x7_2 (rd t231 x19_1)).bind fun t238=>(spec_l11Shared.l1 k2 l2 t238 (rd t231 x19_1) t231 (t231.length:Int) x19_1 l2 (l2.length:Int) (wrap64 (x25_2 + 1)) l0_0 l0_1)) else (spec_l11Shared.l1 k2 l2 x7_2 (rd t231 x19_1) t231 (t231.length:Int) x19_1 l2 (l2.length:Int) (wrap64 (x25_2 + 1)) l0_0 l0_1))=some r:=H;have A19:=qK A190;clear A190;by_cases c20:t237=true
               ·subst c20;have H1:((spec_l7Put.f k2 x7_2 (rd t231 x19_1)).bind fun t238=>(spec_l11Shared.l1 k2 l2 t238 (rd t231 x19_1) t231 (t231.length:Int) x19_1 l2 (l2.length:Int) (wrap64 (x25_2 + 1)) l0_0 l0_1))=some r:=by rw [if_pos rfl] at H;exact H
                clear H;have H:=H1;clear H1;replace H:=Option.bind_eq_some_iff.mp H;obtain ⟨t238,A210,H⟩:=H;replace H:(spec_l11Shared.l1 k2 l2 t238 (rd t231 x19_1) t231 (t231.length:Int) x19_1 l2 (l2.length:Int) (wrap64 (x25_2 + 1)) l0_0 l0_1)=some r:=H;have A21:=qK A210;clear A210;have H':=qK H;clear H;have p235:0≤(x25_2:Int):=of_decide_eq_true (by first|(with_reducible assumption)|assumption);have q235:x25_2 < (l2.length:Int):=of_decide_eq_true (by first|(with_reducible assumption)|assumption);obtain ⟨ad235,e235,hx235_0⟩:=Kd.at_int HR2.out x25_2 p235 q235;cases e235
                replace hx235_0:=(HB.out.cell (World.block_lt_of_cell? w _ hx235_0)).trans hx235_0;replace p235:=eq_true p235;replace q235:=eq_true q235;have hcz22_0:wr.cell? ⟨gb229,0,none⟩=some (.slice A0_0 l0_0.length c0_0):=(qC BK229.out 0).trans rfl;have hcz22_1:wr.cell? ⟨gb229,1,none⟩=some (.slice (some ad230) l0_1.length c0_1):=(qC BK229.out 1).trans rfl;have hfz22_0:=qF BK229.out 0;have hfz22_1:=qF BK229.out 1;have p236:0≤((rd l2 x25_2):Int):=of_decide_eq_true (by first|(with_reducible assumption)|assumption);have q236:(rd l2 x25_2) < (l0_1.length:Int):=of_decide_eq_true (by first|(with_reducible assumption)|assumption);obtain ⟨ad236,A236_1,c236_1,e236,hx236_0,hx236_1,hl236_1,hi236_1⟩:=at_T97 HR0_1.out (rd l2 x25_2) p236 q236;obtain rfl:ad230=ad236:=(by injection e236);replace hx236_0:=(HB.out.cell (World.block_lt_of_cell? w _ hx236_0)).trans hx236_0;replace hx236_1:=(HB.out.cell (World.block_lt_of_cell? w _ hx236_1)).trans hx236_1;have HR236_1:=qK hi236_1;have HC236_1:=qK hl236_1;clear hi236_1 hl236_1;replace p236:=eq_true p236;replace q236:=eq_true q236;go_wp2_with (first|((with_reducible refine gate_callee (f:=82) rfl ?_);refine goesL_ (some 36) rfl rfl Try.func82 (by kernel_rfl) rfl #[.slice A236_1 ((rd_T97 l0_1 (rd l2 x25_2)).f1).length c236_1,.int .i64 (rd t231 x19_1)] rfl (by (try simp only [mT,mC,mN]);first|done|rfl|(simp only [lD,lT];rfl)) ?_;(with_reducible refine (spec_l1Has.calls k2 _ _ ((rd_T97 l0_1 (rd l2 x25_2)).f1) (rd t231 x19_1) true _ ?side1 ?side2 A19.out).mono ?_);(case side1=>repeat (first|exact (cB HR236_1.out HB.out)|(with_reducible first|refine cL ?_ _|refine cN ?_ _|refine cW ?_)));(case side2=>exact HC236_1.out);rintro e w' ⟨rfl,⟨nd,rfl⟩⟩;refine ⟨_,rfl,?_⟩;obtain ⟨Ao23,co23,eo23⟩:=Kd.V_slice HO_7.out;subst eo23)|((with_reducible refine gate_callee (f:=141) rfl ?_);refine goesL_ (some 39) rfl rfl Try.func141 (by kernel_rfl) rfl #[.slice Ao23 x7_2.length co23,.int .i64 (rd t231 x19_1)] rfl (by (try simp only [mT,mC,mN]);first|done|rfl|(simp only [lD,lT];rfl)) ?_;(with_reducible refine (spec_l7Put.calls k2 (fun k_=>((w.heap.size≤k_)∧k_ ≠ gb229)) _ _ x7_2 (rd t231 x19_1) t238 _ ?side1 A21.out).mono ?_);(case side1=>exact HO_7.out);rintro e w24 ⟨v239,rfl,ho0,hb⟩;refine ⟨_,rfl,?_⟩;have n0_:=qK (Kd.V_below (by (with_reducible repeat (first|apply Kd.V_alloc|apply Kd.V_drewN|apply Kd.V_drew));exact HO_7.out) hb);have n1_:=qK (Kd.V_below (by (with_reducible repeat (first|apply Kd.V_alloc|apply Kd.V_drewN|apply Kd.V_drew));exact HO_17.out) hb);have n2_:=qK (Kd.V_lower (Kd.V_mono (ok':=fun k_=>(w.heap.size≤k_)∧k_ ≠ gb229) ho0 (fun k_ hk_=>⟨Or.elim hk_ (fun hs_=>hs_.1) (fun hn_=>(Nat.le_trans (qZ (by repeat (with_reducible first|exact HB.out|apply qA|apply qD|apply qO|refine qS ?_ GE229.out))) hn_)),Or.elim hk_ (fun hs_=>hs_.2) (fun hn_=>(Kd.freshB (g:=gb229) (o:=_) (by (with_reducible repeat (first|refine qN ?_ _|refine qW ?_|refine qL ?_ _));exact BK229.out) k_ hn_))⟩)) (qZ (by repeat (with_reducible first|exact HB.out|apply qA|apply qD|apply qO|refine qS ?_ GE229.out))));have n3_:=qK (qB (g:=gb229) (o:=_) (by (with_reducible repeat (first|refine qN ?_ _|refine qW ?_|refine qL ?_ _));exact BK229.out) hb);have n4_:=qK (qT (by repeat (with_reducible first|exact HB.out|apply qA|apply qD|apply qO|refine qS ?_ GE229.out)) hb);clear HO_7;clear HO_17;clear BK229;clear HB;have HO_7:=n0_;have HO_17:=n1_;have HO240:=n2_;have BK229:=n3_;have HB:=n4_;clear n0_ n1_ n2_ n3_ n4_;(try clear hb);(try clear ho0)))
                go_roundg k2
                case measure=>have:=HK1.out;have:=HK2.out;omega
                case rel=>exact ⟨(t238),(wrap64 (x25_2 + 1)),(by first|rfl|(simp;done)|(simp [*];done)),H',⟨by have:=HK1.out;have:=HK2.out;omega⟩,⟨by (with_reducible repeat (first|apply Kd.V_alloc|apply Kd.V_drewN|apply Kd.V_drew));exact HO240.out⟩,⟨by (with_reducible repeat (first|apply Kd.V_alloc|apply Kd.V_drewN|apply Kd.V_drew));exact HO_17.out⟩,⟨by (with_reducible repeat (first|refine qN ?_ _|refine qW ?_|refine qL ?_ _));exact BK229.out⟩,⟨by repeat (first|(with_reducible first|exact HB.out|apply qA|apply qD|apply qO|refine qS ?_ GE229.out)|exact HB.out)⟩⟩
               ·replace c20:=Bool.eq_false_iff.mpr c20;subst c20;have H1:(spec_l11Shared.l1 k2 l2 x7_2 (rd t231 x19_1) t231 (t231.length:Int) x19_1 l2 (l2.length:Int) (wrap64 (x25_2 + 1)) l0_0 l0_1)=some r:=by rw [if_neg (show ¬ (false=true) by decide)] at H;exact H
                clear H;have H:=H1;clear H1;have H':=qK H;clear H;have p235:0≤(x25_2:Int):=of_decide_eq_true (by first|(with_reducible assumption)|assumption);have q235:x25_2 < (l2.length:Int):=of_decide_eq_true (by first|(with_reducible assumption)|assumption);obtain ⟨ad235,e235,hx235_0⟩:=Kd.at_int HR2.out x25_2 p235 q235;cases e235
                replace hx235_0:=(HB.out.cell (World.block_lt_of_cell? w _ hx235_0)).trans hx235_0;replace p235:=eq_true p235;replace q235:=eq_true q235;have hcz25_0:wr.cell? ⟨gb229,0,none⟩=some (.slice A0_0 l0_0.length c0_0):=(qC BK229.out 0).trans rfl;have hcz25_1:wr.cell? ⟨gb229,1,none⟩=some (.slice (some ad230) l0_1.length c0_1):=(qC BK229.out 1).trans rfl;have hfz25_0:=qF BK229.out 0;have hfz25_1:=qF BK229.out 1;have p236:0≤((rd l2 x25_2):Int):=of_decide_eq_true (by first|(with_reducible assumption)|assumption);have q236:(rd l2 x25_2) < (l0_1.length:Int):=of_decide_eq_true (by first|(with_reducible assumption)|assumption);obtain ⟨ad236,A236_1,c236_1,e236,hx236_0,hx236_1,hl236_1,hi236_1⟩:=at_T97 HR0_1.out (rd l2 x25_2) p236 q236;obtain rfl:ad230=ad236:=(by injection e236);replace hx236_0:=(HB.out.cell (World.block_lt_of_cell? w _ hx236_0)).trans hx236_0;replace hx236_1:=(HB.out.cell (World.block_lt_of_cell? w _ hx236_1)).trans hx236_1;have HR236_1:=qK hi236_1;have HC236_1:=qK hl236_1;clear hi236_1 hl236_1;replace p236:=eq_true p236;replace q236:=eq_true q236;go_wp2_with (first|((with_reducible refine gate_callee (f:=82) rfl ?_);refine goesL_ (some 36) rfl rfl Try.func82 (by kernel_rfl) rfl #[.slice A236_1 ((rd_T97 l0_1 (rd l2 x25_2)).f1).length c236_1,.int .i64 (rd t231 x19_1)] rfl (by (try simp only [mT,mC,mN]);first|done|rfl|(simp only [lD,lT];rfl)) ?_;(with_reducible refine (spec_l1Has.calls k2 _ _ ((rd_T97 l0_1 (rd l2 x25_2)).f1) (rd t231 x19_1) false _ ?side1 ?side2 A19.out).mono ?_);(case side1=>repeat (first|exact (cB HR236_1.out HB.out)|(with_reducible first|refine cL ?_ _|refine cN ?_ _|refine cW ?_)));(case side2=>exact HC236_1.out);rintro e w' ⟨rfl,⟨nd,rfl⟩⟩;refine ⟨_,rfl,?_⟩))
                go_roundg k2
                case measure=>have:=HK1.out;have:=HK2.out;omega
                case rel=>exact ⟨(x7_2),(wrap64 (x25_2 + 1)),(by first|rfl|(simp;done)|(simp [*];done)),H',⟨by have:=HK1.out;have:=HK2.out;omega⟩,⟨by (with_reducible repeat (first|apply Kd.V_alloc|apply Kd.V_drewN|apply Kd.V_drew));exact HO_7.out⟩,⟨by (with_reducible repeat (first|apply Kd.V_alloc|apply Kd.V_drewN|apply Kd.V_drew));exact HO_17.out⟩,⟨by (with_reducible repeat (first|refine qN ?_ _|refine qW ?_|refine qL ?_ _));exact BK229.out⟩,⟨by repeat (first|(with_reducible first|exact HB.out|apply qA|apply qD|apply qO|refine qS ?_ GE229.out)|exact HB.out)⟩⟩
              ·rw [if_neg c18] at H;exact absurd H (by simp)
             ·rw [if_neg c17] at H;exact absurd H (by simp)
            ·rw [if_neg c16] at H;exact absurd H (by simp)
           ·rw [if_neg c15] at H;exact absurd H (by simp)
          ·rw [if_neg c14] at H;have c14b0:decide (x25_2 < (l2.length:Int))=false:=decide_eq_false c14;clear c14;have H':=qK H;clear H;go_wp2
           go_roundg k2
           case measure=>have:=HK1.out;have:=HK2.out;omega
           case rel=>exact ⟨(x7_2),(wrap64 (x19_1 + 1)),(by first|rfl|(simp;done)|(simp [*];done)),H',⟨by have:=HK1.out;have:=HK2.out;omega⟩,⟨by (with_reducible repeat (first|apply Kd.V_alloc|apply Kd.V_drewN|apply Kd.V_drew));exact HO_7.out⟩,⟨by (with_reducible repeat (first|apply Kd.V_alloc|apply Kd.V_drewN|apply Kd.V_drew));exact HO_17.out⟩,⟨by (with_reducible repeat (first|refine qN ?_ _|refine qW ?_|refine qL ?_ _));exact BK229.out⟩,⟨by repeat (first|(with_reducible first|exact HB.out|apply qA|apply qD|apply qO|refine qS ?_ GE229.out)|exact HB.out)⟩⟩
       ·rw [if_neg c13] at H;exact absurd H (by simp)
      ·rw [if_neg c12] at H;exact absurd H (by simp)
     ·rw [if_neg c11] at H;have c11b0:decide (x19_1 < (t231.length:Int))=false:=decide_eq_false c11;clear c11;obtain rfl:=Option.some.inj H;go_wp2
      go_ret
      exact ⟨_,by first|rfl|(simp [errW_none,errW_some] <;> rfl)|(simp [*,errW_none,errW_some] <;> rfl),by (with_reducible repeat (first|apply Kd.V_alloc|apply Kd.V_drewN|apply Kd.V_drew));exact Kd.V_mono HO_7.out (fun _ hk=>hk.1),by repeat (first|(with_reducible first|exact HB.out|apply qA|apply qD|apply qO|refine qS ?_ GE229.out)|exact HB.out)⟩
  ·rw [if_neg c5] at H;exact absurd H (by simp)
 ·rw [if_neg c4] at H;exact absurd H (by simp)

/-! ### spec_l11Ear: function 165 -/
mutual
def spec_l11Ear.l0 : Nat→List Int→List Int→Int→Int→List Int→List (S97)→Option (Int × Int × Bool)
 | 0,_,_,_,_,_,_=>none
 | k + 1,x1,x12,x13,x14,x242000,x242001=>if x14 < x13 then (if 0≤x14 then (if x14 < (x12.length:Int) then ((spec_l11Without.f k x1 (rd x12 x14)).bind fun t244=>((spec_l11Shared.f k x242000 x242001 (rd x12 x14) t244).bind fun t247=>(spec_l11Ear.l1 k x1 (rd x12 x14) t247 x12 x13 x14 t244 (t244.length:Int) 0 x242000 x242001))) else (none)) else (none)) else (some (0,0,false))
def spec_l11Ear.l1 : Nat→List Int→Int→List Int→List Int→Int→Int→List Int→Int→Int→List Int→List (S97)→Option (Int × Int × Bool)
 | 0,_,_,_,_,_,_,_,_,_,_,_=>none
 | k + 1,x1,x7,x9,x12,x13,x14,x25,x26,x27,x242000,x242001=>if x27 < x26 then (if 0≤x27 then (if x27 < (x25.length:Int) then (if 0≤(rd x25 x27) then (if (rd x25 x27) < (x242001.length:Int) then ((spec_l7All.f k ((rd_T97 x242001 (rd x25 x27)).f1) x9).bind fun t252=>(if t252=true then (some (x7,rd x25 x27,true)) else (spec_l11Ear.l1 k x1 x7 x9 x12 x13 x14 x25 x26 (wrap64 (x27 + 1)) x242000 x242001))) else (none)) else (none)) else (none)) else (none)) else (spec_l11Ear.l0 k x1 x12 x13 (wrap64 (x14 + 1)) x242000 x242001)
end
def spec_l11Ear.f (k:Nat) (l0_0:List Int) (l0_1:List (S97)) (l1:List Int):Option (Int × Int × Bool):=spec_l11Ear.l0 k l1 l1 (l1.length:Int) 0 l0_0 l0_1
theorem spec_l11Ear.mono_l : ∀ k,(∀ y0 y1 y2 y3 y4 y5,LeO (spec_l11Ear.l0 k y0 y1 y2 y3 y4 y5) (spec_l11Ear.l0 (k + 1) y0 y1 y2 y3 y4 y5))∧(∀ y0 y1 y2 y3 y4 y5 y6 y7 y8 y9 y10,LeO (spec_l11Ear.l1 k y0 y1 y2 y3 y4 y5 y6 y7 y8 y9 y10) (spec_l11Ear.l1 (k + 1) y0 y1 y2 y3 y4 y5 y6 y7 y8 y9 y10))
 | 0=>⟨fun _ _ _ _ _ _ r h=>by simp [spec_l11Ear.l0] at h,fun _ _ _ _ _ _ _ _ _ _ _ r h=>by simp [spec_l11Ear.l1] at h⟩
 | k + 1=>by
  obtain ⟨ih0,ih1⟩:=spec_l11Ear.mono_l k;refine ⟨?_,?_⟩
  ·intro y0 y1 y2 y3 y4 y5;unfold spec_l11Ear.l0
   repeat' first
   | (with_reducible exact ih0 _ _ _ _ _ _)
   | (with_reducible exact ih1 _ _ _ _ _ _ _ _ _ _ _)
   | (with_reducible exact spec_l11Shared.mono _ _ _ _ _)
   | (with_reducible exact spec_l11Without.mono _ _ _)
   | (with_reducible exact spec_l7All.mono _ _ _)
   | (with_reducible exact LeO.refl _)
   | (with_reducible exact LeO.none _)
   | (with_reducible refine LeO.ite ?_ ?_)
   | (with_reducible refine LeO.bind ?_ (fun _=>?_))
   | exact ih0 _ _ _ _ _ _
   | exact ih1 _ _ _ _ _ _ _ _ _ _ _
   | exact spec_l11Shared.mono _ _ _ _ _
   | exact spec_l11Without.mono _ _ _
   | exact spec_l7All.mono _ _ _
   | exact LeO.none _
   | refine LeO.ite ?_ ?_
   | refine LeO.bind ?_ (fun _=>?_)
  ·intro y0 y1 y2 y3 y4 y5 y6 y7 y8 y9 y10;unfold spec_l11Ear.l1
   repeat' first
   | (with_reducible exact ih0 _ _ _ _ _ _)
   | (with_reducible exact ih1 _ _ _ _ _ _ _ _ _ _ _)
   | (with_reducible exact spec_l11Shared.mono _ _ _ _ _)
   | (with_reducible exact spec_l11Without.mono _ _ _)
   | (with_reducible exact spec_l7All.mono _ _ _)
   | (with_reducible exact LeO.refl _)
   | (with_reducible exact LeO.none _)
   | (with_reducible refine LeO.ite ?_ ?_)
   | (with_reducible refine LeO.bind ?_ (fun _=>?_))
   | exact ih0 _ _ _ _ _ _
   | exact ih1 _ _ _ _ _ _ _ _ _ _ _
   | exact spec_l11Shared.mono _ _ _ _ _
   | exact spec_l11Without.mono _ _ _
   | exact spec_l7All.mono _ _ _
   | exact LeO.none _
   | refine LeO.ite ?_ ?_
   | refine LeO.bind ?_ (fun _=>?_)
theorem spec_l11Ear.mono : ∀ a0 a1 a2 k,LeO (spec_l11Ear.f k a0 a1 a2) (spec_l11Ear.f (k + 1) a0 a1 a2):=by
 intro a0 a1 a2 k;obtain ⟨ih0,ih1⟩:=spec_l11Ear.mono_l k;unfold spec_l11Ear.f
 repeat' first
   | (with_reducible exact ih0 _ _ _ _ _ _)
   | (with_reducible exact ih1 _ _ _ _ _ _ _ _ _ _ _)
   | (with_reducible exact spec_l11Shared.mono _ _ _ _ _)
   | (with_reducible exact spec_l11Without.mono _ _ _)
   | (with_reducible exact spec_l7All.mono _ _ _)
   | (with_reducible exact LeO.refl _)
   | (with_reducible exact LeO.none _)
   | (with_reducible refine LeO.ite ?_ ?_)
   | (with_reducible refine LeO.bind ?_ (fun _=>?_))
   | exact ih0 _ _ _ _ _ _
   | exact ih1 _ _ _ _ _ _ _ _ _ _ _
   | exact spec_l11Shared.mono _ _ _ _ _
   | exact spec_l11Without.mono _ _ _
   | exact spec_l7All.mono _ _ _
   | exact LeO.none _
   | refine LeO.ite ?_ ?_
   | refine LeO.bind ?_ (fun _=>?_)
set_option maxHeartbeats 8000000 in
set_option maxRecDepth 100000 in
theorem spec_l11Ear.calls (k:Nat) (A0_0:Option Addr) (c0_0:Nat) (l0_0:List Int) (A0_1:Option Addr) (c0_1:Nat) (l0_1:List (S97)) (A1:Option Addr) (c1:Nat) (l1:List Int) (r1:Int) (r2:Int) (r3:Bool) (w:World) (hr0_0:Kd.C (Kd.int .i64) w A0_0 l0_0.length l0_0) (hc0_0:l0_0.length≤c0_0) (hr0_1:Kd.C k97 w A0_1 l0_1.length l0_1) (hc0_1:l0_1.length≤c0_1) (hr1:Kd.C (Kd.int .i64) w A1 l1.length l1) (hc1:l1.length≤c1) (h:spec_l11Ear.f k l0_0 l0_1 l1=some (r1,r2,r3)) :
  Calls Try.prog 165 #[.agg #[.slice A0_0 l0_0.length c0_0,.slice A0_1 l0_1.length c0_1],.slice A1 l1.length c1] w fun e w'=>e=.returned (.tuple #[.agg #[.int .i64 r1,.int .i64 r2],.bool r3])∧Below w.heap.size w w':=by
 have hu32:=Try.underlying32;have hu106:=Try.underlying106;have HR0_0:=qK hr0_0;have HC0_0:=qK hc0_0;clear hr0_0 hc0_0;have HR0_1:=qK hr0_1;have HC0_1:=qK hc0_1;clear hr0_1 hc0_1;have HR1:=qK hr1;have HC1:=qK hc1;clear hr1 hc1;have HB:=qK (Below.refl w.heap.size w);have H:(spec_l11Ear.l0 k l1 l1 (l1.length:Int) 0 l0_0 l0_1)=some (r1,r2,r3):=h;clear h;have H':=qK H;clear H;go_enter Try.func165,Try.ntmps165
 go_wp2_with (first|((with_reducible refine gate_dst (N:=2) rfl ?_);refine box_event ?hg (N:=2) ?hd (cs:=#[.slice A0_0 l0_0.length c0_0,.slice A0_1 l0_1.length c0_1]) (t:=32) ?hr ?_;(case hd=>rfl);(case hg=>rfl);(case hr=>(go_simp;try rfl));intro gb241 hg w3 hbox hb;have n0_:=qK (qT (by repeat (with_reducible first|exact HB.out|apply qA|apply qD|apply qO)) hb);have n1_:=qK (hbox);have n2_:=qK ((by rw [hg];exact (qZ (by repeat (with_reducible first|exact HB.out|apply qA|apply qD|apply qO))):w.heap.size≤gb241));have n3_:=qK ((by rw [hg];exact (qZ (by repeat (with_reducible first|exact HB.out|apply qA|apply qD|apply qO))):w.heap.size≤gb241));clear HB;have HB:=n0_;have BK241:=n1_;have GW241:=n2_;have GE241:=n3_;clear n0_ n1_ n2_ n3_;clear hb hbox hg)|((with_reducible refine gate_dst (N:=4) rfl ?_);refine box_event ?hg (N:=4) ?hd (cs:=#[.int .i64 0,.int .i64 0]) (t:=106) ?hr ?_;(case hd=>rfl);(case hg=>rfl);(case hr=>(go_simp;try rfl));intro gb242 hg w4 hbox hb;have n0_:=qK (qB (g:=gb241) (o:=_) (by (with_reducible repeat (first|refine qN ?_ _|refine qW ?_|refine qL ?_ _));exact BK241.out) hb);have n1_:=qK (qT (by repeat (with_reducible first|exact HB.out|apply qA|apply qD|apply qO|refine qS ?_ GE241.out)) hb);have n2_:=qK (hbox);have n3_:=qK ((by rw [hg];exact (qZ (by repeat (with_reducible first|exact HB.out|apply qA|apply qD|apply qO|refine qS ?_ GE241.out))):w.heap.size≤gb242));have n4_:=qK ((by rw [hg];exact (qZ (by repeat (with_reducible first|exact HB.out|apply qA|apply qD|apply qO|refine qS ?_ GE241.out))):w.heap.size≤gb242));have n5_:=qK ((by rw [hg];exact Nat.ne_of_lt (blk_lt (g:=gb241) (o:=_) (by (with_reducible repeat (first|refine qN ?_ _|refine qW ?_|refine qL ?_ _));exact BK241.out)):gb241 ≠ gb242));have n6_:=qK ((by rw [hg];exact Nat.ne_of_gt (blk_lt (g:=gb241) (o:=_) (by (with_reducible repeat (first|refine qN ?_ _|refine qW ?_|refine qL ?_ _));exact BK241.out)):gb242 ≠ gb241));clear BK241;clear HB;have BK241:=n0_;have HB:=n1_;have BK242:=n2_;have GW242:=n3_;have GE242:=n4_;have NB241_242:=n5_;have NB242_241:=n6_;clear n0_ n1_ n2_ n3_ n4_ n5_ n6_;clear hb hbox hg))
 go_loopg [14] k (fun kq v14 w'=>∃ (x14_1:Int) (x243000_1:Int) (x243001_1:Int),v14=.int .i64 x14_1∧Aside0 (spec_l11Ear.l0 kq l1 l1 (l1.length:Int) x14_1 l0_0 l0_1=some (r1,r2,r3))∧Aside0 (kq≤k)∧Aside0 (w'.heap[gb241]?=some (.cells #[(.slice A0_0 l0_0.length c0_0),(.slice A0_1 l0_1.length c0_1)] 32 (0,0)))∧Aside0 (w'.heap[gb242]?=some (.cells #[.int .i64 x243000_1,.int .i64 x243001_1] 106 (0,0)))∧Aside0 (Below w.heap.size w w'))
 case atStart=>exact ⟨(0),(0),(0),(by first|rfl|(simp;done)|(simp [*];done)),H',⟨Nat.le_refl _⟩,⟨by (with_reducible repeat (first|refine qN ?_ _|refine qW ?_|refine qL ?_ _));exact BK241.out⟩,⟨by (with_reducible repeat (first|refine qN ?_ _|refine qW ?_|refine qL ?_ _));exact BK242.out⟩,⟨by repeat (first|(with_reducible first|exact HB.out|apply qA|apply qD|apply qO|refine qS ?_ GE241.out|refine qS ?_ GE242.out)|exact HB.out)⟩⟩
 case round =>
  clear H';try clear c1
  try clear p2
  obtain ⟨x14_1,x243000_1,x243001_1,rfl,HA,HK1,BK241,BK242,HB⟩:=hrel;cases gk with
  | zero=>exact absurd HA.out (by simp [spec_l11Ear.l0])
  | succ k1 =>
   have H:=HA.out;clear HA;simp only [spec_l11Ear.l0] at H;by_cases c5:x14_1 < (l1.length:Int)
   ·rw [if_pos c5] at H;have c5b0:decide (x14_1 < (l1.length:Int))=true:=decide_eq_true c5;clear c5;by_cases c6:0≤x14_1
    ·rw [if_pos c6] at H;have c6b0:decide (0≤x14_1)=true:=decide_eq_true c6;clear c6;by_cases c7:x14_1 < (l1.length:Int)
     ·rw [if_pos c7] at H;have c7b0:decide (x14_1 < (l1.length:Int))=true:=decide_eq_true c7;clear c7;replace H:=Option.bind_eq_some_iff.mp H;obtain ⟨t244,A80,H⟩:=H;replace H:((spec_l11Shared.f k1 l0_0 l0_1 (rd l1 x14_1) t244).bind fun t247=>(spec_l11Ear.l1 k1 l1 (rd l1 x14_1) t247 l1 (l1.length:Int) x14_1 t244 (t244.length:Int) 0 l0_0 l0_1))=some (r1,r2,r3):=H;have A8:=qK A80;clear A80;replace H:=Option.bind_eq_some_iff.mp H;obtain ⟨t247,A90,H⟩:=H;replace H:(spec_l11Ear.l1 k1 l1 (rd l1 x14_1) t247 l1 (l1.length:Int) x14_1 t244 (t244.length:Int) 0 l0_0 l0_1)=some (r1,r2,r3):=H;have A9:=qK A90;clear A90;have H':=qK H;clear H;have p243:0≤(x14_1:Int):=of_decide_eq_true (by first|(with_reducible assumption)|assumption);have q243:x14_1 < (l1.length:Int):=of_decide_eq_true (by first|(with_reducible assumption)|assumption);obtain ⟨ad243,e243,hx243_0⟩:=Kd.at_int HR1.out x14_1 p243 q243;cases e243
      replace hx243_0:=(HB.out.cell (World.block_lt_of_cell? w _ hx243_0)).trans hx243_0;replace p243:=eq_true p243;replace q243:=eq_true q243;go_wp2_with (first|((with_reducible refine gate_callee (f:=145) rfl ?_);refine goesL_ (some 20) rfl rfl Try.func145 (by kernel_rfl) rfl #[.slice (some ad243) l1.length c1,.int .i64 (rd l1 x14_1)] rfl (by (try simp only [mT,mC,mN]);first|done|rfl|(simp only [lD,lT];rfl)) ?_;(with_reducible refine (spec_l11Without.calls k1 _ _ l1 (rd l1 x14_1) t244 _ ?side1 ?side2 A8.out).mono ?_);(case side1=>repeat (first|exact (cB HR1.out HB.out)|(with_reducible first|refine cL ?_ _|refine cN ?_ _|refine cW ?_)));(case side2=>exact HC1.out);rintro e w10 ⟨v245,rfl,ho0,hb⟩;refine ⟨_,rfl,?_⟩;have n0_:=qK (Kd.R_lower ho0 (qZ (by repeat (with_reducible first|exact HB.out|apply qA|apply qD|apply qO|refine qS ?_ GE241.out|refine qS ?_ GE242.out))));have n1_:=qK (qB (g:=gb241) (o:=_) (by (with_reducible repeat (first|refine qN ?_ _|refine qW ?_|refine qL ?_ _));exact BK241.out) hb);have n2_:=qK (qB (g:=gb242) (o:=_) (by (with_reducible repeat (first|refine qN ?_ _|refine qW ?_|refine qL ?_ _));exact BK242.out) hb);have n3_:=qK (qT (by repeat (with_reducible first|exact HB.out|apply qA|apply qD|apply qO|refine qS ?_ GE241.out|refine qS ?_ GE242.out)) hb);clear BK241;clear BK242;clear HB;have HO246:=n0_;have BK241:=n1_;have BK242:=n2_;have HB:=n3_;clear n0_ n1_ n2_ n3_;(try clear hb);(try clear ho0);have hnb11:=NB241_242.out;have hnc11:=NB242_241.out;have hcz12_0:w10.cell? ⟨gb241,0,none⟩=some (.slice A0_0 l0_0.length c0_0):=(qC BK241.out 0).trans rfl;have hcz12_1:w10.cell? ⟨gb241,1,none⟩=some (.slice A0_1 l0_1.length c0_1):=(qC BK241.out 1).trans rfl;have hfz12_0:=qF BK241.out 0;have hfz12_1:=qF BK241.out 1;obtain ⟨Ao13,co13,eo13⟩:=Kd.R_slice HO246.out;subst eo13)|((with_reducible refine gate_callee (f:=84) rfl ?_);refine goesL_ (some 24) rfl rfl Try.func84 (by kernel_rfl) rfl #[.agg #[.slice A0_0 l0_0.length c0_0,.slice A0_1 l0_1.length c0_1],.int .i64 (rd l1 x14_1),.slice Ao13 t244.length co13] rfl (by (try simp only [mT,mC,mN]);first|done|rfl|(simp only [lD,lT];rfl)) ?_;(with_reducible refine (spec_l11Shared.calls k1 _ _ l0_0 _ _ l0_1 (rd l1 x14_1) _ _ t244 t247 _ ?side1 ?side2 ?side3 ?side4 ?side5 ?side6 A9.out).mono ?_);(case side1=>repeat (first|exact (cB HR0_0.out HB.out)|(with_reducible first|refine cL ?_ _|refine cN ?_ _|refine cW ?_)));(case side2=>exact HC0_0.out);(case side3=>repeat (first|exact (cB HR0_1.out HB.out)|(with_reducible first|refine cL ?_ _|refine cN ?_ _|refine cW ?_)));(case side4=>exact HC0_1.out);(case side5=>repeat (first|exact (Kd.R_reads' HO246.out).2.2|(with_reducible first|refine cL ?_ _|refine cN ?_ _|refine cW ?_)));(case side6=>exact (Kd.R_reads' HO246.out).2.1);rintro e w14 ⟨v248,rfl,ho0,hb⟩;refine ⟨_,rfl,?_⟩;have n0_:=qK (rB (by (with_reducible repeat (first|apply rL|apply rN|apply rW));exact HO246.out) hb);have n1_:=qK (Kd.V_lower (Kd.V_mono (ok':=fun k_=>some k_ ≠ (.slice Ao13 t244.length co13:Value).ownBlock∧k_ ≠ gb241∧k_ ≠ gb242) ho0 (fun k_ hk_=>⟨(Kd.fresh' (Kd.R_lt (by (with_reducible repeat (first|apply rL|apply rN|apply rW));exact HO246.out)) k_ hk_),(Kd.freshB (g:=gb241) (o:=_) (by (with_reducible repeat (first|refine qN ?_ _|refine qW ?_|refine qL ?_ _));exact BK241.out) k_ hk_),(Kd.freshB (g:=gb242) (o:=_) (by (with_reducible repeat (first|refine qN ?_ _|refine qW ?_|refine qL ?_ _));exact BK242.out) k_ hk_)⟩)) (qZ (by repeat (with_reducible first|exact HB.out|apply qA|apply qD|apply qO|refine qS ?_ GE241.out|refine qS ?_ GE242.out))));have n2_:=qK (qB (g:=gb241) (o:=_) (by (with_reducible repeat (first|refine qN ?_ _|refine qW ?_|refine qL ?_ _));exact BK241.out) hb);have n3_:=qK (qB (g:=gb242) (o:=_) (by (with_reducible repeat (first|refine qN ?_ _|refine qW ?_|refine qL ?_ _));exact BK242.out) hb);have n4_:=qK (qT (by repeat (with_reducible first|exact HB.out|apply qA|apply qD|apply qO|refine qS ?_ GE241.out|refine qS ?_ GE242.out)) hb);clear HO246;clear BK241;clear BK242;clear HB;have HO246:=n0_;have HO249:=n1_;have BK241:=n2_;have BK242:=n3_;have HB:=n4_;clear n0_ n1_ n2_ n3_ n4_;(try clear hb);(try clear ho0)))
      go_loopg [27] k1 (fun kq v27 w'=>∃ (x27_2:Int) (x243000_2:Int) (x243001_2:Int),v27=.int .i64 x27_2∧Aside0 (spec_l11Ear.l1 kq l1 (rd l1 x14_1) t247 l1 (l1.length:Int) x14_1 t244 (t244.length:Int) x27_2 l0_0 l0_1=some (r1,r2,r3))∧Aside0 (kq≤k1)∧Aside0 (Kd.V (Kd.int .i64) 3 w' w.heap.size (fun k_=>some k_ ≠ ((.slice Ao13 t244.length co13):Value).ownBlock∧k_ ≠ gb241∧k_ ≠ gb242) v248 t247)∧Aside0 (Kd.R (Kd.int .i64) 3 w' w.heap.size (fun _=>True) (.slice Ao13 t244.length co13) t244)∧Aside0 (w'.heap[gb241]?=some (.cells #[(.slice A0_0 l0_0.length c0_0),(.slice A0_1 l0_1.length c0_1)] 32 (0,0)))∧Aside0 (w'.heap[gb242]?=some (.cells #[.int .i64 x243000_2,.int .i64 x243001_2] 106 (0,0)))∧Aside0 (Below w.heap.size w w'))
      case atStart=>exact ⟨(0),(x243000_1),(x243001_1),(by first|rfl|(simp;done)|(simp [*];done)),H',⟨Nat.le_refl _⟩,⟨by (with_reducible repeat (first|apply Kd.V_alloc|apply Kd.V_drewN|apply Kd.V_drew));exact HO249.out⟩,⟨by (with_reducible repeat (first|apply rL|apply rN|apply rW));exact HO246.out⟩,⟨by (with_reducible repeat (first|refine qN ?_ _|refine qW ?_|refine qL ?_ _));exact BK241.out⟩,⟨by (with_reducible repeat (first|refine qN ?_ _|refine qW ?_|refine qL ?_ _));exact BK242.out⟩,⟨by repeat (first|(with_reducible first|exact HB.out|apply qA|apply qD|apply qO|refine qS ?_ GE241.out|refine qS ?_ GE242.out)|exact HB.out)⟩⟩
      case round =>
       clear H';try clear c1
       try clear p2
       try clear q2
       try clear hx2
       try clear c5
       try clear c5b0
       try clear c6
       try clear c6b0
       try clear c7
       try clear c7b0
       try clear c8
       try clear c11
       try clear c14
       try clear hcz12_0
       try clear hcz12_1
       try clear hfz12_0
       try clear hfz12_1
       try clear hx243_0
       try clear p2
       try clear p243
       try clear q243
       obtain ⟨x27_2,x243000_2,x243001_2,rfl,HA,HK2,HO_9,HO_25,BK241,BK242,HB⟩:=hrel;cases gk with
       | zero=>exact absurd HA.out (by simp [spec_l11Ear.l1])
       | succ k2 =>
        have H:=HA.out;clear HA;simp only [spec_l11Ear.l1] at H;by_cases c15:x27_2 < (t244.length:Int)
        ·rw [if_pos c15] at H;have c15b0:decide (x27_2 < (t244.length:Int))=true:=decide_eq_true c15;clear c15;by_cases c16:0≤x27_2
         ·rw [if_pos c16] at H;have c16b0:decide (0≤x27_2)=true:=decide_eq_true c16;clear c16;by_cases c17:x27_2 < (t244.length:Int)
          ·rw [if_pos c17] at H;have c17b0:decide (x27_2 < (t244.length:Int))=true:=decide_eq_true c17;clear c17;by_cases c18:0≤(rd t244 x27_2)
           ·rw [if_pos c18] at H;have c18b0:decide (0≤(rd t244 x27_2))=true:=decide_eq_true c18;clear c18;by_cases c19:(rd t244 x27_2) < (l0_1.length:Int)
            ·rw [if_pos c19] at H;have c19b0:decide ((rd t244 x27_2) < (l0_1.length:Int))=true:=decide_eq_true c19;clear c19;replace H:=Option.bind_eq_some_iff.mp H;obtain ⟨t252,A200,H⟩:=H;replace H:(if t252=true then (some ((rd l1 x14_1),rd t244 x27_2,true)) else (spec_l11Ear.l1 k2 l1 (rd l1 x14_1) t247 l1 (l1.length:Int) x14_1 t244 (t244.length:Int) (wrap64 (x27_2 + 1)) l0_0 l0_1))=some (r1,r2,r3):=H;have A20:=qK A200;clear A200;by_cases c21:t252=true
             ·subst c21;have H1:(some ((rd l1 x14_1),rd t244 x27_2,true))=some (r1,r2,r3):=by rw [if_pos rfl] at H;exact H
              clear H;have H:=H1;clear H1;simp only [Option.some.injEq,Prod.mk.injEq] at H;obtain ⟨rfl,rfl,rfl⟩:=H;have p250:0≤(x27_2:Int):=of_decide_eq_true (by first|(with_reducible assumption)|assumption);have q250:x27_2 < (t244.length:Int):=of_decide_eq_true (by first|(with_reducible assumption)|assumption);obtain ⟨ad250,e250,hx250_0⟩:=Kd.at_int (Kd.R_reads' HO_25.out).2.2 x27_2 p250 q250;cases e250
              replace p250:=eq_true p250;replace q250:=eq_true q250;have hnb22:=NB241_242.out;have hnc22:=NB242_241.out;have hcz23_0:wr.cell? ⟨gb241,0,none⟩=some (.slice A0_0 l0_0.length c0_0):=(qC BK241.out 0).trans rfl;have hcz23_1:wr.cell? ⟨gb241,1,none⟩=some (.slice A0_1 l0_1.length c0_1):=(qC BK241.out 1).trans rfl;have hfz23_0:=qF BK241.out 0;have hfz23_1:=qF BK241.out 1;have p251:0≤((rd t244 x27_2):Int):=of_decide_eq_true (by first|(with_reducible assumption)|assumption);have q251:(rd t244 x27_2) < (l0_1.length:Int):=of_decide_eq_true (by first|(with_reducible assumption)|assumption);obtain ⟨ad251,A251_1,c251_1,e251,hx251_0,hx251_1,hl251_1,hi251_1⟩:=at_T97 HR0_1.out (rd t244 x27_2) p251 q251;cases e251
              replace hx251_0:=(HB.out.cell (World.block_lt_of_cell? w _ hx251_0)).trans hx251_0;replace hx251_1:=(HB.out.cell (World.block_lt_of_cell? w _ hx251_1)).trans hx251_1;have HR251_1:=qK hi251_1;have HC251_1:=qK hl251_1;clear hi251_1 hl251_1;replace p251:=eq_true p251;replace q251:=eq_true q251;obtain ⟨Ao24,co24,eo24⟩:=Kd.V_slice HO_9.out;subst eo24;go_wp2_with (first|((with_reducible refine gate_callee (f:=83) rfl ?_);refine goesL_ (some 38) rfl rfl Try.func83 (by kernel_rfl) rfl #[.slice A251_1 ((rd_T97 l0_1 (rd t244 x27_2)).f1).length c251_1,.slice Ao24 t247.length co24] rfl (by (try simp only [mT,mC,mN]);first|done|rfl|(simp only [lD,lT];rfl)) ?_;(with_reducible refine (spec_l7All.calls k2 _ _ ((rd_T97 l0_1 (rd t244 x27_2)).f1) _ _ t247 true _ ?side1 ?side2 ?side3 ?side4 A20.out).mono ?_);(case side1=>repeat (first|exact (cB HR251_1.out HB.out)|(with_reducible first|refine cL ?_ _|refine cN ?_ _|refine cW ?_)));(case side2=>exact HC251_1.out);(case side3=>repeat (first|exact (Kd.V_reads' HO_9.out).2.2|(with_reducible first|refine cL ?_ _|refine cN ?_ _|refine cW ?_)));(case side4=>exact (Kd.V_reads' HO_9.out).2.1);rintro e w' ⟨rfl,⟨nd,rfl⟩⟩;refine ⟨_,rfl,?_⟩;(try (rw [drewN_self wr];generalize hq_:World.drewN wr _=wr;have n0_:Aside0 (Kd.R (Kd.int .i64) 3 wr w.heap.size (fun _=>True) (.slice (some ad250) t244.length co13) t244):=⟨by rw [← hq_];exact (by (with_reducible repeat (first|apply rL|apply rN|apply rW));exact HO_25.out)⟩;have n1_:Aside0 (Kd.V (Kd.int .i64) 3 wr w.heap.size (fun k_=>some k_ ≠ (.slice (some ad250) t244.length co13:Value).ownBlock∧k_ ≠ gb241∧k_ ≠ gb242) (.slice Ao24 t247.length co24) t247):=⟨by rw [← hq_];exact (by (with_reducible repeat (first|apply Kd.V_alloc|apply Kd.V_drewN|apply Kd.V_drew));exact HO_9.out)⟩;have n2_:Aside0 (wr.heap[gb241]?=some (.cells #[.slice A0_0 l0_0.length c0_0,.slice (some ad251) l0_1.length c0_1] 32 (0,0))):=⟨by rw [← hq_];exact (by (with_reducible repeat (first|refine qN ?_ _|refine qW ?_|refine qL ?_ _));exact BK241.out)⟩;have n3_:Aside0 (wr.heap[gb242]?=some (.cells #[.int .i64 x243000_2,.int .i64 x243001_2] 106 (0,0))):=⟨by rw [← hq_];exact (by (with_reducible repeat (first|refine qN ?_ _|refine qW ?_|refine qL ?_ _));exact BK242.out)⟩;have n4_:Aside0 (Below w.heap.size w wr):=⟨by rw [← hq_];exact (by repeat (with_reducible first|exact HB.out|apply qA|apply qD|apply qO|refine qS ?_ GE241.out|refine qS ?_ GE242.out))⟩;clear HO_25 HO_9 BK241 BK242 HB hq_;have HO_25:=n0_;have HO_9:=n1_;have BK241:=n2_;have BK242:=n3_;have HB:=n4_;clear n0_ n1_ n2_ n3_ n4_));have hcz25_0:wr.cell? ⟨gb242,0,none⟩=some (.int .i64 x243000_2):=(qC BK242.out 0).trans rfl;have hcz25_1:wr.cell? ⟨gb242,1,none⟩=some (.int .i64 x243001_2):=(qC BK242.out 1).trans rfl;have hfz25_0:=qF BK242.out 0;have hfz25_1:=qF BK242.out 1))
              refine bodyPost_ret (results_ct rfl _ _ gb242 106 #[.int .i64 (rd l1 x14_1),.int .i64 (rd t244 x27_2)] (0,0) _ rfl (by (with_reducible repeat (first|refine qN ?_ _|refine qW ?_|refine qL ?_ _));refine qP (cs:=#[.int .i64 (rd l1 x14_1),.int .i64 x243001_2]) ?_ 1 _ rfl;(with_reducible repeat (first|refine qN ?_ _|refine qW ?_|refine qL ?_ _));refine qP (cs:=#[.int .i64 x243000_2,.int .i64 x243001_2]) ?_ 0 _ rfl;(with_reducible repeat (first|refine qN ?_ _|refine qW ?_|refine qL ?_ _));exact BK242.out) Try.underlying106 rfl (by kernel_rfl)) rfl ?_;exact ⟨by first|rfl|(simp [errW_none,errW_some] <;> rfl)|(simp [*,errW_none,errW_some] <;> rfl),by repeat (first|(with_reducible first|exact HB.out|apply qA|apply qD|apply qO|refine qS ?_ GE241.out|refine qS ?_ GE242.out)|exact HB.out)⟩
             ·replace c21:=Bool.eq_false_iff.mpr c21;subst c21;have H1:(spec_l11Ear.l1 k2 l1 (rd l1 x14_1) t247 l1 (l1.length:Int) x14_1 t244 (t244.length:Int) (wrap64 (x27_2 + 1)) l0_0 l0_1)=some (r1,r2,r3):=by rw [if_neg (show ¬ (false=true) by decide)] at H;exact H
              clear H;have H:=H1;clear H1;have H':=qK H;clear H;have p250:0≤(x27_2:Int):=of_decide_eq_true (by first|(with_reducible assumption)|assumption);have q250:x27_2 < (t244.length:Int):=of_decide_eq_true (by first|(with_reducible assumption)|assumption);obtain ⟨ad250,e250,hx250_0⟩:=Kd.at_int (Kd.R_reads' HO_25.out).2.2 x27_2 p250 q250;cases e250
              replace p250:=eq_true p250;replace q250:=eq_true q250;have hnb26:=NB241_242.out;have hnc26:=NB242_241.out;have hcz27_0:wr.cell? ⟨gb241,0,none⟩=some (.slice A0_0 l0_0.length c0_0):=(qC BK241.out 0).trans rfl;have hcz27_1:wr.cell? ⟨gb241,1,none⟩=some (.slice A0_1 l0_1.length c0_1):=(qC BK241.out 1).trans rfl;have hfz27_0:=qF BK241.out 0;have hfz27_1:=qF BK241.out 1;have p251:0≤((rd t244 x27_2):Int):=of_decide_eq_true (by first|(with_reducible assumption)|assumption);have q251:(rd t244 x27_2) < (l0_1.length:Int):=of_decide_eq_true (by first|(with_reducible assumption)|assumption);obtain ⟨ad251,A251_1,c251_1,e251,hx251_0,hx251_1,hl251_1,hi251_1⟩:=at_T97 HR0_1.out (rd t244 x27_2) p251 q251;cases e251
              replace hx251_0:=(HB.out.cell (World.block_lt_of_cell? w _ hx251_0)).trans hx251_0;replace hx251_1:=(HB.out.cell (World.block_lt_of_cell? w _ hx251_1)).trans hx251_1;have HR251_1:=qK hi251_1;have HC251_1:=qK hl251_1;clear hi251_1 hl251_1;replace p251:=eq_true p251;replace q251:=eq_true q251;obtain ⟨Ao28,co28,eo28⟩:=Kd.V_slice HO_9.out;subst eo28;go_wp2_with (first|((with_reducible refine gate_callee (f:=83) rfl ?_);refine goesL_ (some 38) rfl rfl Try.func83 (by kernel_rfl) rfl #[.slice A251_1 ((rd_T97 l0_1 (rd t244 x27_2)).f1).length c251_1,.slice Ao28 t247.length co28] rfl (by (try simp only [mT,mC,mN]);first|done|rfl|(simp only [lD,lT];rfl)) ?_;(with_reducible refine (spec_l7All.calls k2 _ _ ((rd_T97 l0_1 (rd t244 x27_2)).f1) _ _ t247 false _ ?side1 ?side2 ?side3 ?side4 A20.out).mono ?_);(case side1=>repeat (first|exact (cB HR251_1.out HB.out)|(with_reducible first|refine cL ?_ _|refine cN ?_ _|refine cW ?_)));(case side2=>exact HC251_1.out);(case side3=>repeat (first|exact (Kd.V_reads' HO_9.out).2.2|(with_reducible first|refine cL ?_ _|refine cN ?_ _|refine cW ?_)));(case side4=>exact (Kd.V_reads' HO_9.out).2.1);rintro e w' ⟨rfl,⟨nd,rfl⟩⟩;refine ⟨_,rfl,?_⟩))
              go_roundg k2
              case measure=>have:=HK1.out;have:=HK2.out;omega
              case rel=>exact ⟨(wrap64 (x27_2 + 1)),(x243000_2),(x243001_2),(by first|rfl|(simp;done)|(simp [*];done)),H',⟨by have:=HK1.out;have:=HK2.out;omega⟩,⟨by (with_reducible repeat (first|apply Kd.V_alloc|apply Kd.V_drewN|apply Kd.V_drew));exact HO_9.out⟩,⟨by (with_reducible repeat (first|apply rL|apply rN|apply rW));exact HO_25.out⟩,⟨by (with_reducible repeat (first|refine qN ?_ _|refine qW ?_|refine qL ?_ _));exact BK241.out⟩,⟨by (with_reducible repeat (first|refine qN ?_ _|refine qW ?_|refine qL ?_ _));exact BK242.out⟩,⟨by repeat (first|(with_reducible first|exact HB.out|apply qA|apply qD|apply qO|refine qS ?_ GE241.out|refine qS ?_ GE242.out)|exact HB.out)⟩⟩
            ·rw [if_neg c19] at H;exact absurd H (by simp)
           ·rw [if_neg c18] at H;exact absurd H (by simp)
          ·rw [if_neg c17] at H;exact absurd H (by simp)
         ·rw [if_neg c16] at H;exact absurd H (by simp)
        ·rw [if_neg c15] at H;have c15b0:decide (x27_2 < (t244.length:Int))=false:=decide_eq_false c15;clear c15;have H':=qK H;clear H;go_wp2
         go_roundg k2
         case measure=>have:=HK1.out;have:=HK2.out;omega
         case rel=>exact ⟨(wrap64 (x14_1 + 1)),(x243000_2),(x243001_2),(by first|rfl|(simp;done)|(simp [*];done)),H',⟨by have:=HK1.out;have:=HK2.out;omega⟩,⟨by (with_reducible repeat (first|refine qN ?_ _|refine qW ?_|refine qL ?_ _));exact BK241.out⟩,⟨by (with_reducible repeat (first|refine qN ?_ _|refine qW ?_|refine qL ?_ _));exact BK242.out⟩,⟨by repeat (first|(with_reducible first|exact HB.out|apply qA|apply qD|apply qO|refine qS ?_ GE241.out|refine qS ?_ GE242.out)|exact HB.out)⟩⟩
     ·rw [if_neg c7] at H;exact absurd H (by simp)
    ·rw [if_neg c6] at H;exact absurd H (by simp)
   ·rw [if_neg c5] at H;have c5b0:decide (x14_1 < (l1.length:Int))=false:=decide_eq_false c5;clear c5;simp only [Option.some.injEq,Prod.mk.injEq] at H;obtain ⟨rfl,rfl,rfl⟩:=H;have hnb29:=NB242_241.out;have hnc29:=NB241_242.out;have hcz30_0:wr.cell? ⟨gb242,0,none⟩=some (.int .i64 x243000_1):=(qC BK242.out 0).trans rfl;have hcz30_1:wr.cell? ⟨gb242,1,none⟩=some (.int .i64 x243001_1):=(qC BK242.out 1).trans rfl;have hfz30_0:=qF BK242.out 0;have hfz30_1:=qF BK242.out 1;go_wp2
    refine bodyPost_ret (results_ct rfl _ _ gb242 106 #[.int .i64 0,.int .i64 0] (0,0) _ rfl (by (with_reducible repeat (first|refine qN ?_ _|refine qW ?_|refine qL ?_ _));refine qP (cs:=#[.int .i64 0,.int .i64 x243001_1]) ?_ 1 _ rfl;(with_reducible repeat (first|refine qN ?_ _|refine qW ?_|refine qL ?_ _));refine qP (cs:=#[.int .i64 x243000_1,.int .i64 x243001_1]) ?_ 0 _ rfl;(with_reducible repeat (first|refine qN ?_ _|refine qW ?_|refine qL ?_ _));exact BK242.out) Try.underlying106 rfl (by kernel_rfl)) rfl ?_;exact ⟨by first|rfl|(simp [errW_none,errW_some] <;> rfl)|(simp [*,errW_none,errW_some] <;> rfl),by repeat (first|(with_reducible first|exact HB.out|apply qA|apply qD|apply qO|refine qS ?_ GE241.out|refine qS ?_ GE242.out)|exact HB.out)⟩

/-! ### spec_l11Ears: function 125 -/
mutual
def spec_l11Ears.l0 : Nat→List Int→Int→Int→List Int→List (S97)→Option ((List (S106)) × Bool)
 | 0,_,_,_,_,_=>none
 | k + 1,x5,x11,x12,x254000,x254001=>if x12 < x11 then (if x5.length < 17592186044416 then (spec_l11Ears.l0 k (x5 ++ [x12]) x11 (wrap64 (x12 + 1)) x254000 x254001) else (none)) else (spec_l11Ears.l1 k ([]:List (S106)) x5 x254000 x254001)
def spec_l11Ears.l1 : Nat→List (S106)→List Int→List Int→List (S97)→Option ((List (S106)) × Bool)
 | 0,_,_,_,_=>none
 | k + 1,x4,x5,x254000,x254001=>if (x5.length:Int) > 1 then ((spec_l11Ear.f k x254000 x254001 x5).bind fun bt261=>(if bt261.2.2=true then (if x4.length < 8796093022208 then ((spec_l11Without.f k x5 bt261.1).bind fun t268=>(spec_l11Ears.l1 k (x4 ++ [(⟨bt261.1,bt261.2.1⟩:S106)]) t268 x254000 x254001)) else (none)) else (some (x4,false)))) else (if 0 < (x5.length:Int) then (if x4.length < 8796093022208 then (some ((x4 ++ [(⟨rd x5 0,(-1)⟩:S106)]),true)) else (none)) else (none))
end
def spec_l11Ears.f (k:Nat) (l0_0:List Int) (l0_1:List (S97)):Option ((List (S106)) × Bool):=spec_l11Ears.l0 k ([]:List Int) (l0_1.length:Int) 0 l0_0 l0_1
theorem spec_l11Ears.mono_l : ∀ k,(∀ y0 y1 y2 y3 y4,LeO (spec_l11Ears.l0 k y0 y1 y2 y3 y4) (spec_l11Ears.l0 (k + 1) y0 y1 y2 y3 y4))∧(∀ y0 y1 y2 y3,LeO (spec_l11Ears.l1 k y0 y1 y2 y3) (spec_l11Ears.l1 (k + 1) y0 y1 y2 y3))
 | 0=>⟨fun _ _ _ _ _ r h=>by simp [spec_l11Ears.l0] at h,fun _ _ _ _ r h=>by simp [spec_l11Ears.l1] at h⟩
 | k + 1=>by
  obtain ⟨ih0,ih1⟩:=spec_l11Ears.mono_l k;refine ⟨?_,?_⟩
  ·intro y0 y1 y2 y3 y4;unfold spec_l11Ears.l0
   repeat' first
   | (with_reducible exact ih0 _ _ _ _ _)
   | (with_reducible exact ih1 _ _ _ _)
   | (with_reducible exact spec_l11Ear.mono _ _ _ _)
   | (with_reducible exact spec_l11Without.mono _ _ _)
   | (with_reducible exact LeO.refl _)
   | (with_reducible exact LeO.none _)
   | (with_reducible refine LeO.ite ?_ ?_)
   | (with_reducible refine LeO.bind ?_ (fun _=>?_))
   | exact ih0 _ _ _ _ _
   | exact ih1 _ _ _ _
   | exact spec_l11Ear.mono _ _ _ _
   | exact spec_l11Without.mono _ _ _
   | exact LeO.none _
   | refine LeO.ite ?_ ?_
   | refine LeO.bind ?_ (fun _=>?_)
  ·intro y0 y1 y2 y3;unfold spec_l11Ears.l1
   repeat' first
   | (with_reducible exact ih0 _ _ _ _ _)
   | (with_reducible exact ih1 _ _ _ _)
   | (with_reducible exact spec_l11Ear.mono _ _ _ _)
   | (with_reducible exact spec_l11Without.mono _ _ _)
   | (with_reducible exact LeO.refl _)
   | (with_reducible exact LeO.none _)
   | (with_reducible refine LeO.ite ?_ ?_)
   | (with_reducible refine LeO.bind ?_ (fun _=>?_))
   | exact ih0 _ _ _ _ _
   | exact ih1 _ _ _ _
   | exact spec_l11Ear.mono _ _ _ _
   | exact spec_l11Without.mono _ _ _
   | exact LeO.none _
   | refine LeO.ite ?_ ?_
   | refine LeO.bind ?_ (fun _=>?_)
theorem spec_l11Ears.mono : ∀ a0 a1 k,LeO (spec_l11Ears.f k a0 a1) (spec_l11Ears.f (k + 1) a0 a1):=by
 intro a0 a1 k;obtain ⟨ih0,ih1⟩:=spec_l11Ears.mono_l k;unfold spec_l11Ears.f
 repeat' first
   | (with_reducible exact ih0 _ _ _ _ _)
   | (with_reducible exact ih1 _ _ _ _)
   | (with_reducible exact spec_l11Ear.mono _ _ _ _)
   | (with_reducible exact spec_l11Without.mono _ _ _)
   | (with_reducible exact LeO.refl _)
   | (with_reducible exact LeO.none _)
   | (with_reducible refine LeO.ite ?_ ?_)
   | (with_reducible refine LeO.bind ?_ (fun _=>?_))
   | exact ih0 _ _ _ _ _
   | exact ih1 _ _ _ _
   | exact spec_l11Ear.mono _ _ _ _
   | exact spec_l11Without.mono _ _ _
   | exact LeO.none _
   | refine LeO.ite ?_ ?_
   | refine LeO.bind ?_ (fun _=>?_)
set_option maxHeartbeats 8000000 in
set_option maxRecDepth 100000 in
theorem spec_l11Ears.calls (k:Nat) (A0_0:Option Addr) (c0_0:Nat) (l0_0:List Int) (A0_1:Option Addr) (c0_1:Nat) (l0_1:List (S97)) (r1:List (S106)) (r2:Bool) (w:World) (hr0_0:Kd.C (Kd.int .i64) w A0_0 l0_0.length l0_0) (hc0_0:l0_0.length≤c0_0) (hr0_1:Kd.C k97 w A0_1 l0_1.length l0_1) (hc0_1:l0_1.length≤c0_1) (h:spec_l11Ears.f k l0_0 l0_1=some (r1,r2)) :
  Calls Try.prog 125 #[.agg #[.slice A0_0 l0_0.length c0_0,.slice A0_1 l0_1.length c0_1]] w fun e w'=>∃ v0_:Value,e=.returned (.tuple #[v0_,.bool r2])∧Kd.R k106 106 w' w.heap.size (fun _=>True) v0_ r1∧Below w.heap.size w w':=by
 have hu32:=Try.underlying32;have hu106:=Try.underlying106;have HR0_0:=qK hr0_0;have HC0_0:=qK hc0_0;clear hr0_0 hc0_0;have HR0_1:=qK hr0_1;have HC0_1:=qK hc0_1;clear hr0_1 hc0_1;have HB:=qK (Below.refl w.heap.size w);have H:(spec_l11Ears.l0 k ([]:List Int) (l0_1.length:Int) 0 l0_0 l0_1)=some (r1,r2):=h;clear h;have H':=qK H;clear H;go_enter Try.func125,Try.ntmps125
 go_wp2_with (first|((with_reducible refine gate_dst (N:=1) rfl ?_);refine box_event ?hg (N:=1) ?hd (cs:=#[.slice A0_0 l0_0.length c0_0,.slice A0_1 l0_1.length c0_1]) (t:=32) ?hr ?_;(case hd=>rfl);(case hg=>rfl);(case hr=>(go_simp;try rfl));intro gb253 hg w2 hbox hb;have n0_:=qK (qT (by repeat (with_reducible first|exact HB.out|apply qA|apply qD|apply qO)) hb);have n1_:=qK (hbox);have n2_:=qK ((by rw [hg];exact (qZ (by repeat (with_reducible first|exact HB.out|apply qA|apply qD|apply qO))):w.heap.size≤gb253));have n3_:=qK ((by rw [hg];exact (qZ (by repeat (with_reducible first|exact HB.out|apply qA|apply qD|apply qO))):w.heap.size≤gb253));clear HB;have HB:=n0_;have BK253:=n1_;have GW253:=n2_;have GE253:=n3_;clear n0_ n1_ n2_ n3_;clear hb hbox hg;have hcz3_0:w2.cell? ⟨gb253,0,none⟩=some (.slice A0_0 l0_0.length c0_0):=(qC BK253.out 0).trans rfl;have hcz3_1:w2.cell? ⟨gb253,1,none⟩=some (.slice A0_1 l0_1.length c0_1):=(qC BK253.out 1).trans rfl;have hfz3_0:=qF BK253.out 0;have hfz3_1:=qF BK253.out 1))
 go_loopg [5,12] k (fun kq v5 v12 w'=>∃ (x5_1:List Int) (x12_1:Int),v12=.int .i64 x12_1∧Aside0 (spec_l11Ears.l0 kq x5_1 (l0_1.length:Int) x12_1 l0_0 l0_1=some (r1,r2))∧Aside0 (kq≤k)∧Aside0 (Kd.R (Kd.int .i64) 3 w' w.heap.size (fun _=>True) v5 x5_1)∧Aside0 (w'.heap[gb253]?=some (.cells #[(.slice A0_0 l0_0.length c0_0),(.slice A0_1 l0_1.length c0_1)] 32 (0,0)))∧Aside0 (Below w.heap.size w w'))
 case atStart=>exact ⟨(([]:List Int)),(0),(by first|rfl|(simp;done)|(simp [*];done)),H',⟨Nat.le_refl _⟩,⟨by first|exact Kd.R_nil _ _ _ _ _|exact Kd.N_nil _ _ _ _ _|exact Kd.V_nil _ _ _ _ _|exact Kd.Q_nil _ _ _ _ _|exact Kd.S_nil _ _ _ _ _⟩,⟨by (with_reducible repeat (first|refine qN ?_ _|refine qW ?_|refine qL ?_ _));exact BK253.out⟩,⟨by repeat (first|(with_reducible first|exact HB.out|apply qA|apply qD|apply qO|refine qS ?_ GE253.out)|exact HB.out)⟩⟩
 case round =>
  clear H';try clear c1
  try clear p2
  try clear hcz3_0
  try clear hcz3_1
  try clear hfz3_0
  try clear hfz3_1
  obtain ⟨x5_1,x12_1,rfl,HA,HK1,HO_5,BK253,HB⟩:=hrel;cases gk with
  | zero=>exact absurd HA.out (by simp [spec_l11Ears.l0])
  | succ k1 =>
   have H:=HA.out;clear HA;simp only [spec_l11Ears.l0] at H;by_cases c4:x12_1 < (l0_1.length:Int)
   ·rw [if_pos c4] at H;have c4b0:decide (x12_1 < (l0_1.length:Int))=true:=decide_eq_true c4;clear c4;by_cases c5:x5_1.length < 17592186044416
    ·rw [if_pos c5] at H;have LMc5:=qK c5;clear c5;obtain ⟨y254,hy254⟩:∃ y_:List Int,y_=(x5_1 ++ [x12_1]):=⟨_,rfl⟩;replace H:(spec_l11Ears.l0 k1 y254 (l0_1.length:Int) (wrap64 (x12_1 + 1)) l0_0 l0_1)=some (r1,r2):=by first|(rw [hy254];with_reducible exact H)|(have H2_:=(Option.bind_some _ _).symm.trans H;rw [hy254];with_reducible exact H2_)|(have H2_:=(Option.bind_some _ _).symm.trans H;with_reducible exact H2_)|with_reducible exact H|(rw [hy254];exact H)|exact H
     have Ny254:=qK hy254;clear hy254;have H':=qK H;clear H;go_wp2_with (first|((with_reducible refine gate_builtin (b:=.append) (xs:=#[.tmp 15,.tmp 17]) rfl ?_);at_builtin;refine Kd.R_append (Kd.int .i64) (w0:=w) w.heap.size rfl (.tmp 15) (.tmp 17) 22 3 (.int .i64 0) 8 rfl Try.underlying22 info3 rfl (by decide) (by omega) u5 x5_1 x12_1 [.int .i64 x12_1] (fun _=>True) (fun _=>False) rfl rfl ?aP (fun _ hk=>hk.elim) ?aF ?aO ?aB ?aS ?aL ?_;(case aP=>exact rfl);(case aB=>exact (by repeat (with_reducible first|exact HB.out|apply qA|apply qD|apply qO|refine qS ?_ GE253.out)));(case aF=>exact (fun _ _=>trivial));(case aO=>exact (by (with_reducible repeat (first|apply rL|apply rN|apply rW));exact HO_5.out));(case aS=>exact (qZ (by repeat (with_reducible first|exact HB.out|apply qA|apply qD|apply qO|refine qS ?_ GE253.out))));(case aL=>have:=LMc5.out;omega);intro v255 w6 ho hb hg hat;rw [← Ny254.out] at ho;have n0_:=qK (blk_grown (g:=gb253) (o:=_) (by (with_reducible repeat (first|refine qN ?_ _|refine qW ?_|refine qL ?_ _));exact BK253.out) hg (Kd.R_ne HO_5.out BK253.out (by decide)));have n1_:=qK (hb);have n2_:=qK (ho);clear BK253;clear HB;clear HO_5;have BK253:=n0_;have HB:=n1_;have HO256:=n2_;clear n0_ n1_ n2_;clear ho hb hg hat))
     go_roundg k1
     case measure=>have:=HK1.out;omega
     case rel=>exact ⟨(y254),(wrap64 (x12_1 + 1)),(by first|rfl|(simp;done)|(simp [*];done)),H',⟨by have:=HK1.out;omega⟩,⟨by (with_reducible repeat (first|apply rL|apply rN|apply rW));exact HO256.out⟩,⟨by (with_reducible repeat (first|refine qN ?_ _|refine qW ?_|refine qL ?_ _));exact BK253.out⟩,⟨by repeat (first|(with_reducible first|exact HB.out|apply qA|apply qD|apply qO|refine qS ?_ GE253.out)|exact HB.out)⟩⟩
    ·rw [if_neg c5] at H;exact absurd H (by simp)
   ·rw [if_neg c4] at H;have c4b0:decide (x12_1 < (l0_1.length:Int))=false:=decide_eq_false c4;clear c4;have H':=qK H;clear H;go_wp2
    go_loopg [4,5] k1 (fun kq v4 v5 w'=>∃ (x4_2:List (S106)) (x5_2:List Int),Aside0 (spec_l11Ears.l1 kq x4_2 x5_2 l0_0 l0_1=some (r1,r2))∧Aside0 (kq≤k1)∧Aside0 (Kd.R k106 106 w' w.heap.size (fun _=>True) v4 x4_2)∧Aside0 (Kd.R (Kd.int .i64) 3 w' w.heap.size (fun _=>True) v5 x5_2)∧Aside0 (w'.heap[gb253]?=some (.cells #[(.slice A0_0 l0_0.length c0_0),(.slice A0_1 l0_1.length c0_1)] 32 (0,0)))∧Aside0 (Below w.heap.size w w'))
    case atStart=>exact ⟨(([]:List (S106))),(x5_1),H',⟨Nat.le_refl _⟩,⟨by first|exact Kd.R_nil _ _ _ _ _|exact Kd.N_nil _ _ _ _ _|exact Kd.V_nil _ _ _ _ _|exact Kd.Q_nil _ _ _ _ _|exact Kd.S_nil _ _ _ _ _⟩,⟨by (with_reducible repeat (first|apply rL|apply rN|apply rW));exact HO_5.out⟩,⟨by (with_reducible repeat (first|refine qN ?_ _|refine qW ?_|refine qL ?_ _));exact BK253.out⟩,⟨by repeat (first|(with_reducible first|exact HB.out|apply qA|apply qD|apply qO|refine qS ?_ GE253.out)|exact HB.out)⟩⟩
    case round =>
     clear H';try clear c1
     try clear p2
     try clear c4
     try clear c4b0
     try clear c5
     try clear p6
     try clear hcz3_0
     try clear hcz3_1
     try clear hfz3_0
     try clear hfz3_1
     try clear p2
     obtain ⟨x4_2,x5_2,HA,HK2,HO_4,HO_5,BK253,HB⟩:=hrel;cases gk with
     | zero=>exact absurd HA.out (by simp [spec_l11Ears.l1])
     | succ k2 =>
      have H:=HA.out;clear HA;simp only [spec_l11Ears.l1] at H;by_cases c7:(x5_2.length:Int) > 1
      ·rw [if_pos c7] at H;have c7b0:decide (1 < (x5_2.length:Int))=true:=decide_eq_true c7;have c7b1:decide (1 < x5_2.length)=true:=decide_eq_true (by omega);clear c7;replace H:=Option.bind_eq_some_iff.mp H;obtain ⟨⟨t261,t262,t263⟩,A80,H⟩:=H;replace H:(if t263=true then (if x4_2.length < 8796093022208 then ((spec_l11Without.f k2 x5_2 t261).bind fun t268=>(spec_l11Ears.l1 k2 (x4_2 ++ [(⟨t261,t262⟩:S106)]) t268 l0_0 l0_1)) else (none)) else (some (x4_2,false)))=some (r1,r2):=H;have A8:=qK A80;clear A80;by_cases c9:t263=true
       ·subst c9;have H1:(if x4_2.length < 8796093022208 then ((spec_l11Without.f k2 x5_2 t261).bind fun t268=>(spec_l11Ears.l1 k2 (x4_2 ++ [(⟨t261,t262⟩:S106)]) t268 l0_0 l0_1)) else (none))=some (r1,r2):=by rw [if_pos rfl] at H;exact H
        clear H;have H:=H1;clear H1;by_cases c10:x4_2.length < 8796093022208
        ·rw [if_pos c10] at H;have LMc10:=qK c10;clear c10;obtain ⟨y265,hy265⟩:∃ y_:List (S106),y_=(x4_2 ++ [(⟨t261,t262⟩:S106)]):=⟨_,rfl⟩;replace H:((spec_l11Without.f k2 x5_2 t261).bind fun t268=>(spec_l11Ears.l1 k2 y265 t268 l0_0 l0_1))=some (r1,r2):=by first|(rw [hy265];with_reducible exact H)|(have H2_:=(Option.bind_some _ _).symm.trans H;rw [hy265];with_reducible exact H2_)|(have H2_:=(Option.bind_some _ _).symm.trans H;with_reducible exact H2_)|with_reducible exact H|(rw [hy265];exact H)|exact H
         have Ny265:=qK hy265;clear hy265;replace H:=Option.bind_eq_some_iff.mp H;obtain ⟨t268,A110,H⟩:=H;replace H:(spec_l11Ears.l1 k2 y265 t268 l0_0 l0_1)=some (r1,r2):=H;have A11:=qK A110;clear A110;have H':=qK H;clear H;obtain ⟨Ao12,co12,eo12⟩:=Kd.R_slice HO_5.out;subst eo12;have hcz13_0:wr.cell? ⟨gb253,0,none⟩=some (.slice A0_0 l0_0.length c0_0):=(qC BK253.out 0).trans rfl;have hcz13_1:wr.cell? ⟨gb253,1,none⟩=some (.slice A0_1 l0_1.length c0_1):=(qC BK253.out 1).trans rfl;have hfz13_0:=qF BK253.out 0;have hfz13_1:=qF BK253.out 1;go_wp2_with (first|((with_reducible refine gate_callee (f:=165) rfl ?_);refine goesL_ (some 26) rfl rfl Try.func165 (by kernel_rfl) rfl #[.agg #[.slice A0_0 l0_0.length c0_0,.slice A0_1 l0_1.length c0_1],.slice Ao12 x5_2.length co12] rfl (by (try simp only [mT,mC,mN]);first|done|rfl|(simp only [lD,lT];rfl)) ?_;(with_reducible refine (spec_l11Ear.calls k2 _ _ l0_0 _ _ l0_1 _ _ x5_2 t261 t262 true _ ?side1 ?side2 ?side3 ?side4 ?side5 ?side6 A8.out).mono ?_);(case side1=>repeat (first|exact (cB HR0_0.out HB.out)|(with_reducible first|refine cL ?_ _|refine cN ?_ _|refine cW ?_)));(case side2=>exact HC0_0.out);(case side3=>repeat (first|exact (cB HR0_1.out HB.out)|(with_reducible first|refine cL ?_ _|refine cN ?_ _|refine cW ?_)));(case side4=>exact HC0_1.out);(case side5=>repeat (first|exact (Kd.R_reads' HO_5.out).2.2|(with_reducible first|refine cL ?_ _|refine cN ?_ _|refine cW ?_)));(case side6=>exact (Kd.R_reads' HO_5.out).2.1);rintro e w14 ⟨rfl,hb⟩;refine ⟨_,rfl,?_⟩;have n0_:=qK (rB (by (with_reducible repeat (first|apply rL|apply rN|apply rW));exact HO_4.out) hb);have n1_:=qK (rB (by (with_reducible repeat (first|apply rL|apply rN|apply rW));exact HO_5.out) hb);have n2_:=qK (qB (g:=gb253) (o:=_) (by (with_reducible repeat (first|refine qN ?_ _|refine qW ?_|refine qL ?_ _));exact BK253.out) hb);have n3_:=qK (qT (by repeat (with_reducible first|exact HB.out|apply qA|apply qD|apply qO|refine qS ?_ GE253.out)) hb);clear HO_4;clear HO_5;clear BK253;clear HB;have HO_4:=n0_;have HO_5:=n1_;have BK253:=n2_;have HB:=n3_;clear n0_ n1_ n2_ n3_;(try clear hb))|((with_reducible refine gate_dst (N:=7) rfl ?_);refine box_event ?hg (N:=7) ?hd (cs:=#[.int .i64 0,.int .i64 0]) (t:=106) ?hr ?_;(case hd=>rfl);(case hg=>rfl);(case hr=>(go_simp;try rfl));intro gb264 hg w15 hbox hb;have n0_:=qK (rB (Kd.R_elderB (by (with_reducible repeat (first|apply rL|apply rN|apply rW));exact HO_4.out) gb264 (Nat.le_of_eq hg.symm)) hb);have n1_:=qK (rB (by (with_reducible repeat (first|apply rL|apply rN|apply rW));exact HO_5.out) hb);have n2_:=qK (qB (g:=gb253) (o:=_) (by (with_reducible repeat (first|refine qN ?_ _|refine qW ?_|refine qL ?_ _));exact BK253.out) hb);have n3_:=qK (qT (by repeat (with_reducible first|exact HB.out|apply qA|apply qD|apply qO|refine qS ?_ GE253.out)) hb);have n4_:=qK (hbox);have n5_:=qK ((by rw [hg];exact (qZ (by repeat (with_reducible first|exact HB.out|apply qA|apply qD|apply qO|refine qS ?_ GE253.out))):w.heap.size≤gb264));have n6_:=qK ((by rw [hg];exact (qZ (by repeat (with_reducible first|exact HB.out|apply qA|apply qD|apply qO|refine qS ?_ GE253.out))):w.heap.size≤gb264));have n7_:=qK ((by rw [hg];exact Nat.ne_of_lt (blk_lt (g:=gb253) (o:=_) (by (with_reducible repeat (first|refine qN ?_ _|refine qW ?_|refine qL ?_ _));exact BK253.out)):gb253 ≠ gb264));have n8_:=qK ((by rw [hg];exact Nat.ne_of_gt (blk_lt (g:=gb253) (o:=_) (by (with_reducible repeat (first|refine qN ?_ _|refine qW ?_|refine qL ?_ _));exact BK253.out)):gb264 ≠ gb253));clear HO_4;clear HO_5;clear BK253;clear HB;have HO_4:=n0_;have HO_5:=n1_;have BK253:=n2_;have HB:=n3_;have BK264:=n4_;have GW264:=n5_;have GE264:=n6_;have NB253_264:=n7_;have NB264_253:=n8_;clear n0_ n1_ n2_ n3_ n4_ n5_ n6_ n7_ n8_;clear hb hbox hg;have hnb16:=NB264_253.out;have hnc16:=NB253_264.out;have hcz17_0:w15.cell? ⟨gb264,0,none⟩=some (.int .i64 0):=(qC BK264.out 0).trans rfl;have hcz17_1:w15.cell? ⟨gb264,1,none⟩=some (.int .i64 0):=(qC BK264.out 1).trans rfl;have hfz17_0:=qF BK264.out 0;have hfz17_1:=qF BK264.out 1)|((with_reducible refine gate_builtin (b:=.append) (xs:=#[.tmp 32,.tmp 34]) rfl ?_);at_builtin;refine Kd.R_append k106 (w0:=w) w.heap.size rfl (.tmp 32) (.tmp 34) 46 106 (.agg #[(.int .i64 0),(.int .i64 0)]) 16 rfl Try.underlying46 info106 rfl (by decide) (by omega) u4 x4_2 (⟨t261,t262⟩:S106) [.int .i64 t261,.int .i64 t262] (fun k_=>k_ ≠ gb264) (fun _=>False) rfl (by first|(go_simp;done)|(go_simp;rfl)) ?aP (fun _ hk=>hk.elim) ?aF ?aO ?aB ?aS ?aL ?_;(case aP=>exact k106_mkM _ _ _ (⟨t261,t262⟩:S106));(case aB=>exact (by repeat (with_reducible first|exact HB.out|apply qA|apply qD|apply qO|refine qS ?_ GE253.out|refine qS ?_ GE264.out)));(case aF=>exact (fun k_ hk=>Kd.freshB (g:=gb264) (o:=.cells #[.int .i64 t261,.int .i64 t262] 106 (0,0)) (by (with_reducible repeat (first|refine qN ?_ _|refine qW ?_|refine qL ?_ _));refine qP (cs:=#[.int .i64 t261,.int .i64 0]) ?_ 1 _ rfl;(with_reducible repeat (first|refine qN ?_ _|refine qW ?_|refine qL ?_ _));refine qP (cs:=#[.int .i64 0,.int .i64 0]) ?_ 0 _ rfl;(with_reducible repeat (first|refine qN ?_ _|refine qW ?_|refine qL ?_ _));exact BK264.out) k_ hk));(case aO=>exact (by (with_reducible repeat (first|apply rL|apply rN|apply rW));exact Kd.R_mono (Kd.R_far (p:=⟨gb264,1,none⟩) (Kd.R_far (p:=⟨gb264,0,none⟩) (Kd.R_mono HO_4.out (fun k_ hk=>(⟨hk,hk.2⟩:_∧k_ ≠ gb264))) (fun _ hk=>hk.2) (.int .i64 t261)) (fun _ hk=>hk.2) (.int .i64 t262)) (fun _ hk=>hk.1.2)));(case aS=>exact (qZ (by repeat (with_reducible first|exact HB.out|apply qA|apply qD|apply qO|refine qS ?_ GE253.out|refine qS ?_ GE264.out))));(case aL=>have:=LMc10.out;omega);intro v266 w18 ho hb hg hat;rw [← Ny265.out] at ho;have n0_:=qK (Kd.R_over' (by (with_reducible repeat (first|apply rL|apply rN|apply rW));exact (Kd.R_mono (Kd.R_far (p:=⟨gb264,1,none⟩) (Kd.R_far (p:=⟨gb264,0,none⟩) (Kd.R_types HO_5.out BK264.out (by decide)) (fun _ hk=>hk.2) (.int .i64 t261)) (fun _ hk=>hk.2) (.int .i64 t262)) (fun _ h_=>h_.1))) (Kd.R_typed (by (with_reducible repeat (first|apply rL|apply rN|apply rW));exact (Kd.R_mono (Kd.R_far (p:=⟨gb264,1,none⟩) (Kd.R_far (p:=⟨gb264,0,none⟩) (Kd.R_mono HO_4.out (fun k_ hk=>(⟨hk,hk.2⟩:_∧k_ ≠ gb264))) (fun _ hk=>hk.2) (.int .i64 t261)) (fun _ hk=>hk.2) (.int .i64 t262)) (fun _ h_=>h_.1)))) (by decide) hg);have n1_:=qK (blk_grown (g:=gb253) (o:=.cells #[.slice A0_0 l0_0.length c0_0,.slice A0_1 l0_1.length c0_1] 32 (0,0)) (by (with_reducible repeat (first|refine qN ?_ _|refine qW ?_|refine qL ?_ _));refine qR ?_ NB253_264.out _;(with_reducible repeat (first|refine qN ?_ _|refine qW ?_|refine qL ?_ _));refine qR ?_ NB253_264.out _;(with_reducible repeat (first|refine qN ?_ _|refine qW ?_|refine qL ?_ _));exact BK253.out) hg (Kd.R_ne HO_4.out BK253.out (by decide)));have n2_:=qK (blk_grown (g:=gb264) (o:=.cells #[.int .i64 t261,.int .i64 t262] 106 (0,0)) (by (with_reducible repeat (first|refine qN ?_ _|refine qW ?_|refine qL ?_ _));refine qP (cs:=#[.int .i64 t261,.int .i64 0]) ?_ 1 _ rfl;(with_reducible repeat (first|refine qN ?_ _|refine qW ?_|refine qL ?_ _));refine qP (cs:=#[.int .i64 0,.int .i64 0]) ?_ 0 _ rfl;(with_reducible repeat (first|refine qN ?_ _|refine qW ?_|refine qL ?_ _));exact BK264.out) hg (Kd.R_away HO_4.out (fun _ hk=>hk.2)));have n3_:=qK (hb);have n4_:=qK (ho);clear HO_5;clear BK253;clear BK264;clear HB;clear HO_4;have HO_5:=n0_;have BK253:=n1_;have BK264:=n2_;have HB:=n3_;have HO267:=n4_;clear n0_ n1_ n2_ n3_ n4_;clear ho hb hg hat;have hcz19_0:w18.cell? ⟨gb264,0,none⟩=some (.int .i64 t261):=(qC BK264.out 0).trans rfl;have hcz19_1:w18.cell? ⟨gb264,1,none⟩=some (.int .i64 t262):=(qC BK264.out 1).trans rfl;have hfz19_0:=qF BK264.out 0;have hfz19_1:=qF BK264.out 1)|((with_reducible refine gate_callee (f:=145) rfl ?_);refine goesL_ (some 39) rfl rfl Try.func145 (by kernel_rfl) rfl #[.slice Ao12 x5_2.length co12,.int .i64 t261] rfl (by (try simp only [mT,mC,mN]);first|done|rfl|(simp only [lD,lT];rfl)) ?_;(with_reducible refine (spec_l11Without.calls k2 _ _ x5_2 t261 t268 _ ?side1 ?side2 A11.out).mono ?_);(case side1=>repeat (first|exact (Kd.R_reads' HO_5.out).2.2|(with_reducible first|refine cL ?_ _|refine cN ?_ _|refine cW ?_)));(case side2=>exact (Kd.R_reads' HO_5.out).2.1);rintro e w20 ⟨v269,rfl,ho0,hb⟩;refine ⟨_,rfl,?_⟩;have n0_:=qK (Kd.R_elder' (by (with_reducible repeat (first|apply rL|apply rN|apply rW));exact HO_5.out) (Kd.R_base ho0) hb);have n1_:=qK (rB (by (with_reducible repeat (first|apply rL|apply rN|apply rW));exact HO267.out) hb);have n2_:=qK (Kd.R_lower (Kd.R_new' ho0 (Kd.R_lt (by (with_reducible repeat (first|apply rL|apply rN|apply rW));exact HO_5.out))) (qZ (by repeat (with_reducible first|exact HB.out|apply qA|apply qD|apply qO|refine qS ?_ GE253.out|refine qS ?_ GE264.out))));have n3_:=qK (qB (g:=gb253) (o:=_) (by (with_reducible repeat (first|refine qN ?_ _|refine qW ?_|refine qL ?_ _));exact BK253.out) hb);have n4_:=qK (qB (g:=gb264) (o:=_) (by (with_reducible repeat (first|refine qN ?_ _|refine qW ?_|refine qL ?_ _));exact BK264.out) hb);have n5_:=qK (qT (by repeat (with_reducible first|exact HB.out|apply qA|apply qD|apply qO|refine qS ?_ GE253.out|refine qS ?_ GE264.out)) hb);clear HO_5;clear HO267;clear BK253;clear BK264;clear HB;have HO_5:=n0_;have HO267:=n1_;have HO270:=n2_;have BK253:=n3_;have BK264:=n4_;have HB:=n5_;clear n0_ n1_ n2_ n3_ n4_ n5_;(try clear hb);(try clear ho0)))
         go_roundg k2
         case measure=>have:=HK1.out;have:=HK2.out;omega
         case rel=>exact ⟨(y265),(t268),H',⟨by have:=HK1.out;have:=HK2.out;omega⟩,⟨by (with_reducible repeat (first|apply rL|apply rN|apply rW));exact Kd.R_mono HO267.out (fun _ hk=>trivial)⟩,⟨by (with_reducible repeat (first|apply rL|apply rN|apply rW));exact Kd.R_mono HO270.out (fun _ hk=>trivial)⟩,⟨by (with_reducible repeat (first|refine qN ?_ _|refine qW ?_|refine qL ?_ _));exact BK253.out⟩,⟨by repeat (first|(with_reducible first|exact HB.out|apply qA|apply qD|apply qO|refine qS ?_ GE253.out|refine qS ?_ GE264.out)|exact HB.out)⟩⟩
        ·rw [if_neg c10] at H;exact absurd H (by simp)
       ·replace c9:=Bool.eq_false_iff.mpr c9;subst c9;have H1:(some (x4_2,false))=some (r1,r2):=by rw [if_neg (show ¬ (false=true) by decide)] at H;exact H
        clear H;have H:=H1;clear H1;simp only [Option.some.injEq,Prod.mk.injEq] at H;obtain ⟨rfl,rfl⟩:=H;obtain ⟨Ao21,co21,eo21⟩:=Kd.R_slice HO_5.out;subst eo21;have hcz22_0:wr.cell? ⟨gb253,0,none⟩=some (.slice A0_0 l0_0.length c0_0):=(qC BK253.out 0).trans rfl;have hcz22_1:wr.cell? ⟨gb253,1,none⟩=some (.slice A0_1 l0_1.length c0_1):=(qC BK253.out 1).trans rfl;have hfz22_0:=qF BK253.out 0;have hfz22_1:=qF BK253.out 1;go_wp2_with (first|((with_reducible refine gate_callee (f:=165) rfl ?_);refine goesL_ (some 26) rfl rfl Try.func165 (by kernel_rfl) rfl #[.agg #[.slice A0_0 l0_0.length c0_0,.slice A0_1 l0_1.length c0_1],.slice Ao21 x5_2.length co21] rfl (by (try simp only [mT,mC,mN]);first|done|rfl|(simp only [lD,lT];rfl)) ?_;(with_reducible refine (spec_l11Ear.calls k2 _ _ l0_0 _ _ l0_1 _ _ x5_2 t261 t262 false _ ?side1 ?side2 ?side3 ?side4 ?side5 ?side6 A8.out).mono ?_);(case side1=>repeat (first|exact (cB HR0_0.out HB.out)|(with_reducible first|refine cL ?_ _|refine cN ?_ _|refine cW ?_)));(case side2=>exact HC0_0.out);(case side3=>repeat (first|exact (cB HR0_1.out HB.out)|(with_reducible first|refine cL ?_ _|refine cN ?_ _|refine cW ?_)));(case side4=>exact HC0_1.out);(case side5=>repeat (first|exact (Kd.R_reads' HO_5.out).2.2|(with_reducible first|refine cL ?_ _|refine cN ?_ _|refine cW ?_)));(case side6=>exact (Kd.R_reads' HO_5.out).2.1);rintro e w23 ⟨rfl,hb⟩;refine ⟨_,rfl,?_⟩;have n0_:=qK (rB (by (with_reducible repeat (first|apply rL|apply rN|apply rW));exact HO_4.out) hb);have n1_:=qK (rB (by (with_reducible repeat (first|apply rL|apply rN|apply rW));exact HO_5.out) hb);have n2_:=qK (qB (g:=gb253) (o:=_) (by (with_reducible repeat (first|refine qN ?_ _|refine qW ?_|refine qL ?_ _));exact BK253.out) hb);have n3_:=qK (qT (by repeat (with_reducible first|exact HB.out|apply qA|apply qD|apply qO|refine qS ?_ GE253.out)) hb);clear HO_4;clear HO_5;clear BK253;clear HB;have HO_4:=n0_;have HO_5:=n1_;have BK253:=n2_;have HB:=n3_;clear n0_ n1_ n2_ n3_;(try clear hb))|((with_reducible refine gate_dst (N:=7) rfl ?_);refine box_event ?hg (N:=7) ?hd (cs:=#[.int .i64 0,.int .i64 0]) (t:=106) ?hr ?_;(case hd=>rfl);(case hg=>rfl);(case hr=>(go_simp;try rfl));intro gb264 hg w24 hbox hb;have n0_:=qK (rB (Kd.R_elderB (by (with_reducible repeat (first|apply rL|apply rN|apply rW));exact HO_4.out) gb264 (Nat.le_of_eq hg.symm)) hb);have n1_:=qK (rB (by (with_reducible repeat (first|apply rL|apply rN|apply rW));exact HO_5.out) hb);have n2_:=qK (qB (g:=gb253) (o:=_) (by (with_reducible repeat (first|refine qN ?_ _|refine qW ?_|refine qL ?_ _));exact BK253.out) hb);have n3_:=qK (qT (by repeat (with_reducible first|exact HB.out|apply qA|apply qD|apply qO|refine qS ?_ GE253.out)) hb);have n4_:=qK (hbox);have n5_:=qK ((by rw [hg];exact (qZ (by repeat (with_reducible first|exact HB.out|apply qA|apply qD|apply qO|refine qS ?_ GE253.out))):w.heap.size≤gb264));have n6_:=qK ((by rw [hg];exact (qZ (by repeat (with_reducible first|exact HB.out|apply qA|apply qD|apply qO|refine qS ?_ GE253.out))):w.heap.size≤gb264));have n7_:=qK ((by rw [hg];exact Nat.ne_of_lt (blk_lt (g:=gb253) (o:=_) (by (with_reducible repeat (first|refine qN ?_ _|refine qW ?_|refine qL ?_ _));exact BK253.out)):gb253 ≠ gb264));have n8_:=qK ((by rw [hg];exact Nat.ne_of_gt (blk_lt (g:=gb253) (o:=_) (by (with_reducible repeat (first|refine qN ?_ _|refine qW ?_|refine qL ?_ _));exact BK253.out)):gb264 ≠ gb253));clear HO_4;clear HO_5;clear BK253;clear HB;have HO_4:=n0_;have HO_5:=n1_;have BK253:=n2_;have HB:=n3_;have BK264:=n4_;have GW264:=n5_;have GE264:=n6_;have NB253_264:=n7_;have NB264_253:=n8_;clear n0_ n1_ n2_ n3_ n4_ n5_ n6_ n7_ n8_;clear hb hbox hg;have hnb25:=NB264_253.out;have hnc25:=NB253_264.out;have hcz26_0:w24.cell? ⟨gb264,0,none⟩=some (.int .i64 0):=(qC BK264.out 0).trans rfl;have hcz26_1:w24.cell? ⟨gb264,1,none⟩=some (.int .i64 0):=(qC BK264.out 1).trans rfl;have hfz26_0:=qF BK264.out 0;have hfz26_1:=qF BK264.out 1))
        go_ret2
        exact ⟨_,by first|rfl|(simp [errW_none,errW_some] <;> rfl)|(simp [*,errW_none,errW_some] <;> rfl),by (with_reducible repeat (first|apply rL|apply rN|apply rW));exact Kd.R_mono (Kd.R_far (p:=⟨gb264,1,none⟩) (Kd.R_far (p:=⟨gb264,0,none⟩) (Kd.R_mono HO_4.out (fun k_ hk=>(⟨hk,hk.2⟩:_∧k_ ≠ gb264))) (fun _ hk=>hk.2) (.int .i64 t261)) (fun _ hk=>hk.2) (.int .i64 t262)) (fun _ hk=>trivial),by repeat (first|(with_reducible first|exact HB.out|apply qA|apply qD|apply qO|refine qS ?_ GE253.out|refine qS ?_ GE264.out)|exact HB.out)⟩
      ·rw [if_neg c7] at H;have c7b0:decide (1 < (x5_2.length:Int))=false:=decide_eq_false c7;have c7b1:decide (1 < x5_2.length)=false:=decide_eq_false (by omega);clear c7;by_cases c27:0 < (x5_2.length:Int)
       ·rw [if_pos c27] at H;have c27b0:decide (0 < (x5_2.length:Int))=true:=decide_eq_true c27;have c27b1:decide (0 < x5_2.length)=true:=decide_eq_true (by omega);clear c27;by_cases c28:x4_2.length < 8796093022208
        ·rw [if_pos c28] at H;have LMc28:=qK c28;clear c28;obtain ⟨y258,hy258⟩:∃ y_:List (S106),y_=(x4_2 ++ [(⟨rd x5_2 0,(-1)⟩:S106)]):=⟨_,rfl⟩;replace H:(some (y258,true))=some (r1,r2):=by first|(rw [hy258];with_reducible exact H)|(have H2_:=(Option.bind_some _ _).symm.trans H;rw [hy258];with_reducible exact H2_)|(have H2_:=(Option.bind_some _ _).symm.trans H;with_reducible exact H2_)|with_reducible exact H|(rw [hy258];exact H)|exact H
         have Ny258:=qK hy258;clear hy258;simp only [Option.some.injEq,Prod.mk.injEq] at H;obtain ⟨rfl,rfl⟩:=H;obtain ⟨Ao29,co29,eo29⟩:=Kd.R_slice HO_5.out;subst eo29;have p257:0≤(0:Int):=(by omega);have q257:0 < (x5_2.length:Int):=of_decide_eq_true (by first|(with_reducible assumption)|assumption);obtain ⟨ad257,e257,hx257_0⟩:=Kd.at_int (Kd.R_reads' HO_5.out).2.2 0 p257 q257;cases e257
         have qi257:(0 < x5_2.length)=True:=eq_true (by omega);(try rw [show ((0:Int)).toNat=0 from rfl] at hx257_0);(try rw [Addr.add_zero'] at hx257_0);replace p257:=eq_true p257;replace q257:=eq_true q257;go_wp2_with (first|((with_reducible refine gate_builtin (b:=.append) (xs:=#[.tmp 40,.tmp 45]) rfl ?_);at_builtin;refine Kd.R_append k106 (w0:=w) w.heap.size rfl (.tmp 40) (.tmp 45) 46 106 (.agg #[(.int .i64 0),(.int .i64 0)]) 16 rfl Try.underlying46 info106 rfl (by decide) (by omega) u4 x4_2 (⟨rd x5_2 0,(-1)⟩:S106) [.int .i64 (rd x5_2 0),.int .i64 (-1)] (fun _=>True) (fun _=>False) rfl rfl ?aP (fun _ hk=>hk.elim) ?aF ?aO ?aB ?aS ?aL ?_;(case aP=>exact k106_mkM _ _ _ (⟨rd x5_2 0,(-1)⟩:S106));(case aB=>exact (by repeat (with_reducible first|exact HB.out|apply qA|apply qD|apply qO|refine qS ?_ GE253.out)));(case aF=>exact (fun _ _=>trivial));(case aO=>exact (by (with_reducible repeat (first|apply rL|apply rN|apply rW));exact HO_4.out));(case aS=>exact (qZ (by repeat (with_reducible first|exact HB.out|apply qA|apply qD|apply qO|refine qS ?_ GE253.out))));(case aL=>have:=LMc28.out;omega);intro v259 w30 ho hb hg hat;rw [← Ny258.out] at ho;have n0_:=qK (Kd.R_over' (by (with_reducible repeat (first|apply rL|apply rN|apply rW));exact HO_5.out) (Kd.R_typed (by (with_reducible repeat (first|apply rL|apply rN|apply rW));exact HO_4.out)) (by decide) hg);have n1_:=qK (blk_grown (g:=gb253) (o:=_) (by (with_reducible repeat (first|refine qN ?_ _|refine qW ?_|refine qL ?_ _));exact BK253.out) hg (Kd.R_ne HO_4.out BK253.out (by decide)));have n2_:=qK (hb);have n3_:=qK (ho);clear HO_5;clear BK253;clear HB;clear HO_4;have HO_5:=n0_;have BK253:=n1_;have HB:=n2_;have HO260:=n3_;clear n0_ n1_ n2_ n3_;clear ho hb hg hat))
         go_ret2
         exact ⟨_,by first|rfl|(simp [errW_none,errW_some] <;> rfl)|(simp [*,errW_none,errW_some] <;> rfl),by (with_reducible repeat (first|apply rL|apply rN|apply rW));exact HO260.out,by repeat (first|(with_reducible first|exact HB.out|apply qA|apply qD|apply qO|refine qS ?_ GE253.out)|exact HB.out)⟩
        ·rw [if_neg c28] at H;exact absurd H (by simp)
       ·rw [if_neg c27] at H;exact absurd H (by simp)

/-! ### spec_EarsOf: function 60 -/
def spec_EarsOf.f (k:Nat) (l0_0:List Int) (l0_1:List (S97)) (l1:List Int):Option ((List (S106)) × Bool × Bool):=(spec_GoodQuery.f k l0_0 l0_1 l1).bind fun t272=>(if t272=true then ((spec_l11Ears.f k l0_0 l0_1).bind fun bt273=>(some (bt273.1,bt273.2,true))) else (some (([]:List (S106)),false,false)))
theorem spec_EarsOf.mono : ∀ a0 a1 a2 k,LeO (spec_EarsOf.f k a0 a1 a2) (spec_EarsOf.f (k + 1) a0 a1 a2):=by
 intro a0 a1 a2 k;unfold spec_EarsOf.f
 repeat' first
   | (with_reducible exact spec_GoodQuery.mono _ _ _ _)
   | (with_reducible exact spec_l11Ears.mono _ _ _)
   | (with_reducible exact LeO.refl _)
   | (with_reducible exact LeO.none _)
   | (with_reducible refine LeO.ite ?_ ?_)
   | (with_reducible refine LeO.bind ?_ (fun _=>?_))
   | exact spec_GoodQuery.mono _ _ _ _
   | exact spec_l11Ears.mono _ _ _
   | exact LeO.none _
   | refine LeO.ite ?_ ?_
   | refine LeO.bind ?_ (fun _=>?_)
set_option maxHeartbeats 8000000 in
set_option maxRecDepth 100000 in
theorem spec_EarsOf.calls (k:Nat) (A0_0:Option Addr) (c0_0:Nat) (l0_0:List Int) (A0_1:Option Addr) (c0_1:Nat) (l0_1:List (S97)) (A1:Option Addr) (c1:Nat) (l1:List Int) (r1:List (S106)) (r2:Bool) (r3:Bool) (w:World) (hr0_0:Kd.C (Kd.int .i64) w A0_0 l0_0.length l0_0) (hc0_0:l0_0.length≤c0_0) (hr0_1:Kd.C k97 w A0_1 l0_1.length l0_1) (hc0_1:l0_1.length≤c0_1) (hr1:Kd.C (Kd.int .i64) w A1 l1.length l1) (hc1:l1.length≤c1) (h:spec_EarsOf.f k l0_0 l0_1 l1=some (r1,r2,r3)) :
  Calls Try.prog 60 #[.agg #[.slice A0_0 l0_0.length c0_0,.slice A0_1 l0_1.length c0_1],.slice A1 l1.length c1] w fun e w'=>∃ v0_:Value,e=.returned (.tuple #[v0_,.bool r2,.bool r3])∧Kd.R k106 106 w' w.heap.size (fun _=>True) v0_ r1∧Below w.heap.size w w':=by
 have hu32:=Try.underlying32;have HR0_0:=qK hr0_0;have HC0_0:=qK hc0_0;clear hr0_0 hc0_0;have HR0_1:=qK hr0_1;have HC0_1:=qK hc0_1;clear hr0_1 hc0_1;have HR1:=qK hr1;have HC1:=qK hc1;clear hr1 hc1;have HB:=qK (Below.refl w.heap.size w);have H:((spec_GoodQuery.f k l0_0 l0_1 l1).bind fun t272=>(if t272=true then ((spec_l11Ears.f k l0_0 l0_1).bind fun bt273=>(some (bt273.1,bt273.2,true))) else (some (([]:List (S106)),false,false))))=some (r1,r2,r3):=h;clear h;replace H:=Option.bind_eq_some_iff.mp H;obtain ⟨t272,A30,H⟩:=H;replace H:(if t272=true then ((spec_l11Ears.f k l0_0 l0_1).bind fun bt273=>(some (bt273.1,bt273.2,true))) else (some (([]:List (S106)),false,false)))=some (r1,r2,r3):=H;have A3:=qK A30;clear A30;by_cases c4:t272=true
 ·subst c4;have H1:((spec_l11Ears.f k l0_0 l0_1).bind fun bt273=>(some (bt273.1,bt273.2,true)))=some (r1,r2,r3):=by rw [if_pos rfl] at H;exact H
  clear H;have H:=H1;clear H1;replace H:=Option.bind_eq_some_iff.mp H;obtain ⟨⟨t273,t276⟩,A50,H⟩:=H;replace H:(some (t273,t276,true))=some (r1,r2,r3):=H;have A5:=qK A50;clear A50;simp only [Option.some.injEq,Prod.mk.injEq] at H;obtain ⟨rfl,rfl,rfl⟩:=H;go_enter Try.func60,Try.ntmps60
  go_wp2_with (first|((with_reducible refine gate_dst (N:=2) rfl ?_);refine box_event ?hg (N:=2) ?hd (cs:=#[.slice A0_0 l0_0.length c0_0,.slice A0_1 l0_1.length c0_1]) (t:=32) ?hr ?_;(case hd=>rfl);(case hg=>rfl);(case hr=>(go_simp;try rfl));intro gb271 hg w6 hbox hb;have n0_:=qK (qT (by repeat (with_reducible first|exact HB.out|apply qA|apply qD|apply qO)) hb);have n1_:=qK (hbox);have n2_:=qK ((by rw [hg];exact (qZ (by repeat (with_reducible first|exact HB.out|apply qA|apply qD|apply qO))):w.heap.size≤gb271));have n3_:=qK ((by rw [hg];exact (qZ (by repeat (with_reducible first|exact HB.out|apply qA|apply qD|apply qO))):w.heap.size≤gb271));clear HB;have HB:=n0_;have BK271:=n1_;have GW271:=n2_;have GE271:=n3_;clear n0_ n1_ n2_ n3_;clear hb hbox hg;have hcz7_0:w6.cell? ⟨gb271,0,none⟩=some (.slice A0_0 l0_0.length c0_0):=(qC BK271.out 0).trans rfl;have hcz7_1:w6.cell? ⟨gb271,1,none⟩=some (.slice A0_1 l0_1.length c0_1):=(qC BK271.out 1).trans rfl;have hfz7_0:=qF BK271.out 0;have hfz7_1:=qF BK271.out 1)|((with_reducible refine gate_callee (f:=75) rfl ?_);refine goesL_ (some 11) rfl rfl Try.func75 (by kernel_rfl) rfl #[.agg #[.slice A0_0 l0_0.length c0_0,.slice A0_1 l0_1.length c0_1],.slice A1 l1.length c1] rfl (by (try simp only [mT,mC,mN]);first|done|rfl|(simp only [lD,lT];rfl)) ?_;(with_reducible refine (spec_GoodQuery.calls k _ _ l0_0 _ _ l0_1 _ _ l1 true _ ?side1 ?side2 ?side3 ?side4 ?side5 ?side6 A3.out).mono ?_);(case side1=>repeat (first|exact (cB HR0_0.out HB.out)|(with_reducible first|refine cL ?_ _|refine cN ?_ _|refine cW ?_)));(case side2=>exact HC0_0.out);(case side3=>repeat (first|exact (cB HR0_1.out HB.out)|(with_reducible first|refine cL ?_ _|refine cN ?_ _|refine cW ?_)));(case side4=>exact HC0_1.out);(case side5=>repeat (first|exact (cB HR1.out HB.out)|(with_reducible first|refine cL ?_ _|refine cN ?_ _|refine cW ?_)));(case side6=>exact HC1.out);rintro e w8 ⟨rfl,hb⟩;refine ⟨_,rfl,?_⟩;have n0_:=qK (qB (g:=gb271) (o:=_) (by (with_reducible repeat (first|refine qN ?_ _|refine qW ?_|refine qL ?_ _));exact BK271.out) hb);have n1_:=qK (qT (by repeat (with_reducible first|exact HB.out|apply qA|apply qD|apply qO|refine qS ?_ GE271.out)) hb);clear BK271;clear HB;have BK271:=n0_;have HB:=n1_;clear n0_ n1_;(try clear hb);have hcz9_0:w8.cell? ⟨gb271,0,none⟩=some (.slice A0_0 l0_0.length c0_0):=(qC BK271.out 0).trans rfl;have hcz9_1:w8.cell? ⟨gb271,1,none⟩=some (.slice A0_1 l0_1.length c0_1):=(qC BK271.out 1).trans rfl;have hfz9_0:=qF BK271.out 0;have hfz9_1:=qF BK271.out 1)|((with_reducible refine gate_callee (f:=125) rfl ?_);refine goesL_ (some 15) rfl rfl Try.func125 (by kernel_rfl) rfl #[.agg #[.slice A0_0 l0_0.length c0_0,.slice A0_1 l0_1.length c0_1]] rfl (by (try simp only [mT,mC,mN]);first|done|rfl|(simp only [lD,lT];rfl)) ?_;(with_reducible refine (spec_l11Ears.calls k _ _ l0_0 _ _ l0_1 t273 t276 _ ?side1 ?side2 ?side3 ?side4 A5.out).mono ?_);(case side1=>repeat (first|exact (cB HR0_0.out HB.out)|(with_reducible first|refine cL ?_ _|refine cN ?_ _|refine cW ?_)));(case side2=>exact HC0_0.out);(case side3=>repeat (first|exact (cB HR0_1.out HB.out)|(with_reducible first|refine cL ?_ _|refine cN ?_ _|refine cW ?_)));(case side4=>exact HC0_1.out);rintro e w10 ⟨v274,rfl,ho0,hb⟩;refine ⟨_,rfl,?_⟩;have n0_:=qK (Kd.R_lower ho0 (qZ (by repeat (with_reducible first|exact HB.out|apply qA|apply qD|apply qO|refine qS ?_ GE271.out))));have n1_:=qK (qB (g:=gb271) (o:=_) (by (with_reducible repeat (first|refine qN ?_ _|refine qW ?_|refine qL ?_ _));exact BK271.out) hb);have n2_:=qK (qT (by repeat (with_reducible first|exact HB.out|apply qA|apply qD|apply qO|refine qS ?_ GE271.out)) hb);clear BK271;clear HB;have HO275:=n0_;have BK271:=n1_;have HB:=n2_;clear n0_ n1_ n2_;(try clear hb);(try clear ho0)))
  go_ret3
  exact ⟨_,by first|rfl|(simp [errW_none,errW_some] <;> rfl)|(simp [*,errW_none,errW_some] <;> rfl),by (with_reducible repeat (first|apply rL|apply rN|apply rW));exact HO275.out,by repeat (first|(with_reducible first|exact HB.out|apply qA|apply qD|apply qO|refine qS ?_ GE271.out)|exact HB.out)⟩
 ·replace c4:=Bool.eq_false_iff.mpr c4;subst c4;have H1:(some (([]:List (S106)),false,false))=some (r1,r2,r3):=by rw [if_neg (show ¬ (false=true) by decide)] at H;exact H
  clear H;have H:=H1;clear H1;simp only [Option.some.injEq,Prod.mk.injEq] at H;obtain ⟨rfl,rfl,rfl⟩:=H;go_enter Try.func60,Try.ntmps60
  go_wp2_with (first|((with_reducible refine gate_dst (N:=2) rfl ?_);refine box_event ?hg (N:=2) ?hd (cs:=#[.slice A0_0 l0_0.length c0_0,.slice A0_1 l0_1.length c0_1]) (t:=32) ?hr ?_;(case hd=>rfl);(case hg=>rfl);(case hr=>(go_simp;try rfl));intro gb271 hg w11 hbox hb;have n0_:=qK (qT (by repeat (with_reducible first|exact HB.out|apply qA|apply qD|apply qO)) hb);have n1_:=qK (hbox);have n2_:=qK ((by rw [hg];exact (qZ (by repeat (with_reducible first|exact HB.out|apply qA|apply qD|apply qO))):w.heap.size≤gb271));have n3_:=qK ((by rw [hg];exact (qZ (by repeat (with_reducible first|exact HB.out|apply qA|apply qD|apply qO))):w.heap.size≤gb271));clear HB;have HB:=n0_;have BK271:=n1_;have GW271:=n2_;have GE271:=n3_;clear n0_ n1_ n2_ n3_;clear hb hbox hg;have hcz12_0:w11.cell? ⟨gb271,0,none⟩=some (.slice A0_0 l0_0.length c0_0):=(qC BK271.out 0).trans rfl;have hcz12_1:w11.cell? ⟨gb271,1,none⟩=some (.slice A0_1 l0_1.length c0_1):=(qC BK271.out 1).trans rfl;have hfz12_0:=qF BK271.out 0;have hfz12_1:=qF BK271.out 1)|((with_reducible refine gate_callee (f:=75) rfl ?_);refine goesL_ (some 11) rfl rfl Try.func75 (by kernel_rfl) rfl #[.agg #[.slice A0_0 l0_0.length c0_0,.slice A0_1 l0_1.length c0_1],.slice A1 l1.length c1] rfl (by (try simp only [mT,mC,mN]);first|done|rfl|(simp only [lD,lT];rfl)) ?_;(with_reducible refine (spec_GoodQuery.calls k _ _ l0_0 _ _ l0_1 _ _ l1 false _ ?side1 ?side2 ?side3 ?side4 ?side5 ?side6 A3.out).mono ?_);(case side1=>repeat (first|exact (cB HR0_0.out HB.out)|(with_reducible first|refine cL ?_ _|refine cN ?_ _|refine cW ?_)));(case side2=>exact HC0_0.out);(case side3=>repeat (first|exact (cB HR0_1.out HB.out)|(with_reducible first|refine cL ?_ _|refine cN ?_ _|refine cW ?_)));(case side4=>exact HC0_1.out);(case side5=>repeat (first|exact (cB HR1.out HB.out)|(with_reducible first|refine cL ?_ _|refine cN ?_ _|refine cW ?_)));(case side6=>exact HC1.out);rintro e w13 ⟨rfl,hb⟩;refine ⟨_,rfl,?_⟩;have n0_:=qK (qB (g:=gb271) (o:=_) (by (with_reducible repeat (first|refine qN ?_ _|refine qW ?_|refine qL ?_ _));exact BK271.out) hb);have n1_:=qK (qT (by repeat (with_reducible first|exact HB.out|apply qA|apply qD|apply qO|refine qS ?_ GE271.out)) hb);clear BK271;clear HB;have BK271:=n0_;have HB:=n1_;clear n0_ n1_;(try clear hb)))
  go_ret3
  exact ⟨_,by first|rfl|(simp [errW_none,errW_some] <;> rfl)|(simp [*,errW_none,errW_some] <;> rfl),by first|exact Kd.R_nil _ _ _ _ _|exact Kd.N_nil _ _ _ _ _|exact Kd.V_nil _ _ _ _ _|exact Kd.Q_nil _ _ _ _ _|exact Kd.S_nil _ _ _ _ _,by repeat (first|(with_reducible first|exact HB.out|apply qA|apply qD|apply qO|refine qS ?_ GE271.out)|exact HB.out)⟩

/-! ### idxf_Int: function 190 -/
set_option maxHeartbeats 4000000 in
set_option maxRecDepth 100000 in
theorem idxf_Int.calls (A : Option Addr) (c : Nat) (l : List (Int)) (g : Nat) (lb : Array Value) (p : Int → Bool) (w : World) (eg : ∀ args w, (callFunc g args).run Try.prog w = .ok (.enter g args) w)
    (hr : Kd.C (Kd.int .i64) w A l.length l) (hp : PredOn Try.prog g lb (One (Kd.int .i64)) p l w) :
    Calls Try.prog 190 #[.slice A l.length c, .func (.func g) #[] lb] w fun e w' => e = .returned (.int .i64 (idxf p l)) ∧ Below w.heap.size w w' := by
  have hl : l.length ≤ 9223372036854775807 := hr.2.1
  have HR := Aside0.mk hr
  clear hr
  have HP := Aside0.mk hp
  clear hp
  go_enter Try.func190, Try.ntmps190
  go_wp2
  go_loopg [5, 8] l.length (fun gg _ s8 wr => ∃ kk : Nat, kk ≤ l.length ∧ l.length - kk ≤ gg ∧ s8 = .int .i64 kk ∧ Aside0 (Below w.heap.size w wr) ∧ Aside0 (∀ j, (hj : j < l.length) → j < kk → p l[j] = false))
  case atStart => exact ⟨0, Nat.zero_le _, by omega, rfl, ⟨Below.refl _ w⟩, ⟨fun j hj h => absurd h (Nat.not_lt_zero _)⟩⟩
  case round =>
    obtain ⟨kk, hkk, hg, rfl, BW, AA⟩ := hrel
    by_cases hlt : kk < l.length
    · have hltz : (kk : Int) < (l.length : Int) := by omega
      have hmem : l[kk] ∈ l := List.getElem_mem hlt
      obtain ⟨ad, cs, e1, hlen, hK, hcell⟩ := Kd.C_get (Kd.C_below HR.out BW.out) l[kk] (kk : Int) (by omega) (by omega)
      cases e1
      have hrd : l.getD (kk : Int).toNat l[kk] = l[kk] := by simp [hlt]
      rw [hrd] at hK
      replace hlen : cs.length = 1 := hlen
      obtain ⟨c0_, rfl⟩ : ∃ c0_ : Value, cs = [c0_] := list_len1 hlen
      replace hcell : ∀ j u, ([c0_] : List Value)[j]? = some u → wr.cell? (ad.add ((kk : Int).toNat * 1 + j)) = some u := hcell
      have h0_ : wr.cell? (ad.add kk) = some c0_ := by have := hcell 0 _ rfl; simpa using this
      have hcall := HP.out wr l[kk] (c0_) hmem BW.out hK
      clear hcell hK hlen hmem hrd
      have AY : Aside0 (∃ y, y = l[kk]) := ⟨⟨_, rfl⟩⟩
      obtain ⟨⟨y, hy⟩⟩ := AY
      rw [← hy] at hcall
      have HY := Aside0.mk hy
      clear hy
      cases hq : p y with
      | true =>
        rw [hq] at hcall
        have HQ := Aside0.mk hq
        clear hq
        go_wp2_with (go_at_fn g; refine hcall.mono ?_; rintro e w' ⟨rfl, hb'⟩)
        go_ret
        refine ⟨?_, below_step BW.out hb'⟩
        rw [idxf_hit hlt (by rw [← HY.out]; exact HQ.out) (fun j hj => AA.out j (by omega) hj)]
        rfl
      | false =>
        rw [hq] at hcall
        have HQ := Aside0.mk hq
        clear hq
        go_wp2_with (go_at_fn g; refine hcall.mono ?_; rintro e w' ⟨rfl, hb'⟩)
        go_roundg (l.length - (kk + 1))
        case measure => omega
        case rel =>
          refine ⟨kk + 1, by omega, by omega, by go_num, ⟨below_step BW.out hb'⟩, ⟨fun j hj hlt2 => ?_⟩⟩
          by_cases e : j = kk
          · subst e
            rw [← HY.out]; exact HQ.out
          · exact AA.out j hj (by omega)
    · have hltz : ¬ (kk : Int) < (l.length : Int) := by omega
      go_wp2
      go_ret
      refine ⟨?_, BW.out⟩
      rw [idxf_miss (fun j hj => AA.out j hj (by omega))]
      rfl

/-! ### anyf_Int: function 155 -/
set_option maxHeartbeats 4000000 in
set_option maxRecDepth 100000 in
theorem anyf_Int.calls (A : Option Addr) (c : Nat) (l : List (Int)) (g : Nat) (lb : Array Value) (p : Int → Bool) (w : World) (eg : ∀ args w, (callFunc g args).run Try.prog w = .ok (.enter g args) w)
    (hr : Kd.C (Kd.int .i64) w A l.length l) (hp : PredOn Try.prog g lb (One (Kd.int .i64)) p l w) :
    Calls Try.prog 155 #[.slice A l.length c, .func (.func g) #[] lb] w fun e w' => e = .returned (.bool (l.any p)) ∧ Below w.heap.size w w' := by
  rw [← idxf_any p l]
  have HR := Aside0.mk hr
  clear hr
  have HP := Aside0.mk hp
  clear hp
  obtain ⟨i, hi⟩ : ∃ i, i = idxf p l := ⟨_, rfl⟩
  rw [← hi]
  have HI := Aside0.mk hi
  clear hi
  go_enter Try.func155, Try.ntmps155
  go_wp2_with (go_at_call 190; refine (idxf_Int.calls A c l g lb p _ eg HR.out HP.out).mono ?_; rw [← HI.out]; rintro e w' ⟨rfl, hb'⟩)
  go_ret
  exact ⟨rfl, hb'⟩

/-! ### areAll1_Int: function 156 -/
set_option maxHeartbeats 4000000 in
set_option maxRecDepth 100000 in
theorem areAll1_Int.pred (B : Nat) (l : List (Int)) (g : Nat) (lb : Array Value) (p : Int → Bool) (w : World) (eg : ∀ args w, (callFunc g args).run Try.prog w = .ok (.enter g args) w)
    (hB : w.cell? ⟨B, 0, none⟩ = some (.func (.func g) #[] lb)) (hp : PredOn Try.prog g lb (One (Kd.int .i64)) p l w) :
    PredOn Try.prog 156 #[.pointer (some ⟨B, 0, none⟩)] (One (Kd.int .i64)) (fun x => !p x) l w := by
  intro W x v hx hW hv
  obtain ⟨c0_, rfl⟩ : ∃ c0_, c0_ = v := ⟨_, rfl⟩
  have hB' : W.cell? ⟨B, 0, none⟩ = some (.func (.func g) #[] lb) := pw_cell_below hW hB
  have HP := Aside0.mk hp
  clear hp hB
  obtain ⟨b, hb⟩ : ∃ b, b = p x := ⟨_, rfl⟩
  have hb0 := Aside0.mk hb
  have HV := Aside0.mk hv
  have HWW := Aside0.mk hW
  clear hv hW
  show Calls Try.prog 156 #[c0_, .pointer (some ⟨B, 0, none⟩)] W fun e W' => e = .returned (.bool (!p x)) ∧ Below W.heap.size W W'
  rw [← hb]
  clear hb
  cases b with
  | true =>
    go_enter Try.func156, Try.ntmps156
    go_wp2_with (go_at_fn g; refine (HP.out _ x _ hx HWW.out HV.out).mono ?_; rw [← hb0.out]; rintro e w' ⟨rfl, hb'⟩)
    go_ret
    exact ⟨rfl, hb'⟩
  | false =>
    go_enter Try.func156, Try.ntmps156
    go_wp2_with (go_at_fn g; refine (HP.out _ x _ hx HWW.out HV.out).mono ?_; rw [← hb0.out]; rintro e w' ⟨rfl, hb'⟩)
    go_ret
    exact ⟨rfl, hb'⟩

/-! ### areAll_Int: function 106 -/
set_option maxHeartbeats 4000000 in
set_option maxRecDepth 100000 in
theorem areAll_Int.calls (A : Option Addr) (c : Nat) (l : List (Int)) (g : Nat) (lb : Array Value) (p : Int → Bool) (w : World) (eg : ∀ args w, (callFunc g args).run Try.prog w = .ok (.enter g args) w)
    (hr : Kd.C (Kd.int .i64) w A l.length l) (hp : PredOn Try.prog g lb (One (Kd.int .i64)) p l w) :
    Calls Try.prog 106 #[.slice A l.length c, .func (.func g) #[] lb] w fun e w' => e = .returned (.bool (l.all p)) ∧ Below w.heap.size w w' := by
  have hb1 : Below w.heap.size w (w.alloc (.cells #[.func (.func g) #[] lb] 134)) := below_alloc (Below.refl _ _) _
  have hp1 := areAll1_Int.pred w.heap.size l g lb p (w.alloc (.cells #[.func (.func g) #[] lb] 134)) eg (by simp) (hp.grown hb1)
  have HR := Aside0.mk (Kd.C_below hr hb1)
  have HP := Aside0.mk hp1
  have HB1 := Aside0.mk hb1
  clear hr hp hp1 hb1
  obtain ⟨b, hb⟩ : ∃ b, b = l.any (fun x => !p x) := ⟨_, rfl⟩
  have hall : l.all p = !b := by rw [hb, List.all_eq_not_any_not]
  rw [hall]
  have hb0 := Aside0.mk hb
  clear hb hall
  have e1 := enters_of Try.func156 (by kernel_rfl) rfl
  cases b with
  | true =>
    go_enter Try.func106, Try.ntmps106
    go_wp2_with (go_at_call 155; refine (anyf_Int.calls A c l _ _ _ _ e1 HR.out HP.out).mono ?_; rw [← hb0.out]; rintro e w' ⟨rfl, hb'⟩)
    go_ret
    exact ⟨rfl, below_step HB1.out hb'⟩
  | false =>
    go_enter Try.func106, Try.ntmps106
    go_wp2_with (go_at_call 155; refine (anyf_Int.calls A c l _ _ _ _ e1 HR.out HP.out).mono ?_; rw [← hb0.out]; rintro e w' ⟨rfl, hb'⟩)
    go_ret
    exact ⟨rfl, below_step HB1.out hb'⟩

/-! ### idxf_Atom: function 193 -/
set_option maxHeartbeats 4000000 in
set_option maxRecDepth 100000 in
theorem idxf_Atom.calls (A : Option Addr) (c : Nat) (l : List (S97)) (g : Nat) (lb : Array Value) (p : S97 → Bool) (w : World) (eg : ∀ args w, (callFunc g args).run Try.prog w = .ok (.enter g args) w)
    (hr : Kd.C k97 w A l.length l) (hp : PredOn Try.prog g lb (Agg k97) p l w) :
    Calls Try.prog 193 #[.slice A l.length c, .func (.func g) #[] lb] w fun e w' => e = .returned (.int .i64 (idxf p l)) ∧ Below w.heap.size w w' := by
  have hl : l.length ≤ 9223372036854775807 := hr.2.1
  have HR := Aside0.mk hr
  clear hr
  have HP := Aside0.mk hp
  clear hp
  go_enter Try.func193, Try.ntmps193
  go_wp2
  go_loopg [5, 8] l.length (fun gg _ s8 wr => ∃ kk : Nat, kk ≤ l.length ∧ l.length - kk ≤ gg ∧ s8 = .int .i64 kk ∧ Aside0 (Below w.heap.size w wr) ∧ Aside0 (∀ j, (hj : j < l.length) → j < kk → p l[j] = false))
  case atStart => exact ⟨0, Nat.zero_le _, by omega, rfl, ⟨Below.refl _ w⟩, ⟨fun j hj h => absurd h (Nat.not_lt_zero _)⟩⟩
  case round =>
    obtain ⟨kk, hkk, hg, rfl, BW, AA⟩ := hrel
    by_cases hlt : kk < l.length
    · have hltz : (kk : Int) < (l.length : Int) := by omega
      have hmem : l[kk] ∈ l := List.getElem_mem hlt
      obtain ⟨ad, cs, e1, hlen, hK, hcell⟩ := Kd.C_get (Kd.C_below HR.out BW.out) l[kk] (kk : Int) (by omega) (by omega)
      cases e1
      have hrd : l.getD (kk : Int).toNat l[kk] = l[kk] := by simp [hlt]
      rw [hrd] at hK
      replace hlen : cs.length = 2 := hlen
      obtain ⟨c0_, c1_, rfl⟩ : ∃ c0_ c1_ : Value, cs = [c0_, c1_] := list_len2 hlen
      replace hcell : ∀ j u, ([c0_, c1_] : List Value)[j]? = some u → wr.cell? (ad.add ((kk : Int).toNat * 2 + j)) = some u := hcell
      have h0_ : wr.cell? (ad.add (kk * 2)) = some c0_ := by have := hcell 0 _ rfl; simpa using this
      have h1_ : wr.cell? ⟨(ad.add (kk * 2)).block, (ad.add (kk * 2)).off + 1, none⟩ = some c1_ := by have := hcell 1 _ rfl; rw [show (kk : Int).toNat = kk from by simp] at this; rw [← add_field _ _ 1 (by omega)]; exact this
      have hcall := HP.out wr l[kk] (.agg #[c0_, c1_]) hmem BW.out ⟨_, rfl, hK⟩
      clear hcell hK hlen hmem hrd
      have AY : Aside0 (∃ y, y = l[kk]) := ⟨⟨_, rfl⟩⟩
      obtain ⟨⟨y, hy⟩⟩ := AY
      rw [← hy] at hcall
      have HY := Aside0.mk hy
      clear hy
      cases hq : p y with
      | true =>
        rw [hq] at hcall
        have HQ := Aside0.mk hq
        clear hq
        go_wp2_with (go_at_fn g; refine hcall.mono ?_; rintro e w' ⟨rfl, hb'⟩)
        go_ret
        refine ⟨?_, below_step BW.out hb'⟩
        rw [idxf_hit hlt (by rw [← HY.out]; exact HQ.out) (fun j hj => AA.out j (by omega) hj)]
        rfl
      | false =>
        rw [hq] at hcall
        have HQ := Aside0.mk hq
        clear hq
        go_wp2_with (go_at_fn g; refine hcall.mono ?_; rintro e w' ⟨rfl, hb'⟩)
        go_roundg (l.length - (kk + 1))
        case measure => omega
        case rel =>
          refine ⟨kk + 1, by omega, by omega, by go_num, ⟨below_step BW.out hb'⟩, ⟨fun j hj hlt2 => ?_⟩⟩
          by_cases e : j = kk
          · subst e
            rw [← HY.out]; exact HQ.out
          · exact AA.out j hj (by omega)
    · have hltz : ¬ (kk : Int) < (l.length : Int) := by omega
      go_wp2
      go_ret
      refine ⟨?_, BW.out⟩
      rw [idxf_miss (fun j hj => AA.out j hj (by omega))]
      rfl

/-! ### anyf_Atom: function 163 -/
set_option maxHeartbeats 4000000 in
set_option maxRecDepth 100000 in
theorem anyf_Atom.calls (A : Option Addr) (c : Nat) (l : List (S97)) (g : Nat) (lb : Array Value) (p : S97 → Bool) (w : World) (eg : ∀ args w, (callFunc g args).run Try.prog w = .ok (.enter g args) w)
    (hr : Kd.C k97 w A l.length l) (hp : PredOn Try.prog g lb (Agg k97) p l w) :
    Calls Try.prog 163 #[.slice A l.length c, .func (.func g) #[] lb] w fun e w' => e = .returned (.bool (l.any p)) ∧ Below w.heap.size w w' := by
  rw [← idxf_any p l]
  have HR := Aside0.mk hr
  clear hr
  have HP := Aside0.mk hp
  clear hp
  obtain ⟨i, hi⟩ : ∃ i, i = idxf p l := ⟨_, rfl⟩
  rw [← hi]
  have HI := Aside0.mk hi
  clear hi
  go_enter Try.func163, Try.ntmps163
  go_wp2_with (go_at_call 193; refine (idxf_Atom.calls A c l g lb p _ eg HR.out HP.out).mono ?_; rw [← HI.out]; rintro e w' ⟨rfl, hb'⟩)
  go_ret
  exact ⟨rfl, hb'⟩

/-! ### areAll1_Atom: function 164 -/
set_option maxHeartbeats 4000000 in
set_option maxRecDepth 100000 in
theorem areAll1_Atom.pred (B : Nat) (l : List (S97)) (g : Nat) (lb : Array Value) (p : S97 → Bool) (w : World) (eg : ∀ args w, (callFunc g args).run Try.prog w = .ok (.enter g args) w)
    (hB : w.cell? ⟨B, 0, none⟩ = some (.func (.func g) #[] lb)) (hp : PredOn Try.prog g lb (Agg k97) p l w) :
    PredOn Try.prog 164 #[.pointer (some ⟨B, 0, none⟩)] (Agg k97) (fun x => !p x) l w := by
  intro W x v hx hW hv
  obtain ⟨cs, rfl, hK⟩ := hv
  have hlen : cs.length = 2 := Kd.K_len _ hK
  obtain ⟨c0_, c1_, rfl⟩ : ∃ c0_ c1_ : Value, cs = [c0_, c1_] := list_len2 hlen
  have hB' : W.cell? ⟨B, 0, none⟩ = some (.func (.func g) #[] lb) := pw_cell_below hW hB
  have HP := Aside0.mk hp
  clear hp hB
  obtain ⟨b, hb⟩ : ∃ b, b = p x := ⟨_, rfl⟩
  have hb0 := Aside0.mk hb
  have hK' := Kd.K_below _ (below_alloc (Below.refl W.heap.size W) (.cells #[c0_, c1_] 97)) hK
  have hgr := Aside0.mk (below_alloc (Below.refl W.heap.size W) (.cells #[c0_, c1_] 97))
  have HKK := Aside0.mk hK'
  have hB'' := pw_cell_below hgr.out hB'
  have HWW := Aside0.mk hW
  clear hK hK' hW
  show Calls Try.prog 164 #[.agg #[c0_, c1_], .pointer (some ⟨B, 0, none⟩)] W fun e W' => e = .returned (.bool (!p x)) ∧ Below W.heap.size W W'
  rw [← hb]
  clear hb
  cases b with
  | true =>
    go_enter Try.func164, Try.ntmps164
    go_wp2_with (go_at_fn g; refine (HP.out _ x _ hx (below_step HWW.out hgr.out) ⟨_, rfl, HKK.out⟩).mono ?_; rw [← hb0.out]; rintro e w' ⟨rfl, hb'⟩)
    go_ret
    exact ⟨rfl, below_step hgr.out hb'⟩
  | false =>
    go_enter Try.func164, Try.ntmps164
    go_wp2_with (go_at_fn g; refine (HP.out _ x _ hx (below_step HWW.out hgr.out) ⟨_, rfl, HKK.out⟩).mono ?_; rw [← hb0.out]; rintro e w' ⟨rfl, hb'⟩)
    go_ret
    exact ⟨rfl, below_step hgr.out hb'⟩

/-! ### areAll_Atom: function 120 -/
set_option maxHeartbeats 4000000 in
set_option maxRecDepth 100000 in
theorem areAll_Atom.calls (A : Option Addr) (c : Nat) (l : List (S97)) (g : Nat) (lb : Array Value) (p : S97 → Bool) (w : World) (eg : ∀ args w, (callFunc g args).run Try.prog w = .ok (.enter g args) w)
    (hr : Kd.C k97 w A l.length l) (hp : PredOn Try.prog g lb (Agg k97) p l w) :
    Calls Try.prog 120 #[.slice A l.length c, .func (.func g) #[] lb] w fun e w' => e = .returned (.bool (l.all p)) ∧ Below w.heap.size w w' := by
  have hb1 : Below w.heap.size w (w.alloc (.cells #[.func (.func g) #[] lb] 140)) := below_alloc (Below.refl _ _) _
  have hp1 := areAll1_Atom.pred w.heap.size l g lb p (w.alloc (.cells #[.func (.func g) #[] lb] 140)) eg (by simp) (hp.grown hb1)
  have HR := Aside0.mk (Kd.C_below hr hb1)
  have HP := Aside0.mk hp1
  have HB1 := Aside0.mk hb1
  clear hr hp hp1 hb1
  obtain ⟨b, hb⟩ : ∃ b, b = l.any (fun x => !p x) := ⟨_, rfl⟩
  have hall : l.all p = !b := by rw [hb, List.all_eq_not_any_not]
  rw [hall]
  have hb0 := Aside0.mk hb
  clear hb hall
  have e1 := enters_of Try.func164 (by kernel_rfl) rfl
  cases b with
  | true =>
    go_enter Try.func120, Try.ntmps120
    go_wp2_with (go_at_call 163; refine (anyf_Atom.calls A c l _ _ _ _ e1 HR.out HP.out).mono ?_; rw [← hb0.out]; rintro e w' ⟨rfl, hb'⟩)
    go_ret
    exact ⟨rfl, below_step HB1.out hb'⟩
  | false =>
    go_enter Try.func120, Try.ntmps120
    go_wp2_with (go_at_call 163; refine (anyf_Atom.calls A c l _ _ _ _ e1 HR.out HP.out).mono ?_; rw [← hb0.out]; rintro e w' ⟨rfl, hb'⟩)
    go_ret
    exact ⟨rfl, below_step HB1.out hb'⟩

/-! ### impl_within: function 105 -/
def impl_within.f (a0:Int) (a1:Int) (a2:Int):Option (Bool):=if a1≤a0 then (some (decide (a0≤a2))) else (some false)
set_option maxHeartbeats 8000000 in
set_option maxRecDepth 100000 in
theorem impl_within.calls (a0:Int) (a1:Int) (a2:Int) (r:Bool) (w:World) (h:impl_within.f a0 a1 a2=some r) :
  Calls Try.prog 105 #[.int .i64 a0,.int .i64 a1,.int .i64 a2] w fun e w'=>e=.returned (.bool r)∧Drawn0 w w':=by
 have H:(if a1≤a0 then (some (decide (a0≤a2))) else (some false))=some r:=h;clear h;by_cases c4:a1≤a0
 ·rw [if_pos c4] at H;have c4b0:decide (a1≤a0)=true:=decide_eq_true c4;clear c4;obtain rfl:=Option.some.inj H;go_enter Try.func105,Try.ntmps105
  go_wp2
  go_ret
  exact ⟨by first|rfl|(simp;done)|(simp [*];done),by repeat (first|exact Drawn0.refl _|apply Drawn0.step)⟩
 ·rw [if_neg c4] at H;have c4b0:decide (a1≤a0)=false:=decide_eq_false c4;clear c4;obtain rfl:=Option.some.inj H;go_enter Try.func105,Try.ntmps105
  go_wp2
  go_ret
  exact ⟨by first|rfl|(simp;done)|(simp [*];done),by repeat (first|exact Drawn0.refl _|apply Drawn0.step)⟩

/-! ### impl_isVar: function 122 -/
def impl_isVar.f (a0:Int):Option (Bool):=(impl_within.f a0 0 5).bind fun t277=>(some t277)
set_option maxHeartbeats 8000000 in
set_option maxRecDepth 100000 in
theorem impl_isVar.calls (a0:Int) (r:Bool) (w:World) (h:impl_isVar.f a0=some r) :
  Calls Try.prog 122 #[.int .i64 a0] w fun e w'=>e=.returned (.bool r)∧Drawn0 w w':=by
 have H:((impl_within.f a0 0 5).bind fun t277=>(some t277))=some r:=h;clear h;replace H:=Option.bind_eq_some_iff.mp H;obtain ⟨t277,A20,H⟩:=H;replace H:(some t277)=some r:=H;have A2:=qK A20;clear A20;obtain rfl:=Option.some.inj H;go_enter Try.func122,Try.ntmps122
 go_wp2_with (first|((with_reducible refine gate_callee (f:=105) rfl ?_);refine goesL_ (some 4) rfl rfl Try.func105 (by kernel_rfl) rfl #[.int .i64 a0,.int .i64 0,.int .i64 5] rfl (by (try simp only [mT,mC,mN]);first|done|rfl|(simp only [lD,lT];rfl)) ?_;(with_reducible refine (impl_within.calls a0 0 5 t277 _ A2.out).mono ?_);rintro e w' ⟨rfl,⟨nd,rfl⟩⟩;refine ⟨_,rfl,?_⟩))
 go_ret
 exact ⟨by first|rfl|(simp;done)|(simp [*];done),by repeat (first|exact Drawn0.refl _|apply Drawn0.step)⟩

/-! ### areAll_impl_isVar: function 106, handed function 122 -/
def areAll_impl_isVar.f (l : List Int) : Option Bool := if l.all (fun d => (impl_isVar.f d).isSome) = true then some (l.all (fun d => (impl_isVar.f d).getD false)) else none
theorem areAll_impl_isVar.calls (A : Option Addr) (c : Nat) (l : List Int) (r : Bool) (w : World) (hr : Kd.C (Kd.int .i64) w A l.length l) (hc : l.length ≤ c) (h : areAll_impl_isVar.f l = some r) :
    Calls Try.prog 106 #[.slice A l.length c, .func (.func 122) #[] #[]] w fun e w' => e = .returned (.bool r) ∧ Below w.heap.size w w' := by
  unfold areAll_impl_isVar.f at h
  by_cases hs : l.all (fun d => (impl_isVar.f d).isSome) = true
  case neg => rw [if_neg hs] at h; cases h
  rw [if_pos hs] at h
  obtain rfl : l.all (fun d => (impl_isVar.f d).getD false) = r := Option.some.inj h
  refine areAll_Int.calls A c l 122 _ _ w (enters_of Try.func122 (by kernel_rfl) rfl) hr ?_
  intro W d v hd hW hv
  obtain ⟨r_, hr_⟩ := Option.isSome_iff_exists.1 (List.all_eq_true.1 hs d hd)
  obtain rfl : v = .int .i64 d := by simpa using (List.cons.inj hv).1
  refine (impl_isVar.calls (w := W) (h := hr_)).mono ?_
  rintro e w' ⟨rfl, hb⟩
  exact ⟨by show _ = Ending.returned (Value.bool ((impl_isVar.f d).getD false)); rw [hr_]; rfl, hb.below⟩

end Go.Proofs.Ytboligpcbndkjaa.PFnExactEarsOf
