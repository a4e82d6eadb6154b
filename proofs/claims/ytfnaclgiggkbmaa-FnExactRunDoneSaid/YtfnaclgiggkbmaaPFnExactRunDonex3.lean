/-
  A text of this claim's own, printed by a program of the session (wip/tools/xprint.py): functions of the program as Lean functions, each with what its call comes to.
-/
import Derived.Test.YtfnaclgiggkbmaaPFnExactRunDonex0
import Derived.Test.YtfnaclgiggkbmaaPFnExactRunDonex1
import Derived.Test.YtfnaclgiggkbmaaPFnExactRunDonex2
namespace Go.Proofs.Ytfnaclgiggkbmaa.PFnExactRunDone
open Go.Proofs.YtfnaclgiggkbmaaW.PrintWords renaming pw_below_drewN → qD, blk_cell → qC, below_drew1 → qO, below_alloc → qA, blk_frozen → qF, below_set → qS, blk_drewN → qN, blk_alloc → qL, blk_drew → qW, below_size → qZ, below_step → qT, blk_below → qB, blk_far → qR, blk_put → qP
open Go.Proofs.YtfnaclgiggkbmaaW.PrintWords.Aside0 renaming mk → qK
open Bool renaming true → Y, false → Z
open List renaming setIfInBounds_toArray → sIb, set_cons_zero → sZ, set_cons_succ → sS, map_toArray → mT, map_cons → mC, map_nil → mN, length_drop → lD, length_take → lT
open Go.Proofs.YtfnaclgiggkbmaaW.PrintWords.Kd renaming C_alloc → cL, C_drewN → cN, C_drew → cW, C_below → cB, R_alloc → rL, R_drewN → rN, R_drew → rW, R_below → rB
open Go.RowKit Go.Proofs.YtfnaclgiggkbmaaW.PrintWords Go.Proofs.YtfnaclgiggkbmaaW.PrintLast Go.Proofs.YtfnaclgiggkbmaaW.PrintMore
attribute [local go_sem] max2_int min2_int max_two min_two max_three min_three max_four min_four   -- for this text's walks alone
set_option linter.unusedVariables false
set_option linter.unusedSimpArgs false

/-! ### spec_RunDone: function 6 -/
def spec_RunDone.l0 : Nat→List (S47)→List (S47)→Int→Int→List (S47)→List (S47)→List (S47)→List Int→List Int→Option ((List (S47)) × Bool)
 | 0,_,_,_,_,_,_,_,_,_=>none
 | k + 1,x4,x11,x12,x13,x158000,x158001,x158002,x158003,x158004=>if x13 < x12 then (if 0≤x13 then (if x13 < (x11.length:Int) then ((spec_l1Has.f k x158003 ((rd_T47 x11 x13).f0)).bind fun t161=>(if t161=true then (if x4.length < 5864062014805 then (spec_RunDone.l0 k (x4 ++ [(⟨(rd_T47 x11 x13).f0,(rd_T47 x11 x13).f1,(rd_T47 x11 x13).f2⟩:S47)]) x11 x12 (wrap64 (x13 + 1)) x158000 x158001 x158002 x158003 x158004) else (none)) else (spec_RunDone.l0 k x4 x11 x12 (wrap64 (x13 + 1)) x158000 x158001 x158002 x158003 x158004))) else (none)) else (none)) else (some (x4,true))
def spec_RunDone.f (k:Nat) (l0_0:List (S47)) (l0_1:List (S47)) (l0_2:List (S47)) (l0_3:List Int) (l0_4:List Int):Option ((List (S47)) × Bool):=(spec_GoodLocks.f k l0_0 l0_1 l0_2 l0_3 l0_4).bind fun t158=>(if t158=true then (spec_RunDone.l0 k ([]:List (S47)) l0_2 (l0_2.length:Int) 0 l0_0 l0_1 l0_2 l0_3 l0_4) else (some (([]:List (S47)),false)))
theorem spec_RunDone.mono_l : ∀ k,(∀ y0 y1 y2 y3 y4 y5 y6 y7 y8,LeO (spec_RunDone.l0 k y0 y1 y2 y3 y4 y5 y6 y7 y8) (spec_RunDone.l0 (k + 1) y0 y1 y2 y3 y4 y5 y6 y7 y8))
 | 0=>fun _ _ _ _ _ _ _ _ _ r h=>by simp [spec_RunDone.l0] at h
 | k + 1=>by
  have ih0:=spec_RunDone.mono_l k
  ·intro y0 y1 y2 y3 y4 y5 y6 y7 y8;unfold spec_RunDone.l0
   repeat' first
   | (with_reducible exact ih0 _ _ _ _ _ _ _ _ _)
   | (with_reducible exact spec_GoodLocks.mono _ _ _ _ _ _)
   | (with_reducible exact spec_l1Has.mono _ _ _)
   | (with_reducible exact LeO.refl _)
   | (with_reducible exact LeO.none _)
   | (with_reducible refine LeO.ite ?_ ?_)
   | (with_reducible refine LeO.bind ?_ (fun _=>?_))
   | exact ih0 _ _ _ _ _ _ _ _ _
   | exact spec_GoodLocks.mono _ _ _ _ _ _
   | exact spec_l1Has.mono _ _ _
   | exact LeO.none _
   | refine LeO.ite ?_ ?_
   | refine LeO.bind ?_ (fun _=>?_)
theorem spec_RunDone.mono : ∀ a0 a1 a2 a3 a4 k,LeO (spec_RunDone.f k a0 a1 a2 a3 a4) (spec_RunDone.f (k + 1) a0 a1 a2 a3 a4):=by
 intro a0 a1 a2 a3 a4 k;have ih0:=spec_RunDone.mono_l k;unfold spec_RunDone.f
 repeat' first
   | (with_reducible exact ih0 _ _ _ _ _ _ _ _ _)
   | (with_reducible exact spec_GoodLocks.mono _ _ _ _ _ _)
   | (with_reducible exact spec_l1Has.mono _ _ _)
   | (with_reducible exact LeO.refl _)
   | (with_reducible exact LeO.none _)
   | (with_reducible refine LeO.ite ?_ ?_)
   | (with_reducible refine LeO.bind ?_ (fun _=>?_))
   | exact ih0 _ _ _ _ _ _ _ _ _
   | exact spec_GoodLocks.mono _ _ _ _ _ _
   | exact spec_l1Has.mono _ _ _
   | exact LeO.none _
   | refine LeO.ite ?_ ?_
   | refine LeO.bind ?_ (fun _=>?_)
set_option maxHeartbeats 8000000 in
set_option maxRecDepth 100000 in
theorem spec_RunDone.calls (k:Nat) (A0_0:Option Addr) (c0_0:Nat) (l0_0:List (S47)) (A0_1:Option Addr) (c0_1:Nat) (l0_1:List (S47)) (A0_2:Option Addr) (c0_2:Nat) (l0_2:List (S47)) (A0_3:Option Addr) (c0_3:Nat) (l0_3:List Int) (A0_4:Option Addr) (c0_4:Nat) (l0_4:List Int) (r1:List (S47)) (r2:Bool) (w:World) (hr0_0:Kd.C k47 w A0_0 l0_0.length l0_0) (hc0_0:l0_0.length≤c0_0) (hr0_1:Kd.C k47 w A0_1 l0_1.length l0_1) (hc0_1:l0_1.length≤c0_1) (hr0_2:Kd.C k47 w A0_2 l0_2.length l0_2) (hc0_2:l0_2.length≤c0_2) (hr0_3:Kd.C (Kd.int .i64) w A0_3 l0_3.length l0_3) (hc0_3:l0_3.length≤c0_3) (hr0_4:Kd.C (Kd.int .i64) w A0_4 l0_4.length l0_4) (hc0_4:l0_4.length≤c0_4) (h:spec_RunDone.f k l0_0 l0_1 l0_2 l0_3 l0_4=some (r1,r2)) :
  Calls Try.prog 6 #[.agg #[.slice A0_0 l0_0.length c0_0,.slice A0_1 l0_1.length c0_1,.slice A0_2 l0_2.length c0_2,.slice A0_3 l0_3.length c0_3,.slice A0_4 l0_4.length c0_4]] w fun e w'=>∃ v0_:Value,e=.returned (.tuple #[v0_,.bool r2])∧Kd.R k47 47 w' w.heap.size (fun _=>True) v0_ r1∧Below w.heap.size w w':=by
 have hu31:=Try.underlying31;have hu47:=Try.underlying47;have HR0_0:=qK hr0_0;have HC0_0:=qK hc0_0;clear hr0_0 hc0_0;have HR0_1:=qK hr0_1;have HC0_1:=qK hc0_1;clear hr0_1 hc0_1;have HR0_2:=qK hr0_2;have HC0_2:=qK hc0_2;clear hr0_2 hc0_2;have HR0_3:=qK hr0_3;have HC0_3:=qK hc0_3;clear hr0_3 hc0_3;have HR0_4:=qK hr0_4;have HC0_4:=qK hc0_4;clear hr0_4 hc0_4;have HB:=qK (Below.refl w.heap.size w);have H:((spec_GoodLocks.f k l0_0 l0_1 l0_2 l0_3 l0_4).bind fun t158=>(if t158=true then (spec_RunDone.l0 k ([]:List (S47)) l0_2 (l0_2.length:Int) 0 l0_0 l0_1 l0_2 l0_3 l0_4) else (some (([]:List (S47)),false))))=some (r1,r2):=h;clear h;replace H:=Option.bind_eq_some_iff.mp H;obtain ⟨t158,A20,H⟩:=H;replace H:(if t158=true then (spec_RunDone.l0 k ([]:List (S47)) l0_2 (l0_2.length:Int) 0 l0_0 l0_1 l0_2 l0_3 l0_4) else (some (([]:List (S47)),false)))=some (r1,r2):=H;have A2:=qK A20;clear A20;by_cases c3:t158=true
 ·subst c3;have H1:(spec_RunDone.l0 k ([]:List (S47)) l0_2 (l0_2.length:Int) 0 l0_0 l0_1 l0_2 l0_3 l0_4)=some (r1,r2):=by rw [if_pos rfl] at H;exact H
  clear H;have H:=H1;clear H1;have H':=qK H;clear H;go_enter Try.func6,Try.ntmps6
  go_wp2_with (first|((with_reducible refine gate_dst (N:=1) rfl ?_);refine box_event ?hg (N:=1) ?hd (cs:=#[.slice A0_0 l0_0.length c0_0,.slice A0_1 l0_1.length c0_1,.slice A0_2 l0_2.length c0_2,.slice A0_3 l0_3.length c0_3,.slice A0_4 l0_4.length c0_4]) (t:=31) ?hr ?_;(case hd=>rfl);(case hg=>rfl);(case hr=>(go_simp;try rfl));intro gb157 hg w4 hbox hb;have n0_:=qK (qT (by repeat (with_reducible first|exact HB.out|apply qA|apply qD|apply qO)) hb);have n1_:=qK (hbox);have n2_:=qK ((by rw [hg];exact (qZ (by repeat (with_reducible first|exact HB.out|apply qA|apply qD|apply qO))):w.heap.size≤gb157));have n3_:=qK ((by rw [hg];exact (qZ (by repeat (with_reducible first|exact HB.out|apply qA|apply qD|apply qO))):w.heap.size≤gb157));clear HB;have HB:=n0_;have BK157:=n1_;have GW157:=n2_;have GE157:=n3_;clear n0_ n1_ n2_ n3_;clear hb hbox hg;have hcz5_0:w4.cell? ⟨gb157,0,none⟩=some (.slice A0_0 l0_0.length c0_0):=(qC BK157.out 0).trans rfl;have hcz5_1:w4.cell? ⟨gb157,1,none⟩=some (.slice A0_1 l0_1.length c0_1):=(qC BK157.out 1).trans rfl;have hcz5_2:w4.cell? ⟨gb157,2,none⟩=some (.slice A0_2 l0_2.length c0_2):=(qC BK157.out 2).trans rfl;have hcz5_3:w4.cell? ⟨gb157,3,none⟩=some (.slice A0_3 l0_3.length c0_3):=(qC BK157.out 3).trans rfl;have hcz5_4:w4.cell? ⟨gb157,4,none⟩=some (.slice A0_4 l0_4.length c0_4):=(qC BK157.out 4).trans rfl;have hfz5_0:=qF BK157.out 0;have hfz5_1:=qF BK157.out 1;have hfz5_2:=qF BK157.out 2;have hfz5_3:=qF BK157.out 3;have hfz5_4:=qF BK157.out 4)|((with_reducible refine gate_callee (f:=21) rfl ?_);refine goesL_ (some 8) rfl rfl Try.func21 (by kernel_rfl) rfl #[.agg #[.slice A0_0 l0_0.length c0_0,.slice A0_1 l0_1.length c0_1,.slice A0_2 l0_2.length c0_2,.slice A0_3 l0_3.length c0_3,.slice A0_4 l0_4.length c0_4]] rfl (by (try simp only [mT,mC,mN]);first|done|rfl|(simp only [lD,lT];rfl)) ?_;(with_reducible refine (spec_GoodLocks.calls k _ _ l0_0 _ _ l0_1 _ _ l0_2 _ _ l0_3 _ _ l0_4 true _ ?side1 ?side2 ?side3 ?side4 ?side5 ?side6 ?side7 ?side8 ?side9 ?side10 A2.out).mono ?_);(case side1=>repeat (first|exact (cB HR0_0.out HB.out)|(with_reducible first|refine cL ?_ _|refine cN ?_ _|refine cW ?_)));(case side2=>exact HC0_0.out);(case side3=>repeat (first|exact (cB HR0_1.out HB.out)|(with_reducible first|refine cL ?_ _|refine cN ?_ _|refine cW ?_)));(case side4=>exact HC0_1.out);(case side5=>repeat (first|exact (cB HR0_2.out HB.out)|(with_reducible first|refine cL ?_ _|refine cN ?_ _|refine cW ?_)));(case side6=>exact HC0_2.out);(case side7=>repeat (first|exact (cB HR0_3.out HB.out)|(with_reducible first|refine cL ?_ _|refine cN ?_ _|refine cW ?_)));(case side8=>exact HC0_3.out);(case side9=>repeat (first|exact (cB HR0_4.out HB.out)|(with_reducible first|refine cL ?_ _|refine cN ?_ _|refine cW ?_)));(case side10=>exact HC0_4.out);rintro e w6 ⟨rfl,hb⟩;refine ⟨_,rfl,?_⟩;have n0_:=qK (qB (g:=gb157) (o:=_) (by (with_reducible repeat (first|refine qN ?_ _|refine qW ?_|refine qL ?_ _));exact BK157.out) hb);have n1_:=qK (qT (by repeat (with_reducible first|exact HB.out|apply qA|apply qD|apply qO|refine qS ?_ GE157.out)) hb);clear BK157;clear HB;have BK157:=n0_;have HB:=n1_;clear n0_ n1_;(try clear hb);have hcz7_0:w6.cell? ⟨gb157,0,none⟩=some (.slice A0_0 l0_0.length c0_0):=(qC BK157.out 0).trans rfl;have hcz7_1:w6.cell? ⟨gb157,1,none⟩=some (.slice A0_1 l0_1.length c0_1):=(qC BK157.out 1).trans rfl;have hcz7_2:w6.cell? ⟨gb157,2,none⟩=some (.slice A0_2 l0_2.length c0_2):=(qC BK157.out 2).trans rfl;have hcz7_3:w6.cell? ⟨gb157,3,none⟩=some (.slice A0_3 l0_3.length c0_3):=(qC BK157.out 3).trans rfl;have hcz7_4:w6.cell? ⟨gb157,4,none⟩=some (.slice A0_4 l0_4.length c0_4):=(qC BK157.out 4).trans rfl;have hfz7_0:=qF BK157.out 0;have hfz7_1:=qF BK157.out 1;have hfz7_2:=qF BK157.out 2;have hfz7_3:=qF BK157.out 3;have hfz7_4:=qF BK157.out 4))
  go_loopg [4,13] k (fun kq v4 v13 w'=>∃ (x4_1:List (S47)) (x13_1:Int),v13=.int .i64 x13_1∧Aside0 (spec_RunDone.l0 kq x4_1 l0_2 (l0_2.length:Int) x13_1 l0_0 l0_1 l0_2 l0_3 l0_4=some (r1,r2))∧Aside0 (kq≤k)∧Aside0 (Kd.R k47 47 w' w.heap.size (fun _=>True) v4 x4_1)∧Aside0 (w'.heap[gb157]?=some (.cells #[(.slice A0_0 l0_0.length c0_0),(.slice A0_1 l0_1.length c0_1),(.slice A0_2 l0_2.length c0_2),(.slice A0_3 l0_3.length c0_3),(.slice A0_4 l0_4.length c0_4)] 31 (0,0)))∧Aside0 (Below w.heap.size w w'))
  case atStart=>exact ⟨(([]:List (S47))),(0),(by first|rfl|(simp;done)|(simp [*];done)),H',⟨Nat.le_refl _⟩,⟨by first|exact Kd.R_nil _ _ _ _ _|exact Kd.N_nil _ _ _ _ _|exact Kd.V_nil _ _ _ _ _|exact Kd.Q_nil _ _ _ _ _|exact Kd.S_nil _ _ _ _ _⟩,⟨by (with_reducible repeat (first|refine qN ?_ _|refine qW ?_|refine qL ?_ _));exact BK157.out⟩,⟨by repeat (first|(with_reducible first|exact HB.out|apply qA|apply qD|apply qO|refine qS ?_ GE157.out)|exact HB.out)⟩⟩
  case round =>
   clear H';try clear c2
   try clear p2
   try clear c3
   try clear c6
   try clear hcz5_0
   try clear hcz5_1
   try clear hcz5_2
   try clear hcz5_3
   try clear hcz5_4
   try clear hcz7_0
   try clear hcz7_1
   try clear hcz7_2
   try clear hcz7_3
   try clear hcz7_4
   try clear hfz5_0
   try clear hfz5_1
   try clear hfz5_2
   try clear hfz5_3
   try clear hfz5_4
   try clear hfz7_0
   try clear hfz7_1
   try clear hfz7_2
   try clear hfz7_3
   try clear hfz7_4
   obtain ⟨x4_1,x13_1,rfl,HA,HK1,HO_4,BK157,HB⟩:=hrel;cases gk with
   | zero=>exact absurd HA.out (by simp [spec_RunDone.l0])
   | succ k1 =>
    have H:=HA.out;clear HA;simp only [spec_RunDone.l0] at H;by_cases c8:x13_1 < (l0_2.length:Int)
    ·rw [if_pos c8] at H;have c8b0:decide (x13_1 < (l0_2.length:Int))=true:=decide_eq_true c8;clear c8;by_cases c9:0≤x13_1
     ·rw [if_pos c9] at H;have c9b0:decide (0≤x13_1)=true:=decide_eq_true c9;clear c9;by_cases c10:x13_1 < (l0_2.length:Int)
      ·rw [if_pos c10] at H;have c10b0:decide (x13_1 < (l0_2.length:Int))=true:=decide_eq_true c10;clear c10;replace H:=Option.bind_eq_some_iff.mp H;obtain ⟨t161,A110,H⟩:=H;replace H:(if t161=true then (if x4_1.length < 5864062014805 then (spec_RunDone.l0 k1 (x4_1 ++ [(⟨(rd_T47 l0_2 x13_1).f0,(rd_T47 l0_2 x13_1).f1,(rd_T47 l0_2 x13_1).f2⟩:S47)]) l0_2 (l0_2.length:Int) (wrap64 (x13_1 + 1)) l0_0 l0_1 l0_2 l0_3 l0_4) else (none)) else (spec_RunDone.l0 k1 x4_1 l0_2 (l0_2.length:Int) (wrap64 (x13_1 + 1)) l0_0 l0_1 l0_2 l0_3 l0_4))=some (r1,r2):=H;have A11:=qK A110;clear A110;by_cases c12:t161=true
       ·subst c12;have H1:(if x4_1.length < 5864062014805 then (spec_RunDone.l0 k1 (x4_1 ++ [(⟨(rd_T47 l0_2 x13_1).f0,(rd_T47 l0_2 x13_1).f1,(rd_T47 l0_2 x13_1).f2⟩:S47)]) l0_2 (l0_2.length:Int) (wrap64 (x13_1 + 1)) l0_0 l0_1 l0_2 l0_3 l0_4) else (none))=some (r1,r2):=by rw [if_pos rfl] at H;exact H
        clear H;have H:=H1;clear H1;by_cases c13:x4_1.length < 5864062014805
        ·rw [if_pos c13] at H;have LMc13:=qK c13;clear c13;obtain ⟨y162,hy162⟩:∃ y_:List (S47),y_=(x4_1 ++ [(⟨(rd_T47 l0_2 x13_1).f0,(rd_T47 l0_2 x13_1).f1,(rd_T47 l0_2 x13_1).f2⟩:S47)]):=⟨_,rfl⟩;replace H:(spec_RunDone.l0 k1 y162 l0_2 (l0_2.length:Int) (wrap64 (x13_1 + 1)) l0_0 l0_1 l0_2 l0_3 l0_4)=some (r1,r2):=by first|(rw [hy162];with_reducible exact H)|(have H2_:=(Option.bind_some _ _).symm.trans H;rw [hy162];with_reducible exact H2_)|(have H2_:=(Option.bind_some _ _).symm.trans H;with_reducible exact H2_)|with_reducible exact H|(rw [hy162];exact H)|exact H
         have Ny162:=qK hy162;clear hy162;have H':=qK H;clear H;have p159:0≤(x13_1:Int):=of_decide_eq_true (by first|(with_reducible assumption)|assumption);have q159:x13_1 < (l0_2.length:Int):=of_decide_eq_true (by first|(with_reducible assumption)|assumption);obtain ⟨ad159,e159,hx159_0,hx159_1,hx159_2⟩:=at_T47 HR0_2.out x13_1 p159 q159;cases e159
         replace hx159_0:=(HB.out.cell (World.block_lt_of_cell? w _ hx159_0)).trans hx159_0;replace hx159_1:=(HB.out.cell (World.block_lt_of_cell? w _ hx159_1)).trans hx159_1;replace hx159_2:=(HB.out.cell (World.block_lt_of_cell? w _ hx159_2)).trans hx159_2;replace p159:=eq_true p159;replace q159:=eq_true q159;go_wp2_with (first|((with_reducible refine gate_dst (N:=6) rfl ?_);refine box_event ?hg (N:=6) ?hd (cs:=#[.int .i64 0,.int .i64 0,.int .i64 0]) (t:=47) ?hr ?_;(case hd=>rfl);(case hg=>rfl);(case hr=>(go_simp;try rfl));intro gb160 hg w14 hbox hb;have n0_:=qK (rB (Kd.R_elderB (by (with_reducible repeat (first|apply rL|apply rN|apply rW));exact HO_4.out) gb160 (Nat.le_of_eq hg.symm)) hb);have n1_:=qK (qB (g:=gb157) (o:=_) (by (with_reducible repeat (first|refine qN ?_ _|refine qW ?_|refine qL ?_ _));exact BK157.out) hb);have n2_:=qK (qT (by repeat (with_reducible first|exact HB.out|apply qA|apply qD|apply qO|refine qS ?_ GE157.out)) hb);have n3_:=qK (hbox);have n4_:=qK ((by rw [hg];exact (qZ (by repeat (with_reducible first|exact HB.out|apply qA|apply qD|apply qO|refine qS ?_ GE157.out))):w.heap.size≤gb160));have n5_:=qK ((by rw [hg];exact (qZ (by repeat (with_reducible first|exact HB.out|apply qA|apply qD|apply qO|refine qS ?_ GE157.out))):w.heap.size≤gb160));have n6_:=qK ((by rw [hg];exact Nat.ne_of_lt (blk_lt (g:=gb157) (o:=_) (by (with_reducible repeat (first|refine qN ?_ _|refine qW ?_|refine qL ?_ _));exact BK157.out)):gb157 ≠ gb160));have n7_:=qK ((by rw [hg];exact Nat.ne_of_gt (blk_lt (g:=gb157) (o:=_) (by (with_reducible repeat (first|refine qN ?_ _|refine qW ?_|refine qL ?_ _));exact BK157.out)):gb160 ≠ gb157));clear HO_4;clear BK157;clear HB;have HO_4:=n0_;have BK157:=n1_;have HB:=n2_;have BK160:=n3_;have GW160:=n4_;have GE160:=n5_;have NB157_160:=n6_;have NB160_157:=n7_;clear n0_ n1_ n2_ n3_ n4_ n5_ n6_ n7_;clear hb hbox hg;have hnb15:=NB160_157.out;have hnc15:=NB157_160.out;have hcz16_0:w14.cell? ⟨gb160,0,none⟩=some (.int .i64 0):=(qC BK160.out 0).trans rfl;have hcz16_1:w14.cell? ⟨gb160,1,none⟩=some (.int .i64 0):=(qC BK160.out 1).trans rfl;have hcz16_2:w14.cell? ⟨gb160,2,none⟩=some (.int .i64 0):=(qC BK160.out 2).trans rfl;have hfz16_0:=qF BK160.out 0;have hfz16_1:=qF BK160.out 1;have hfz16_2:=qF BK160.out 2;have hcz17_0:w14.cell? ⟨gb157,0,none⟩=some (.slice A0_0 l0_0.length c0_0):=(qC BK157.out 0).trans rfl;have hcz17_1:w14.cell? ⟨gb157,1,none⟩=some (.slice A0_1 l0_1.length c0_1):=(qC BK157.out 1).trans rfl;have hcz17_2:w14.cell? ⟨gb157,2,none⟩=some (.slice (some ad159) l0_2.length c0_2):=(qC BK157.out 2).trans rfl;have hcz17_3:w14.cell? ⟨gb157,3,none⟩=some (.slice A0_3 l0_3.length c0_3):=(qC BK157.out 3).trans rfl;have hcz17_4:w14.cell? ⟨gb157,4,none⟩=some (.slice A0_4 l0_4.length c0_4):=(qC BK157.out 4).trans rfl;have hfz17_0:=qF BK157.out 0;have hfz17_1:=qF BK157.out 1;have hfz17_2:=qF BK157.out 2;have hfz17_3:=qF BK157.out 3;have hfz17_4:=qF BK157.out 4)|((with_reducible refine gate_callee (f:=22) rfl ?_);refine goesL_ (some 21) rfl rfl Try.func22 (by kernel_rfl) rfl #[.slice A0_3 l0_3.length c0_3,.int .i64 ((rd_T47 l0_2 x13_1).f0)] rfl (by (try simp only [mT,mC,mN]);first|done|rfl|(simp only [lD,lT];rfl)) ?_;(with_reducible refine (spec_l1Has.calls k1 _ _ l0_3 ((rd_T47 l0_2 x13_1).f0) true _ ?side1 ?side2 A11.out).mono ?_);(case side1=>exact cB HR0_3.out (by repeat (with_reducible first|exact HB.out|apply qA|apply qD|apply qO|refine qS ?_ GE157.out|refine qS ?_ GE160.out)));(case side2=>exact HC0_3.out);rintro e w' ⟨rfl,⟨nd,rfl⟩⟩;refine ⟨_,rfl,?_⟩)|((with_reducible refine gate_builtin (b:=.append) (xs:=#[.tmp 22,.tmp 24]) rfl ?_);at_builtin;refine Kd.R_append k47 (w0:=w) w.heap.size rfl (.tmp 22) (.tmp 24) 27 47 (.agg #[(.int .i64 0),(.int .i64 0),(.int .i64 0)]) 24 rfl Try.underlying27 info47 rfl (by decide) (by omega) u4 x4_1 (⟨(rd_T47 l0_2 x13_1).f0,(rd_T47 l0_2 x13_1).f1,(rd_T47 l0_2 x13_1).f2⟩:S47) [.int .i64 ((rd_T47 l0_2 x13_1).f0),.int .i64 ((rd_T47 l0_2 x13_1).f1),.int .i64 ((rd_T47 l0_2 x13_1).f2)] (fun k_=>k_ ≠ gb160) (fun _=>False) rfl (by first|(go_simp;done)|(go_simp;rfl)) ?aP (fun _ hk=>hk.elim) ?aF ?aO ?aB ?aS ?aL ?_;(case aP=>exact k47_mkM _ _ _ (⟨(rd_T47 l0_2 x13_1).f0,(rd_T47 l0_2 x13_1).f1,(rd_T47 l0_2 x13_1).f2⟩:S47));(case aB=>exact (by repeat (with_reducible first|exact HB.out|apply qA|apply qD|apply qO|refine qS ?_ GE157.out|refine qS ?_ GE160.out)));(case aF=>exact (fun k_ hk=>Kd.freshB (g:=gb160) (o:=.cells #[.int .i64 ((rd_T47 l0_2 x13_1).f0),.int .i64 ((rd_T47 l0_2 x13_1).f1),.int .i64 ((rd_T47 l0_2 x13_1).f2)] 47 (0,0)) (by (with_reducible repeat (first|refine qN ?_ _|refine qW ?_|refine qL ?_ _));refine qP (cs:=#[.int .i64 ((rd_T47 l0_2 x13_1).f0),.int .i64 ((rd_T47 l0_2 x13_1).f1),.int .i64 0]) ?_ 2 _ rfl;(with_reducible repeat (first|refine qN ?_ _|refine qW ?_|refine qL ?_ _));refine qP (cs:=#[.int .i64 ((rd_T47 l0_2 x13_1).f0),.int .i64 0,.int .i64 0]) ?_ 1 _ rfl;(with_reducible repeat (first|refine qN ?_ _|refine qW ?_|refine qL ?_ _));refine qP (cs:=#[.int .i64 0,.int .i64 0,.int .i64 0]) ?_ 0 _ rfl;(with_reducible repeat (first|refine qN ?_ _|refine qW ?_|refine qL ?_ _));exact BK160.out) k_ hk));(case aO=>exact (by (with_reducible repeat (first|apply rL|apply rN|apply rW));exact Kd.R_mono (Kd.R_far (p:=⟨gb160,2,none⟩) (Kd.R_far (p:=⟨gb160,1,none⟩) (Kd.R_far (p:=⟨gb160,0,none⟩) (Kd.R_mono HO_4.out (fun k_ hk=>(⟨hk,hk.2⟩:_∧k_ ≠ gb160))) (fun _ hk=>hk.2) (.int .i64 ((rd_T47 l0_2 x13_1).f0))) (fun _ hk=>hk.2) (.int .i64 ((rd_T47 l0_2 x13_1).f1))) (fun _ hk=>hk.2) (.int .i64 ((rd_T47 l0_2 x13_1).f2))) (fun _ hk=>hk.1.2)));(case aS=>exact (qZ (by repeat (with_reducible first|exact HB.out|apply qA|apply qD|apply qO|refine qS ?_ GE157.out|refine qS ?_ GE160.out))));(case aL=>have:=LMc13.out;omega);intro v163 w18 ho hb hg hat;rw [← Ny162.out] at ho;have n0_:=qK (blk_grown (g:=gb157) (o:=.cells #[.slice A0_0 l0_0.length c0_0,.slice A0_1 l0_1.length c0_1,.slice (some ad159) l0_2.length c0_2,.slice A0_3 l0_3.length c0_3,.slice A0_4 l0_4.length c0_4] 31 (0,0)) (by (with_reducible repeat (first|refine qN ?_ _|refine qW ?_|refine qL ?_ _));refine qR ?_ NB157_160.out _;(with_reducible repeat (first|refine qN ?_ _|refine qW ?_|refine qL ?_ _));refine qR ?_ NB157_160.out _;(with_reducible repeat (first|refine qN ?_ _|refine qW ?_|refine qL ?_ _));refine qR ?_ NB157_160.out _;(with_reducible repeat (first|refine qN ?_ _|refine qW ?_|refine qL ?_ _));exact BK157.out) hg (Kd.R_ne HO_4.out BK157.out (by decide)));have n1_:=qK (blk_grown (g:=gb160) (o:=.cells #[.int .i64 ((rd_T47 l0_2 x13_1).f0),.int .i64 ((rd_T47 l0_2 x13_1).f1),.int .i64 ((rd_T47 l0_2 x13_1).f2)] 47 (0,0)) (by (with_reducible repeat (first|refine qN ?_ _|refine qW ?_|refine qL ?_ _));refine qP (cs:=#[.int .i64 ((rd_T47 l0_2 x13_1).f0),.int .i64 ((rd_T47 l0_2 x13_1).f1),.int .i64 0]) ?_ 2 _ rfl;(with_reducible repeat (first|refine qN ?_ _|refine qW ?_|refine qL ?_ _));refine qP (cs:=#[.int .i64 ((rd_T47 l0_2 x13_1).f0),.int .i64 0,.int .i64 0]) ?_ 1 _ rfl;(with_reducible repeat (first|refine qN ?_ _|refine qW ?_|refine qL ?_ _));refine qP (cs:=#[.int .i64 0,.int .i64 0,.int .i64 0]) ?_ 0 _ rfl;(with_reducible repeat (first|refine qN ?_ _|refine qW ?_|refine qL ?_ _));exact BK160.out) hg (Kd.R_away HO_4.out (fun _ hk=>hk.2)));have n2_:=qK (hb);have n3_:=qK (ho);clear BK157;clear BK160;clear HB;clear HO_4;have BK157:=n0_;have BK160:=n1_;have HB:=n2_;have HO164:=n3_;clear n0_ n1_ n2_ n3_;clear ho hb hg hat))
         go_roundg k1
         case measure=>have:=HK1.out;omega
         case rel=>exact ⟨(y162),(wrap64 (x13_1 + 1)),(by first|rfl|(simp;done)|(simp [*];done)),H',⟨by have:=HK1.out;omega⟩,⟨by (with_reducible repeat (first|apply rL|apply rN|apply rW));exact Kd.R_mono HO164.out (fun _ hk=>trivial)⟩,⟨by (with_reducible repeat (first|refine qN ?_ _|refine qW ?_|refine qL ?_ _));exact BK157.out⟩,⟨by repeat (first|(with_reducible first|exact HB.out|apply qA|apply qD|apply qO|refine qS ?_ GE157.out|refine qS ?_ GE160.out)|exact HB.out)⟩⟩
        ·rw [if_neg c13] at H;exact absurd H (by simp)
       ·replace c12:=Bool.eq_false_iff.mpr c12;subst c12;have H1:(spec_RunDone.l0 k1 x4_1 l0_2 (l0_2.length:Int) (wrap64 (x13_1 + 1)) l0_0 l0_1 l0_2 l0_3 l0_4)=some (r1,r2):=by rw [if_neg (show ¬ (false=true) by decide)] at H;exact H
        clear H;have H:=H1;clear H1;have H':=qK H;clear H;have p159:0≤(x13_1:Int):=of_decide_eq_true (by first|(with_reducible assumption)|assumption);have q159:x13_1 < (l0_2.length:Int):=of_decide_eq_true (by first|(with_reducible assumption)|assumption);obtain ⟨ad159,e159,hx159_0,hx159_1,hx159_2⟩:=at_T47 HR0_2.out x13_1 p159 q159;cases e159
        replace hx159_0:=(HB.out.cell (World.block_lt_of_cell? w _ hx159_0)).trans hx159_0;replace hx159_1:=(HB.out.cell (World.block_lt_of_cell? w _ hx159_1)).trans hx159_1;replace hx159_2:=(HB.out.cell (World.block_lt_of_cell? w _ hx159_2)).trans hx159_2;replace p159:=eq_true p159;replace q159:=eq_true q159;go_wp2_with (first|((with_reducible refine gate_dst (N:=6) rfl ?_);refine box_event ?hg (N:=6) ?hd (cs:=#[.int .i64 0,.int .i64 0,.int .i64 0]) (t:=47) ?hr ?_;(case hd=>rfl);(case hg=>rfl);(case hr=>(go_simp;try rfl));intro gb160 hg w19 hbox hb;have n0_:=qK (rB (Kd.R_elderB (by (with_reducible repeat (first|apply rL|apply rN|apply rW));exact HO_4.out) gb160 (Nat.le_of_eq hg.symm)) hb);have n1_:=qK (qB (g:=gb157) (o:=_) (by (with_reducible repeat (first|refine qN ?_ _|refine qW ?_|refine qL ?_ _));exact BK157.out) hb);have n2_:=qK (qT (by repeat (with_reducible first|exact HB.out|apply qA|apply qD|apply qO|refine qS ?_ GE157.out)) hb);have n3_:=qK (hbox);have n4_:=qK ((by rw [hg];exact (qZ (by repeat (with_reducible first|exact HB.out|apply qA|apply qD|apply qO|refine qS ?_ GE157.out))):w.heap.size≤gb160));have n5_:=qK ((by rw [hg];exact (qZ (by repeat (with_reducible first|exact HB.out|apply qA|apply qD|apply qO|refine qS ?_ GE157.out))):w.heap.size≤gb160));have n6_:=qK ((by rw [hg];exact Nat.ne_of_lt (blk_lt (g:=gb157) (o:=_) (by (with_reducible repeat (first|refine qN ?_ _|refine qW ?_|refine qL ?_ _));exact BK157.out)):gb157 ≠ gb160));have n7_:=qK ((by rw [hg];exact Nat.ne_of_gt (blk_lt (g:=gb157) (o:=_) (by (with_reducible repeat (first|refine qN ?_ _|refine qW ?_|refine qL ?_ _));exact BK157.out)):gb160 ≠ gb157));clear HO_4;clear BK157;clear HB;have HO_4:=n0_;have BK157:=n1_;have HB:=n2_;have BK160:=n3_;have GW160:=n4_;have GE160:=n5_;have NB157_160:=n6_;have NB160_157:=n7_;clear n0_ n1_ n2_ n3_ n4_ n5_ n6_ n7_;clear hb hbox hg;have hnb20:=NB160_157.out;have hnc20:=NB157_160.out;have hcz21_0:w19.cell? ⟨gb160,0,none⟩=some (.int .i64 0):=(qC BK160.out 0).trans rfl;have hcz21_1:w19.cell? ⟨gb160,1,none⟩=some (.int .i64 0):=(qC BK160.out 1).trans rfl;have hcz21_2:w19.cell? ⟨gb160,2,none⟩=some (.int .i64 0):=(qC BK160.out 2).trans rfl;have hfz21_0:=qF BK160.out 0;have hfz21_1:=qF BK160.out 1;have hfz21_2:=qF BK160.out 2;have hcz22_0:w19.cell? ⟨gb157,0,none⟩=some (.slice A0_0 l0_0.length c0_0):=(qC BK157.out 0).trans rfl;have hcz22_1:w19.cell? ⟨gb157,1,none⟩=some (.slice A0_1 l0_1.length c0_1):=(qC BK157.out 1).trans rfl;have hcz22_2:w19.cell? ⟨gb157,2,none⟩=some (.slice (some ad159) l0_2.length c0_2):=(qC BK157.out 2).trans rfl;have hcz22_3:w19.cell? ⟨gb157,3,none⟩=some (.slice A0_3 l0_3.length c0_3):=(qC BK157.out 3).trans rfl;have hcz22_4:w19.cell? ⟨gb157,4,none⟩=some (.slice A0_4 l0_4.length c0_4):=(qC BK157.out 4).trans rfl;have hfz22_0:=qF BK157.out 0;have hfz22_1:=qF BK157.out 1;have hfz22_2:=qF BK157.out 2;have hfz22_3:=qF BK157.out 3;have hfz22_4:=qF BK157.out 4)|((with_reducible refine gate_callee (f:=22) rfl ?_);refine goesL_ (some 21) rfl rfl Try.func22 (by kernel_rfl) rfl #[.slice A0_3 l0_3.length c0_3,.int .i64 ((rd_T47 l0_2 x13_1).f0)] rfl (by (try simp only [mT,mC,mN]);first|done|rfl|(simp only [lD,lT];rfl)) ?_;(with_reducible refine (spec_l1Has.calls k1 _ _ l0_3 ((rd_T47 l0_2 x13_1).f0) false _ ?side1 ?side2 A11.out).mono ?_);(case side1=>exact cB HR0_3.out (by repeat (with_reducible first|exact HB.out|apply qA|apply qD|apply qO|refine qS ?_ GE157.out|refine qS ?_ GE160.out)));(case side2=>exact HC0_3.out);rintro e w' ⟨rfl,⟨nd,rfl⟩⟩;refine ⟨_,rfl,?_⟩))
        go_roundg k1
        case measure=>have:=HK1.out;omega
        case rel=>exact ⟨(x4_1),(wrap64 (x13_1 + 1)),(by first|rfl|(simp;done)|(simp [*];done)),H',⟨by have:=HK1.out;omega⟩,⟨by (with_reducible repeat (first|apply rL|apply rN|apply rW));exact Kd.R_mono (Kd.R_far (p:=⟨gb160,2,none⟩) (Kd.R_far (p:=⟨gb160,1,none⟩) (Kd.R_far (p:=⟨gb160,0,none⟩) (Kd.R_mono HO_4.out (fun k_ hk=>(⟨hk,hk.2⟩:_∧k_ ≠ gb160))) (fun _ hk=>hk.2) (.int .i64 ((rd_T47 l0_2 x13_1).f0))) (fun _ hk=>hk.2) (.int .i64 ((rd_T47 l0_2 x13_1).f1))) (fun _ hk=>hk.2) (.int .i64 ((rd_T47 l0_2 x13_1).f2))) (fun _ hk=>trivial)⟩,⟨by (with_reducible repeat (first|refine qN ?_ _|refine qW ?_|refine qL ?_ _));refine qR ?_ NB157_160.out _;(with_reducible repeat (first|refine qN ?_ _|refine qW ?_|refine qL ?_ _));refine qR ?_ NB157_160.out _;(with_reducible repeat (first|refine qN ?_ _|refine qW ?_|refine qL ?_ _));refine qR ?_ NB157_160.out _;(with_reducible repeat (first|refine qN ?_ _|refine qW ?_|refine qL ?_ _));exact BK157.out⟩,⟨by repeat (first|(with_reducible first|exact HB.out|apply qA|apply qD|apply qO|refine qS ?_ GE157.out|refine qS ?_ GE160.out)|exact HB.out)⟩⟩
      ·rw [if_neg c10] at H;exact absurd H (by simp)
     ·rw [if_neg c9] at H;exact absurd H (by simp)
    ·rw [if_neg c8] at H;have c8b0:decide (x13_1 < (l0_2.length:Int))=false:=decide_eq_false c8;clear c8;simp only [Option.some.injEq,Prod.mk.injEq] at H;obtain ⟨rfl,rfl⟩:=H;go_wp2
     go_ret2
     exact ⟨_,by first|rfl|(simp [errW_none,errW_some] <;> rfl)|(simp [*,errW_none,errW_some] <;> rfl),by (with_reducible repeat (first|apply rL|apply rN|apply rW));exact HO_4.out,by repeat (first|(with_reducible first|exact HB.out|apply qA|apply qD|apply qO|refine qS ?_ GE157.out)|exact HB.out)⟩
 ·replace c3:=Bool.eq_false_iff.mpr c3;subst c3;have H1:(some (([]:List (S47)),false))=some (r1,r2):=by rw [if_neg (show ¬ (false=true) by decide)] at H;exact H
  clear H;have H:=H1;clear H1;simp only [Option.some.injEq,Prod.mk.injEq] at H;obtain ⟨rfl,rfl⟩:=H;go_enter Try.func6,Try.ntmps6
  go_wp2_with (first|((with_reducible refine gate_dst (N:=1) rfl ?_);refine box_event ?hg (N:=1) ?hd (cs:=#[.slice A0_0 l0_0.length c0_0,.slice A0_1 l0_1.length c0_1,.slice A0_2 l0_2.length c0_2,.slice A0_3 l0_3.length c0_3,.slice A0_4 l0_4.length c0_4]) (t:=31) ?hr ?_;(case hd=>rfl);(case hg=>rfl);(case hr=>(go_simp;try rfl));intro gb157 hg w23 hbox hb;have n0_:=qK (qT (by repeat (with_reducible first|exact HB.out|apply qA|apply qD|apply qO)) hb);have n1_:=qK (hbox);have n2_:=qK ((by rw [hg];exact (qZ (by repeat (with_reducible first|exact HB.out|apply qA|apply qD|apply qO))):w.heap.size≤gb157));have n3_:=qK ((by rw [hg];exact (qZ (by repeat (with_reducible first|exact HB.out|apply qA|apply qD|apply qO))):w.heap.size≤gb157));clear HB;have HB:=n0_;have BK157:=n1_;have GW157:=n2_;have GE157:=n3_;clear n0_ n1_ n2_ n3_;clear hb hbox hg;have hcz24_0:w23.cell? ⟨gb157,0,none⟩=some (.slice A0_0 l0_0.length c0_0):=(qC BK157.out 0).trans rfl;have hcz24_1:w23.cell? ⟨gb157,1,none⟩=some (.slice A0_1 l0_1.length c0_1):=(qC BK157.out 1).trans rfl;have hcz24_2:w23.cell? ⟨gb157,2,none⟩=some (.slice A0_2 l0_2.length c0_2):=(qC BK157.out 2).trans rfl;have hcz24_3:w23.cell? ⟨gb157,3,none⟩=some (.slice A0_3 l0_3.length c0_3):=(qC BK157.out 3).trans rfl;have hcz24_4:w23.cell? ⟨gb157,4,none⟩=some (.slice A0_4 l0_4.length c0_4):=(qC BK157.out 4).trans rfl;have hfz24_0:=qF BK157.out 0;have hfz24_1:=qF BK157.out 1;have hfz24_2:=qF BK157.out 2;have hfz24_3:=qF BK157.out 3;have hfz24_4:=qF BK157.out 4)|((with_reducible refine gate_callee (f:=21) rfl ?_);refine goesL_ (some 8) rfl rfl Try.func21 (by kernel_rfl) rfl #[.agg #[.slice A0_0 l0_0.length c0_0,.slice A0_1 l0_1.length c0_1,.slice A0_2 l0_2.length c0_2,.slice A0_3 l0_3.length c0_3,.slice A0_4 l0_4.length c0_4]] rfl (by (try simp only [mT,mC,mN]);first|done|rfl|(simp only [lD,lT];rfl)) ?_;(with_reducible refine (spec_GoodLocks.calls k _ _ l0_0 _ _ l0_1 _ _ l0_2 _ _ l0_3 _ _ l0_4 false _ ?side1 ?side2 ?side3 ?side4 ?side5 ?side6 ?side7 ?side8 ?side9 ?side10 A2.out).mono ?_);(case side1=>repeat (first|exact (cB HR0_0.out HB.out)|(with_reducible first|refine cL ?_ _|refine cN ?_ _|refine cW ?_)));(case side2=>exact HC0_0.out);(case side3=>repeat (first|exact (cB HR0_1.out HB.out)|(with_reducible first|refine cL ?_ _|refine cN ?_ _|refine cW ?_)));(case side4=>exact HC0_1.out);(case side5=>repeat (first|exact (cB HR0_2.out HB.out)|(with_reducible first|refine cL ?_ _|refine cN ?_ _|refine cW ?_)));(case side6=>exact HC0_2.out);(case side7=>repeat (first|exact (cB HR0_3.out HB.out)|(with_reducible first|refine cL ?_ _|refine cN ?_ _|refine cW ?_)));(case side8=>exact HC0_3.out);(case side9=>repeat (first|exact (cB HR0_4.out HB.out)|(with_reducible first|refine cL ?_ _|refine cN ?_ _|refine cW ?_)));(case side10=>exact HC0_4.out);rintro e w25 ⟨rfl,hb⟩;refine ⟨_,rfl,?_⟩;have n0_:=qK (qB (g:=gb157) (o:=_) (by (with_reducible repeat (first|refine qN ?_ _|refine qW ?_|refine qL ?_ _));exact BK157.out) hb);have n1_:=qK (qT (by repeat (with_reducible first|exact HB.out|apply qA|apply qD|apply qO|refine qS ?_ GE157.out)) hb);clear BK157;clear HB;have BK157:=n0_;have HB:=n1_;clear n0_ n1_;(try clear hb)))
  go_ret2
  exact ⟨_,by first|rfl|(simp [errW_none,errW_some] <;> rfl)|(simp [*,errW_none,errW_some] <;> rfl),by first|exact Kd.R_nil _ _ _ _ _|exact Kd.N_nil _ _ _ _ _|exact Kd.V_nil _ _ _ _ _|exact Kd.Q_nil _ _ _ _ _|exact Kd.S_nil _ _ _ _ _,by repeat (first|(with_reducible first|exact HB.out|apply qA|apply qD|apply qO|refine qS ?_ GE157.out)|exact HB.out)⟩

/-! ### laws_toStep: function 40 -/
def laws_toStep.f (a0_0:Int) (a0_1:Int) (a0_2:Int):Option (Int × Int × Int):=some (a0_0,a0_1,a0_2)
set_option maxHeartbeats 8000000 in
set_option maxRecDepth 100000 in
theorem laws_toStep.calls (a0_0:Int) (a0_1:Int) (a0_2:Int) (r1:Int) (r2:Int) (r3:Int) (w:World) (h:laws_toStep.f a0_0 a0_1 a0_2=some (r1,r2,r3)) :
  Calls Try.prog 40 #[.agg #[.int .i64 a0_0,.int .i64 a0_1,.int .i64 a0_2]] w fun e w'=>e=.returned (.agg #[.int .i64 r1,.int .i64 r2,.int .i64 r3])∧Below w.heap.size w w':=by
 have hu64:=Try.underlying64;have hu47:=Try.underlying47;have HB:=qK (Below.refl w.heap.size w);have H:(some (a0_0,a0_1,a0_2))=some (r1,r2,r3):=h;clear h;simp only [Option.some.injEq,Prod.mk.injEq] at H;obtain ⟨rfl,rfl,rfl⟩:=H;go_enter Try.func40,Try.ntmps40
 go_wp2_with (first|((with_reducible refine gate_dst (N:=1) rfl ?_);refine box_event ?hg (N:=1) ?hd (cs:=#[.int .i64 a0_0,.int .i64 a0_1,.int .i64 a0_2]) (t:=64) ?hr ?_;(case hd=>rfl);(case hg=>rfl);(case hr=>(go_simp;try rfl));intro gb165 hg w2 hbox hb;have n0_:=qK (qT (by repeat (with_reducible first|exact HB.out|apply qA|apply qD|apply qO)) hb);have n1_:=qK (hbox);have n2_:=qK ((by rw [hg];exact (qZ (by repeat (with_reducible first|exact HB.out|apply qA|apply qD|apply qO))):w.heap.size≤gb165));have n3_:=qK ((by rw [hg];exact (qZ (by repeat (with_reducible first|exact HB.out|apply qA|apply qD|apply qO))):w.heap.size≤gb165));clear HB;have HB:=n0_;have BK165:=n1_;have GW165:=n2_;have GE165:=n3_;clear n0_ n1_ n2_ n3_;clear hb hbox hg)|((with_reducible refine gate_dst (N:=2) rfl ?_);refine box_event ?hg (N:=2) ?hd (cs:=#[.int .i64 0,.int .i64 0,.int .i64 0]) (t:=47) ?hr ?_;(case hd=>rfl);(case hg=>rfl);(case hr=>(go_simp;try rfl));intro gb166 hg w3 hbox hb;have n0_:=qK (qB (g:=gb165) (o:=_) (by (with_reducible repeat (first|refine qN ?_ _|refine qW ?_|refine qL ?_ _));exact BK165.out) hb);have n1_:=qK (qT (by repeat (with_reducible first|exact HB.out|apply qA|apply qD|apply qO|refine qS ?_ GE165.out)) hb);have n2_:=qK (hbox);have n3_:=qK ((by rw [hg];exact (qZ (by repeat (with_reducible first|exact HB.out|apply qA|apply qD|apply qO|refine qS ?_ GE165.out))):w.heap.size≤gb166));have n4_:=qK ((by rw [hg];exact (qZ (by repeat (with_reducible first|exact HB.out|apply qA|apply qD|apply qO|refine qS ?_ GE165.out))):w.heap.size≤gb166));have n5_:=qK ((by rw [hg];exact Nat.ne_of_lt (blk_lt (g:=gb165) (o:=_) (by (with_reducible repeat (first|refine qN ?_ _|refine qW ?_|refine qL ?_ _));exact BK165.out)):gb165 ≠ gb166));have n6_:=qK ((by rw [hg];exact Nat.ne_of_gt (blk_lt (g:=gb165) (o:=_) (by (with_reducible repeat (first|refine qN ?_ _|refine qW ?_|refine qL ?_ _));exact BK165.out)):gb166 ≠ gb165));clear BK165;clear HB;have BK165:=n0_;have HB:=n1_;have BK166:=n2_;have GW166:=n3_;have GE166:=n4_;have NB165_166:=n5_;have NB166_165:=n6_;clear n0_ n1_ n2_ n3_ n4_ n5_ n6_;clear hb hbox hg)|((with_reducible refine gate_dst (N:=3) rfl ?_);refine box_event ?hg (N:=3) ?hd (cs:=#[.int .i64 0,.int .i64 0,.int .i64 0]) (t:=47) ?hr ?_;(case hd=>rfl);(case hg=>rfl);(case hr=>(go_simp;try rfl));intro gb167 hg w4 hbox hb;have n0_:=qK (qB (g:=gb165) (o:=_) (by (with_reducible repeat (first|refine qN ?_ _|refine qW ?_|refine qL ?_ _));exact BK165.out) hb);have n1_:=qK (qB (g:=gb166) (o:=_) (by (with_reducible repeat (first|refine qN ?_ _|refine qW ?_|refine qL ?_ _));exact BK166.out) hb);have n2_:=qK (qT (by repeat (with_reducible first|exact HB.out|apply qA|apply qD|apply qO|refine qS ?_ GE165.out|refine qS ?_ GE166.out)) hb);have n3_:=qK (hbox);have n4_:=qK ((by rw [hg];exact (qZ (by repeat (with_reducible first|exact HB.out|apply qA|apply qD|apply qO|refine qS ?_ GE165.out|refine qS ?_ GE166.out))):w.heap.size≤gb167));have n5_:=qK ((by rw [hg];exact (qZ (by repeat (with_reducible first|exact HB.out|apply qA|apply qD|apply qO|refine qS ?_ GE165.out|refine qS ?_ GE166.out))):w.heap.size≤gb167));have n6_:=qK ((by rw [hg];exact Nat.ne_of_lt (blk_lt (g:=gb165) (o:=_) (by (with_reducible repeat (first|refine qN ?_ _|refine qW ?_|refine qL ?_ _));exact BK165.out)):gb165 ≠ gb167));have n7_:=qK ((by rw [hg];exact Nat.ne_of_gt (blk_lt (g:=gb165) (o:=_) (by (with_reducible repeat (first|refine qN ?_ _|refine qW ?_|refine qL ?_ _));exact BK165.out)):gb167 ≠ gb165));have n8_:=qK ((by rw [hg];exact Nat.ne_of_lt (blk_lt (g:=gb166) (o:=_) (by (with_reducible repeat (first|refine qN ?_ _|refine qW ?_|refine qL ?_ _));exact BK166.out)):gb166 ≠ gb167));have n9_:=qK ((by rw [hg];exact Nat.ne_of_gt (blk_lt (g:=gb166) (o:=_) (by (with_reducible repeat (first|refine qN ?_ _|refine qW ?_|refine qL ?_ _));exact BK166.out)):gb167 ≠ gb166));clear BK165;clear BK166;clear HB;have BK165:=n0_;have BK166:=n1_;have HB:=n2_;have BK167:=n3_;have GW167:=n4_;have GE167:=n5_;have NB165_167:=n6_;have NB167_165:=n7_;have NB166_167:=n8_;have NB167_166:=n9_;clear n0_ n1_ n2_ n3_ n4_ n5_ n6_ n7_ n8_ n9_;clear hb hbox hg;have hnb5:=NB165_166.out;have hnc5:=NB166_165.out;have hnb6:=NB165_167.out;have hnc6:=NB167_165.out;have hcz7_0:w4.cell? ⟨gb165,0,none⟩=some (.int .i64 a0_0):=(qC BK165.out 0).trans rfl;have hcz7_1:w4.cell? ⟨gb165,1,none⟩=some (.int .i64 a0_1):=(qC BK165.out 1).trans rfl;have hcz7_2:w4.cell? ⟨gb165,2,none⟩=some (.int .i64 a0_2):=(qC BK165.out 2).trans rfl;have hfz7_0:=qF BK165.out 0;have hfz7_1:=qF BK165.out 1;have hfz7_2:=qF BK165.out 2;have hnb8:=NB167_166.out;have hnc8:=NB166_167.out;have hcz9_0:w4.cell? ⟨gb167,0,none⟩=some (.int .i64 0):=(qC BK167.out 0).trans rfl;have hcz9_1:w4.cell? ⟨gb167,1,none⟩=some (.int .i64 0):=(qC BK167.out 1).trans rfl;have hcz9_2:w4.cell? ⟨gb167,2,none⟩=some (.int .i64 0):=(qC BK167.out 2).trans rfl;have hfz9_0:=qF BK167.out 0;have hfz9_1:=qF BK167.out 1;have hfz9_2:=qF BK167.out 2;have hcz10_0:w4.cell? ⟨gb166,0,none⟩=some (.int .i64 0):=(qC BK166.out 0).trans rfl;have hcz10_1:w4.cell? ⟨gb166,1,none⟩=some (.int .i64 0):=(qC BK166.out 1).trans rfl;have hcz10_2:w4.cell? ⟨gb166,2,none⟩=some (.int .i64 0):=(qC BK166.out 2).trans rfl;have hfz10_0:=qF BK166.out 0;have hfz10_1:=qF BK166.out 1;have hfz10_2:=qF BK166.out 2))
 refine bodyPost_ret (results_cell_row rfl _ _ gb166 47 #[.int .i64 a0_0,.int .i64 a0_1,.int .i64 a0_2] (0,0) _ rfl (by (with_reducible repeat (first|refine qN ?_ _|refine qW ?_|refine qL ?_ _));refine qP (cs:=#[.int .i64 a0_0,.int .i64 a0_1,.int .i64 0]) ?_ 2 _ rfl;(with_reducible repeat (first|refine qN ?_ _|refine qW ?_|refine qL ?_ _));refine qP (cs:=#[.int .i64 a0_0,.int .i64 0,.int .i64 0]) ?_ 1 _ rfl;(with_reducible repeat (first|refine qN ?_ _|refine qW ?_|refine qL ?_ _));refine qP (cs:=#[.int .i64 0,.int .i64 0,.int .i64 0]) ?_ 0 _ rfl;(with_reducible repeat (first|refine qN ?_ _|refine qW ?_|refine qL ?_ _));refine qR ?_ NB166_167.out _;(with_reducible repeat (first|refine qN ?_ _|refine qW ?_|refine qL ?_ _));refine qR ?_ NB166_167.out _;(with_reducible repeat (first|refine qN ?_ _|refine qW ?_|refine qL ?_ _));refine qR ?_ NB166_167.out _;(with_reducible repeat (first|refine qN ?_ _|refine qW ?_|refine qL ?_ _));exact BK166.out) Try.underlying47 rfl (by kernel_rfl)) rfl ?_;exact ⟨by first|rfl|(simp [errW_none,errW_some] <;> rfl)|(simp [*,errW_none,errW_some] <;> rfl),by repeat (first|(with_reducible first|exact HB.out|apply qA|apply qD|apply qO|refine qS ?_ GE165.out|refine qS ?_ GE166.out|refine qS ?_ GE167.out)|exact HB.out)⟩

/-! ### laws_toStepS: function 23 -/
def laws_toStepS.l0 : Nat→List (S64)→List (S47)→Int→Option ((List (S47)))
 | 0,_,_,_=>none
 | k + 1,x0,x3,x4=>if x4 < (x0.length:Int) then (if 0≤x4 then ((laws_toStep.f ((rd_T64 x0 x4).f0) ((rd_T64 x0 x4).f1) ((rd_T64 x0 x4).f2)).bind fun bt172=>(if x4 < (x3.length:Int) then (laws_toStepS.l0 k x0 (x3.set (x4:Int).toNat (⟨bt172.1,bt172.2.1,bt172.2.2⟩:S47)) (wrap64 (x4 + 1))) else (none))) else (none)) else (some x3)
def laws_toStepS.f (k:Nat) (l0:List (S64)):Option ((List (S47))):=if 0≤(l0.length:Int) then (if ((l0.length:Int):Int).toNat≤11728124029610 then (laws_toStepS.l0 k l0 (List.replicate ((l0.length:Int):Int).toNat z47) 0) else (none)) else (none)
theorem laws_toStepS.mono_l : ∀ k,(∀ y0 y1 y2,LeO (laws_toStepS.l0 k y0 y1 y2) (laws_toStepS.l0 (k + 1) y0 y1 y2))
 | 0=>fun _ _ _ r h=>by simp [laws_toStepS.l0] at h
 | k + 1=>by
  have ih0:=laws_toStepS.mono_l k
  ·intro y0 y1 y2;unfold laws_toStepS.l0
   repeat' first
   | (with_reducible exact ih0 _ _ _)
   | (with_reducible exact LeO.refl _)
   | (with_reducible exact LeO.none _)
   | (with_reducible refine LeO.ite ?_ ?_)
   | (with_reducible refine LeO.bind ?_ (fun _=>?_))
   | exact ih0 _ _ _
   | exact LeO.none _
   | refine LeO.ite ?_ ?_
   | refine LeO.bind ?_ (fun _=>?_)
theorem laws_toStepS.mono : ∀ a0 k,LeO (laws_toStepS.f k a0) (laws_toStepS.f (k + 1) a0):=by
 intro a0 k;have ih0:=laws_toStepS.mono_l k;unfold laws_toStepS.f
 repeat' first
   | (with_reducible exact ih0 _ _ _)
   | (with_reducible exact LeO.refl _)
   | (with_reducible exact LeO.none _)
   | (with_reducible refine LeO.ite ?_ ?_)
   | (with_reducible refine LeO.bind ?_ (fun _=>?_))
   | exact ih0 _ _ _
   | exact LeO.none _
   | refine LeO.ite ?_ ?_
   | refine LeO.bind ?_ (fun _=>?_)
set_option maxHeartbeats 8000000 in
set_option maxRecDepth 100000 in
theorem laws_toStepS.calls (k:Nat) (A0:Option Addr) (c0:Nat) (l0:List (S64)) (r:List (S47)) (w:World) (hr0:Kd.C k64 w A0 l0.length l0) (hc0:l0.length≤c0) (h:laws_toStepS.f k l0=some r) :
  Calls Try.prog 23 #[.slice A0 l0.length c0] w fun e w'=>∃ v0_:Value,e=.returned (v0_)∧Kd.R k47 47 w' w.heap.size (fun _=>True) v0_ r∧Below w.heap.size w w':=by
 have hu64:=Try.underlying64;have hu47:=Try.underlying47;have HR0:=qK hr0;have HC0:=qK hc0;clear hr0 hc0;have HB:=qK (Below.refl w.heap.size w);have H:(if 0≤(l0.length:Int) then (if ((l0.length:Int):Int).toNat≤11728124029610 then (laws_toStepS.l0 k l0 (List.replicate ((l0.length:Int):Int).toNat z47) 0) else (none)) else (none))=some r:=h;clear h;by_cases c2:0≤(l0.length:Int)
 ·rw [if_pos c2] at H;have c2b0:=eq_true c2;have c2b1:decide (0≤(l0.length:Int))=true:=decide_eq_true c2;clear c2;by_cases c3:((l0.length:Int):Int).toNat≤11728124029610
  ·rw [if_pos c3] at H;have c3b0:=eq_true c3;have c3b1:decide (((l0.length:Int):Int).toNat≤11728124029610)=true:=decide_eq_true c3;clear c3;obtain ⟨y168,hy168⟩:∃ y_:List (S47),y_=(List.replicate ((l0.length:Int):Int).toNat z47):=⟨_,rfl⟩;replace H:(laws_toStepS.l0 k l0 y168 0)=some r:=by first|(rw [hy168];with_reducible exact H)|(have H2_:=(Option.bind_some _ _).symm.trans H;rw [hy168];with_reducible exact H2_)|(have H2_:=(Option.bind_some _ _).symm.trans H;with_reducible exact H2_)|with_reducible exact H|(rw [hy168];exact H)|exact H
   have Ny168:=qK hy168;clear hy168;have H':=qK H;clear H;go_enter Try.func23,Try.ntmps23
   go_wp2_with (first|((with_reducible refine gate_dst (N:=7) rfl ?_);refine Kd.R_make k47 _ 47 rfl (N:=7) rfl 27 _ _ rfl (l0.length:Int) rfl rfl Try.underlying27 (.agg #[(.int .i64 0),(.int .i64 0),(.int .i64 0)]) 24 info47 rfl (by decide) (by omega) z47 (ok:=fun _=>True) (okp:=fun _=>True) (k47_mkM _ _ _ z47 ) (fun _ hk=>hk) trivial (of_decide_eq_true (by first|(with_reducible assumption)|assumption)) (Nat.le_trans (Nat.mul_le_mul_right _ (of_decide_eq_true (by first|(with_reducible assumption)|assumption):(l0.length:Int).toNat≤11728124029610)) (by omega)) (Below.refl _ _) (Nat.le_refl _) ?_;intro v169 w4 ho5 hb hg_ hnew_;clear hg_ hnew_;(first|rw [← Ny168.out] at ho5|(simp only [Int.reduceToNat] at ho5;rw [← Ny168.out] at ho5));have n0_:=qK (Kd.R_lower ho5 (qZ (by repeat (with_reducible first|exact HB.out|apply qA|apply qD|apply qO))));have n1_:=qK (qT (by repeat (with_reducible first|exact HB.out|apply qA|apply qD|apply qO)) hb);clear HB;have HO170:=n0_;have HB:=n1_;clear n0_ n1_;clear hb ho5))
   go_loopg [4] k (fun kq v4 w'=>∃ (x3_1:List (S47)) (x4_1:Int),v4=.int .i64 x4_1∧Aside0 (laws_toStepS.l0 kq l0 x3_1 x4_1=some r)∧Aside0 (kq≤k)∧Aside0 (Kd.R k47 47 w' w.heap.size (fun _=>True) v169 x3_1)∧Aside0 (Below w.heap.size w w'))
   case atStart=>exact ⟨(y168),(0),(by first|rfl|(simp;done)|(simp [*];done)),H',⟨Nat.le_refl _⟩,⟨by (with_reducible repeat (first|apply rL|apply rN|apply rW));exact HO170.out⟩,⟨by repeat (first|(with_reducible first|exact HB.out|apply qA|apply qD|apply qO)|exact HB.out)⟩⟩
   case round =>
    clear H';try clear c2
    try clear c2b0
    try clear c2b1
    try clear p2
    try clear c3
    try clear c3b0
    try clear c3b1
    obtain ⟨x3_1,x4_1,rfl,HA,HK1,HO_3,HB⟩:=hrel;cases gk with
    | zero=>exact absurd HA.out (by simp [laws_toStepS.l0])
    | succ k1 =>
     have H:=HA.out;clear HA;simp only [laws_toStepS.l0] at H;by_cases c6:x4_1 < (l0.length:Int)
     ·rw [if_pos c6] at H;have c6b0:decide (x4_1 < (l0.length:Int))=true:=decide_eq_true c6;clear c6;by_cases c7:0≤x4_1
      ·rw [if_pos c7] at H;have c7b0:decide (0≤x4_1)=true:=decide_eq_true c7;clear c7;replace H:=Option.bind_eq_some_iff.mp H;obtain ⟨⟨t172,t173,t174⟩,A80,H⟩:=H;replace H:(if x4_1 < (x3_1.length:Int) then (laws_toStepS.l0 k1 l0 (x3_1.set (x4_1:Int).toNat (⟨t172,t173,t174⟩:S47)) (wrap64 (x4_1 + 1))) else (none))=some r:=H;have A8:=qK A80;clear A80;by_cases c9:x4_1 < (x3_1.length:Int)
       ·rw [if_pos c9] at H;have c9b0:decide (x4_1 < (x3_1.length:Int))=true:=decide_eq_true c9;clear c9;obtain ⟨y175,hy175⟩:∃ y_:List (S47),y_=(x3_1.set (x4_1:Int).toNat (⟨t172,t173,t174⟩:S47)):=⟨_,rfl⟩;replace H:(laws_toStepS.l0 k1 l0 y175 (wrap64 (x4_1 + 1)))=some r:=by first|(rw [hy175];with_reducible exact H)|(have H2_:=(Option.bind_some _ _).symm.trans H;rw [hy175];with_reducible exact H2_)|(have H2_:=(Option.bind_some _ _).symm.trans H;with_reducible exact H2_)|with_reducible exact H|(rw [hy175];exact H)|exact H
        have Ny175:=qK hy175;clear hy175;have H':=qK H;clear H;have p171:0≤(x4_1:Int):=of_decide_eq_true (by first|(with_reducible assumption)|assumption);have q171:x4_1 < (l0.length:Int):=of_decide_eq_true (by first|(with_reducible assumption)|assumption);obtain ⟨ad171,e171,hx171_0,hx171_1,hx171_2⟩:=at_T64 HR0.out x4_1 p171 q171;cases e171
        replace hx171_0:=(HB.out.cell (World.block_lt_of_cell? w _ hx171_0)).trans hx171_0;replace hx171_1:=(HB.out.cell (World.block_lt_of_cell? w _ hx171_1)).trans hx171_1;replace hx171_2:=(HB.out.cell (World.block_lt_of_cell? w _ hx171_2)).trans hx171_2;replace p171:=eq_true p171;replace q171:=eq_true q171;go_wp2_with (first|((with_reducible refine gate_callee (f:=40) rfl ?_);refine goesL_ (some 20) rfl rfl Try.func40 (by kernel_rfl) rfl #[.agg #[.int .i64 ((rd_T64 l0 x4_1).f0),.int .i64 ((rd_T64 l0 x4_1).f1),.int .i64 ((rd_T64 l0 x4_1).f2)]] rfl (by (try simp only [mT,mC,mN]);first|done|rfl|(simp only [lD,lT];rfl)) ?_;(with_reducible refine (laws_toStep.calls ((rd_T64 l0 x4_1).f0) ((rd_T64 l0 x4_1).f1) ((rd_T64 l0 x4_1).f2) t172 t173 t174 _ A8.out).mono ?_);rintro e w11 ⟨rfl,hb⟩;refine ⟨_,rfl,?_⟩;have n0_:=qK (rB (by (with_reducible repeat (first|apply rL|apply rN|apply rW));exact HO_3.out) hb);have n1_:=qK (qT (by repeat (with_reducible first|exact HB.out|apply qA|apply qD|apply qO)) hb);clear HO_3;clear HB;have HO_3:=n0_;have HB:=n1_;clear n0_ n1_;(try clear hb);have p10:0≤(x4_1:Int):=of_decide_eq_true (by first|(with_reducible assumption)|assumption);have q10:(x4_1:Int) < ((x3_1.length:Int):Int):=of_decide_eq_true (by first|(with_reducible assumption)|assumption);obtain ⟨go10,co10,eo10,gb10,gl10,cl10,HG10⟩:=Kd.R_form HO_3.out (by omega);(first|cases eo10|(injection eo10 with ea_ en_ ec_;(first|subst ea_|(injection ea_ with ea_;subst ea_));subst ec_;clear en_));have GB10:=qK gb10;have GG10:=qK HG10;clear gb10 gl10 HG10;obtain ⟨ce10,hcl10,hM10,hcc10,hfr10⟩:=Kd.R_elem HO_3.out z47 (x4_1:Int) p10 q10;obtain rfl:=k47_openM hM10;have hx10_0:w11.cell? ⟨go10,(x4_1:Int).toNat * 3,none⟩=some (.int .i64 ((rd_T47 x3_1 x4_1).f0)):=hcc10 0 _ rfl;have hx10_1:w11.cell? ⟨go10,(x4_1:Int).toNat * 3 + 1,none⟩=some (.int .i64 ((rd_T47 x3_1 x4_1).f1)):=hcc10 1 _ rfl;have hx10_2:w11.cell? ⟨go10,(x4_1:Int).toNat * 3 + 2,none⟩=some (.int .i64 ((rd_T47 x3_1 x4_1).f2)):=hcc10 2 _ rfl;have hf10_0:w11.frozen? ⟨go10,(x4_1:Int).toNat * 3,none⟩=false:=hfr10 0;have hf10_1:w11.frozen? ⟨go10,(x4_1:Int).toNat * 3 + 1,none⟩=false:=hfr10 1;have hf10_2:w11.frozen? ⟨go10,(x4_1:Int).toNat * 3 + 2,none⟩=false:=hfr10 2;clear hcl10 hcc10 hfr10 hM10;replace p10:=eq_true p10;replace q10:=eq_true q10;have HX12:=qK (show Kd.R k47 47 w11 w.heap.size (fun _=>True) (.slice (some ⟨go10,0,none⟩) x3_1.length co10) x3_1 from (by (with_reducible repeat (first|apply rL|apply rN|apply rW));exact HO_3.out));obtain ⟨ce12,hcl12,hM12,hcc12,hfr12⟩:=Kd.R_elem HX12.out z47 (x4_1:Int) (of_decide_eq_true (by first|(with_reducible assumption)|assumption)) (by have h_:(x4_1:Int) < ((x3_1.length:Int):Int):=of_decide_eq_true (by first|(with_reducible assumption)|assumption);first|exact h_|(have e_:=(Kd.R_reads' HO_3.out).1;omega)|simpa using h_);obtain rfl:=k47_openM hM12;have HP12:=Kd.R_seg HX12.out (x4_1:Int) (of_decide_eq_true (by first|(with_reducible assumption)|assumption)) (by have h_:(x4_1:Int) < ((x3_1.length:Int):Int):=of_decide_eq_true (by first|(with_reducible assumption)|assumption);first|exact h_|(have e_:=(Kd.R_reads' HO_3.out).1;omega)|simpa using h_) (seg:=[.int .i64 t172,.int .i64 t173,.int .i64 t174]) (j:=0) hcl12 hcc12 (show 3≤3 from by decide) (x':=(⟨t172,t173,t174⟩:S47)) (k47_mkM _ _ _ (⟨t172,t173,t174⟩:S47) ) (fun _ hk=>hk);have hx12_0:=hcc12 0 _ rfl;(try simp only [show (k47).sz=3 from rfl,Nat.mul_one,Nat.add_zero] at hx12_0);have hf12_0:=hfr12 0;(try simp only [show (k47).sz=3 from rfl,Nat.mul_one,Nat.add_zero] at hf12_0);have hx12_1:=hcc12 1 _ rfl;(try simp only [show (k47).sz=3 from rfl,Nat.mul_one,Nat.add_zero] at hx12_1);have hf12_1:=hfr12 1;(try simp only [show (k47).sz=3 from rfl,Nat.mul_one,Nat.add_zero] at hf12_1);have hx12_2:=hcc12 2 _ rfl;(try simp only [show (k47).sz=3 from rfl,Nat.mul_one,Nat.add_zero] at hx12_2);have hf12_2:=hfr12 2;(try simp only [show (k47).sz=3 from rfl,Nat.mul_one,Nat.add_zero] at hf12_2);clear hcl12 hcc12 hfr12 hM12)|((with_reducible refine gate_store (t:=47) (p:=21) rfl ?_);refine store_event (t:=47) (p:=21) (v:=?vo_w13) (w1:=(((w11.setCell ⟨go10,(x4_1:Int).toNat * 3,none⟩ (.int .i64 t172)).setCell ⟨go10,(x4_1:Int).toNat * 3 + 1,none⟩ (.int .i64 t173)).setCell ⟨go10,(x4_1:Int).toNat * 3 + 2,none⟩ (.int .i64 t174))) ?hg ?ho ?hn ?hr ?_;(case ho=>rfl);(case hg=>rfl);(case hn=>rfl);(case hr=>(go_simp;try rfl));intro w13 hw;have hg:w11.grownBy w13 (some go10):=(by rw [hw];exact HP12.2);have hp_:Kd.R k47 47 w13 w.heap.size (fun _=>True) (.slice (some ⟨go10,0,none⟩) x3_1.length co10) y175:=(by rw [hw,Ny175.out];exact HP12.1);clear HP12;have n0_:=qK (hp_);have n1_:=qK ((by rw [hw];exact qS (qS (qS (HB.out) GB10.out) GB10.out) GB10.out:Below w.heap.size w w13));clear HO_3;clear HB;have HO_3:=n0_;have HB:=n1_;clear n0_ n1_;clear hg hw hp_))
        go_roundg k1
        case measure=>have:=HK1.out;omega
        case rel=>exact ⟨(y175),(wrap64 (x4_1 + 1)),(by first|rfl|(simp;done)|(simp [*];done)),H',⟨by have:=HK1.out;omega⟩,⟨by (with_reducible repeat (first|apply rL|apply rN|apply rW));exact HO_3.out⟩,⟨by repeat (first|(with_reducible first|exact HB.out|apply qA|apply qD|apply qO)|exact HB.out)⟩⟩
       ·rw [if_neg c9] at H;exact absurd H (by simp)
      ·rw [if_neg c7] at H;exact absurd H (by simp)
     ·rw [if_neg c6] at H;have c6b0:decide (x4_1 < (l0.length:Int))=false:=decide_eq_false c6;clear c6;obtain rfl:=Option.some.inj H;go_wp2
      go_ret
      exact ⟨_,by first|rfl|(simp [errW_none,errW_some] <;> rfl)|(simp [*,errW_none,errW_some] <;> rfl),by (with_reducible repeat (first|apply rL|apply rN|apply rW));exact HO_3.out,by repeat (first|(with_reducible first|exact HB.out|apply qA|apply qD|apply qO)|exact HB.out)⟩
  ·rw [if_neg c3] at H;exact absurd H (by simp)
 ·rw [if_neg c2] at H;exact absurd H (by simp)

/-! ### laws_toIntS: function 24 -/
def laws_toIntS.l0 : Nat→List Int→List Int→Int→Option (List Int)
 | 0,_,_,_=>none
 | k + 1,x0,x3,x4=>if x4 < (x0.length:Int) then (if 0≤x4 then (if x4 < (x3.length:Int) then (laws_toIntS.l0 k x0 (x3.set (x4:Int).toNat (rd x0 x4)) (wrap64 (x4 + 1))) else (none)) else (none)) else (some x3)
def laws_toIntS.f (k:Nat) (l0:List Int):Option (List Int):=if 0≤(l0.length:Int) then (if ((l0.length:Int):Int).toNat≤35184372088832 then (laws_toIntS.l0 k l0 (List.replicate ((l0.length:Int):Int).toNat 0) 0) else (none)) else (none)
theorem laws_toIntS.mono_l : ∀ k,(∀ y0 y1 y2,LeO (laws_toIntS.l0 k y0 y1 y2) (laws_toIntS.l0 (k + 1) y0 y1 y2))
 | 0=>fun _ _ _ r h=>by simp [laws_toIntS.l0] at h
 | k + 1=>by
  have ih0:=laws_toIntS.mono_l k
  ·intro y0 y1 y2;unfold laws_toIntS.l0
   repeat' first
   | (with_reducible exact ih0 _ _ _)
   | (with_reducible exact LeO.refl _)
   | (with_reducible exact LeO.none _)
   | (with_reducible refine LeO.ite ?_ ?_)
   | (with_reducible refine LeO.bind ?_ (fun _=>?_))
   | exact ih0 _ _ _
   | exact LeO.none _
   | refine LeO.ite ?_ ?_
   | refine LeO.bind ?_ (fun _=>?_)
theorem laws_toIntS.mono : ∀ a0 k,LeO (laws_toIntS.f k a0) (laws_toIntS.f (k + 1) a0):=by
 intro a0 k;have ih0:=laws_toIntS.mono_l k;unfold laws_toIntS.f
 repeat' first
   | (with_reducible exact ih0 _ _ _)
   | (with_reducible exact LeO.refl _)
   | (with_reducible exact LeO.none _)
   | (with_reducible refine LeO.ite ?_ ?_)
   | (with_reducible refine LeO.bind ?_ (fun _=>?_))
   | exact ih0 _ _ _
   | exact LeO.none _
   | refine LeO.ite ?_ ?_
   | refine LeO.bind ?_ (fun _=>?_)
set_option maxHeartbeats 8000000 in
set_option maxRecDepth 100000 in
theorem laws_toIntS.calls (k:Nat) (A0:Option Addr) (c0:Nat) (l0:List Int) (r:List Int) (w:World) (hr0:Kd.C (Kd.int .i64) w A0 l0.length l0) (hc0:l0.length≤c0) (h:laws_toIntS.f k l0=some r) :
  Calls Try.prog 24 #[.slice A0 l0.length c0] w fun e w'=>∃ v0_:Value,e=.returned (v0_)∧Kd.R (Kd.int .i64) 3 w' w.heap.size (fun _=>True) v0_ r∧Below w.heap.size w w':=by
 have HR0:=qK hr0;have HC0:=qK hc0;clear hr0 hc0;have HB:=qK (Below.refl w.heap.size w);have H:(if 0≤(l0.length:Int) then (if ((l0.length:Int):Int).toNat≤35184372088832 then (laws_toIntS.l0 k l0 (List.replicate ((l0.length:Int):Int).toNat 0) 0) else (none)) else (none))=some r:=h;clear h;by_cases c2:0≤(l0.length:Int)
 ·rw [if_pos c2] at H;have c2b0:=eq_true c2;have c2b1:decide (0≤(l0.length:Int))=true:=decide_eq_true c2;clear c2;by_cases c3:((l0.length:Int):Int).toNat≤35184372088832
  ·rw [if_pos c3] at H;have c3b0:=eq_true c3;have c3b1:decide (((l0.length:Int):Int).toNat≤35184372088832)=true:=decide_eq_true c3;clear c3;obtain ⟨y176,hy176⟩:∃ y_:List Int,y_=(List.replicate ((l0.length:Int):Int).toNat 0):=⟨_,rfl⟩;replace H:(laws_toIntS.l0 k l0 y176 0)=some r:=by first|(rw [hy176];with_reducible exact H)|(have H2_:=(Option.bind_some _ _).symm.trans H;rw [hy176];with_reducible exact H2_)|(have H2_:=(Option.bind_some _ _).symm.trans H;with_reducible exact H2_)|with_reducible exact H|(rw [hy176];exact H)|exact H
   have Ny176:=qK hy176;clear hy176;have H':=qK H;clear H;go_enter Try.func24,Try.ntmps24
   go_wp2_with (first|((with_reducible refine gate_dst (N:=7) rfl ?_);refine Kd.R_make (Kd.int .i64) _ 3 rfl (N:=7) rfl 23 _ _ rfl (l0.length:Int) rfl rfl Try.underlying23 (.int .i64 0) 8 info3 rfl (by decide) (by omega) 0 (ok:=fun _=>True) (okp:=fun _=>True) rfl (fun _ hk=>hk) trivial (of_decide_eq_true (by first|(with_reducible assumption)|assumption)) (Nat.le_trans (Nat.mul_le_mul_right _ (of_decide_eq_true (by first|(with_reducible assumption)|assumption):(l0.length:Int).toNat≤35184372088832)) (by omega)) (Below.refl _ _) (Nat.le_refl _) ?_;intro v177 w4 ho5 hb hg_ hnew_;clear hg_ hnew_;(first|rw [← Ny176.out] at ho5|(simp only [Int.reduceToNat] at ho5;rw [← Ny176.out] at ho5));have n0_:=qK (Kd.R_lower ho5 (qZ (by repeat (with_reducible first|exact HB.out|apply qA|apply qD|apply qO))));have n1_:=qK (qT (by repeat (with_reducible first|exact HB.out|apply qA|apply qD|apply qO)) hb);clear HB;have HO178:=n0_;have HB:=n1_;clear n0_ n1_;clear hb ho5))
   go_loopg [4] k (fun kq v4 w'=>∃ (x3_1:List Int) (x4_1:Int),v4=.int .i64 x4_1∧Aside0 (laws_toIntS.l0 kq l0 x3_1 x4_1=some r)∧Aside0 (kq≤k)∧Aside0 (Kd.R (Kd.int .i64) 3 w' w.heap.size (fun _=>True) v177 x3_1)∧Aside0 (Below w.heap.size w w'))
   case atStart=>exact ⟨(y176),(0),(by first|rfl|(simp;done)|(simp [*];done)),H',⟨Nat.le_refl _⟩,⟨by (with_reducible repeat (first|apply rL|apply rN|apply rW));exact HO178.out⟩,⟨by repeat (first|(with_reducible first|exact HB.out|apply qA|apply qD|apply qO)|exact HB.out)⟩⟩
   case round =>
    clear H';try clear c2
    try clear c2b0
    try clear c2b1
    try clear p2
    try clear c3
    try clear c3b0
    try clear c3b1
    obtain ⟨x3_1,x4_1,rfl,HA,HK1,HO_3,HB⟩:=hrel;cases gk with
    | zero=>exact absurd HA.out (by simp [laws_toIntS.l0])
    | succ k1 =>
     have H:=HA.out;clear HA;simp only [laws_toIntS.l0] at H;by_cases c6:x4_1 < (l0.length:Int)
     ·rw [if_pos c6] at H;have c6b0:decide (x4_1 < (l0.length:Int))=true:=decide_eq_true c6;clear c6;by_cases c7:0≤x4_1
      ·rw [if_pos c7] at H;have c7b0:decide (0≤x4_1)=true:=decide_eq_true c7;clear c7;by_cases c8:x4_1 < (x3_1.length:Int)
       ·rw [if_pos c8] at H;have c8b0:decide (x4_1 < (x3_1.length:Int))=true:=decide_eq_true c8;clear c8;obtain ⟨y180,hy180⟩:∃ y_:List Int,y_=(x3_1.set (x4_1:Int).toNat (rd l0 x4_1)):=⟨_,rfl⟩;replace H:(laws_toIntS.l0 k1 l0 y180 (wrap64 (x4_1 + 1)))=some r:=by first|(rw [hy180];with_reducible exact H)|(have H2_:=(Option.bind_some _ _).symm.trans H;rw [hy180];with_reducible exact H2_)|(have H2_:=(Option.bind_some _ _).symm.trans H;with_reducible exact H2_)|with_reducible exact H|(rw [hy180];exact H)|exact H
        have Ny180:=qK hy180;clear hy180;have H':=qK H;clear H;have p179:0≤(x4_1:Int):=of_decide_eq_true (by first|(with_reducible assumption)|assumption);have q179:x4_1 < (l0.length:Int):=of_decide_eq_true (by first|(with_reducible assumption)|assumption);obtain ⟨ad179,e179,hx179_0⟩:=Kd.at_int HR0.out x4_1 p179 q179;cases e179
        replace hx179_0:=(HB.out.cell (World.block_lt_of_cell? w _ hx179_0)).trans hx179_0;replace p179:=eq_true p179;replace q179:=eq_true q179;have p9:0≤(x4_1:Int):=of_decide_eq_true (by first|(with_reducible assumption)|assumption);have q9:(x4_1:Int) < ((x3_1.length:Int):Int):=of_decide_eq_true (by first|(with_reducible assumption)|assumption);obtain ⟨go9,co9,eo9,gb9,gl9,cl9,HG9⟩:=Kd.R_form HO_3.out (by omega);(first|cases eo9|(injection eo9 with ea_ en_ ec_;(first|subst ea_|(injection ea_ with ea_;subst ea_));subst ec_;clear en_));have GB9:=qK gb9;have GG9:=qK HG9;clear gb9 gl9 HG9;obtain ⟨hx9_0,hf9_0⟩:=Kd.R_celln 0 HO_3.out (x4_1:Int) p9 q9;replace p9:=eq_true p9;replace q9:=eq_true q9;have HP10:=Kd.R_putg HO_3.out (x4_1:Int) (rd l0 x4_1);go_wp2_with (first|((with_reducible refine gate_store (t:=3) (p:=20) rfl ?_);refine store_event (t:=3) (p:=20) (v:=?vo_w11) (w1:=(wr.setCell ⟨go9,(x4_1:Int).toNat,none⟩ (.int .i64 (rd l0 x4_1)))) ?hg ?ho ?hn ?hr ?_;(case ho=>rfl);(case hg=>rfl);(case hn=>rfl);(case hr=>(go_simp;try rfl));intro w11 hw;have hg:wr.grownBy w11 (some go9):=(by rw [hw];exact HP10.2);have hp_:Kd.R (Kd.int .i64) 3 w11 w.heap.size (fun _=>True) (.slice (some ⟨go9,0,none⟩) x3_1.length co9) y180:=(by rw [hw,Ny180.out];exact HP10.1);clear HP10;have n0_:=qK (hp_);have n1_:=qK ((by rw [hw];exact qS (HB.out) GB9.out:Below w.heap.size w w11));clear HO_3;clear HB;have HO_3:=n0_;have HB:=n1_;clear n0_ n1_;clear hg hw hp_))
        go_roundg k1
        case measure=>have:=HK1.out;omega
        case rel=>exact ⟨(y180),(wrap64 (x4_1 + 1)),(by first|rfl|(simp;done)|(simp [*];done)),H',⟨by have:=HK1.out;omega⟩,⟨by (with_reducible repeat (first|apply rL|apply rN|apply rW));exact HO_3.out⟩,⟨by repeat (first|(with_reducible first|exact HB.out|apply qA|apply qD|apply qO)|exact HB.out)⟩⟩
       ·rw [if_neg c8] at H;exact absurd H (by simp)
      ·rw [if_neg c7] at H;exact absurd H (by simp)
     ·rw [if_neg c6] at H;have c6b0:decide (x4_1 < (l0.length:Int))=false:=decide_eq_false c6;clear c6;obtain rfl:=Option.some.inj H;go_wp2
      go_ret
      exact ⟨_,by first|rfl|(simp [errW_none,errW_some] <;> rfl)|(simp [*,errW_none,errW_some] <;> rfl),by (with_reducible repeat (first|apply rL|apply rN|apply rW));exact HO_3.out,by repeat (first|(with_reducible first|exact HB.out|apply qA|apply qD|apply qO)|exact HB.out)⟩
  ·rw [if_neg c3] at H;exact absurd H (by simp)
 ·rw [if_neg c2] at H;exact absurd H (by simp)

/-! ### laws_toLocks: function 7 -/
def laws_toLocks.f (k:Nat) (l0_0:List (S64)) (l0_1:List (S64)) (l0_2:List (S64)) (l0_3:List Int) (l0_4:List Int):Option ((List (S47)) × (List (S47)) × (List (S47)) × List Int × List Int):=(laws_toStepS.f k l0_0).bind fun t184=>((laws_toStepS.f k l0_1).bind fun t187=>((laws_toStepS.f k l0_2).bind fun t190=>((laws_toIntS.f k l0_3).bind fun t193=>((laws_toIntS.f k l0_4).bind fun t196=>(some (t184,t187,t190,t193,t196))))))
theorem laws_toLocks.mono : ∀ a0 a1 a2 a3 a4 k,LeO (laws_toLocks.f k a0 a1 a2 a3 a4) (laws_toLocks.f (k + 1) a0 a1 a2 a3 a4):=by
 intro a0 a1 a2 a3 a4 k;unfold laws_toLocks.f
 repeat' first
   | (with_reducible exact laws_toIntS.mono _ _)
   | (with_reducible exact laws_toStepS.mono _ _)
   | (with_reducible exact LeO.refl _)
   | (with_reducible exact LeO.none _)
   | (with_reducible refine LeO.ite ?_ ?_)
   | (with_reducible refine LeO.bind ?_ (fun _=>?_))
   | exact laws_toIntS.mono _ _
   | exact laws_toStepS.mono _ _
   | exact LeO.none _
   | refine LeO.ite ?_ ?_
   | refine LeO.bind ?_ (fun _=>?_)
set_option maxHeartbeats 8000000 in
set_option maxRecDepth 100000 in
theorem laws_toLocks.calls (k:Nat) (A0_0:Option Addr) (c0_0:Nat) (l0_0:List (S64)) (A0_1:Option Addr) (c0_1:Nat) (l0_1:List (S64)) (A0_2:Option Addr) (c0_2:Nat) (l0_2:List (S64)) (A0_3:Option Addr) (c0_3:Nat) (l0_3:List Int) (A0_4:Option Addr) (c0_4:Nat) (l0_4:List Int) (r1:List (S47)) (r2:List (S47)) (r3:List (S47)) (r4:List Int) (r5:List Int) (w:World) (hr0_0:Kd.C k64 w A0_0 l0_0.length l0_0) (hc0_0:l0_0.length≤c0_0) (hr0_1:Kd.C k64 w A0_1 l0_1.length l0_1) (hc0_1:l0_1.length≤c0_1) (hr0_2:Kd.C k64 w A0_2 l0_2.length l0_2) (hc0_2:l0_2.length≤c0_2) (hr0_3:Kd.C (Kd.int .i64) w A0_3 l0_3.length l0_3) (hc0_3:l0_3.length≤c0_3) (hr0_4:Kd.C (Kd.int .i64) w A0_4 l0_4.length l0_4) (hc0_4:l0_4.length≤c0_4) (h:laws_toLocks.f k l0_0 l0_1 l0_2 l0_3 l0_4=some (r1,r2,r3,r4,r5)) :
  Calls Try.prog 7 #[.agg #[.slice A0_0 l0_0.length c0_0,.slice A0_1 l0_1.length c0_1,.slice A0_2 l0_2.length c0_2,.slice A0_3 l0_3.length c0_3,.slice A0_4 l0_4.length c0_4]] w fun e w'=>∃ v0_ v1_ v2_ v3_ v4_:Value,e=.returned (.agg #[v0_,v1_,v2_,v3_,v4_])∧Kd.R k47 47 w' w.heap.size (fun k_=>some k_ ≠ (v1_:Value).ownBlock∧some k_ ≠ (v2_:Value).ownBlock) v0_ r1∧Kd.R k47 47 w' w.heap.size (fun k_=>some k_ ≠ (v0_:Value).ownBlock∧some k_ ≠ (v2_:Value).ownBlock) v1_ r2∧Kd.R k47 47 w' w.heap.size (fun k_=>some k_ ≠ (v0_:Value).ownBlock∧some k_ ≠ (v1_:Value).ownBlock) v2_ r3∧Kd.R (Kd.int .i64) 3 w' w.heap.size (fun k_=>some k_ ≠ (v4_:Value).ownBlock) v3_ r4∧Kd.R (Kd.int .i64) 3 w' w.heap.size (fun k_=>some k_ ≠ (v3_:Value).ownBlock) v4_ r5∧Below w.heap.size w w':=by
 have hu25:=Try.underlying25;have hu31:=Try.underlying31;have HR0_0:=qK hr0_0;have HC0_0:=qK hc0_0;clear hr0_0 hc0_0;have HR0_1:=qK hr0_1;have HC0_1:=qK hc0_1;clear hr0_1 hc0_1;have HR0_2:=qK hr0_2;have HC0_2:=qK hc0_2;clear hr0_2 hc0_2;have HR0_3:=qK hr0_3;have HC0_3:=qK hc0_3;clear hr0_3 hc0_3;have HR0_4:=qK hr0_4;have HC0_4:=qK hc0_4;clear hr0_4 hc0_4;have HB:=qK (Below.refl w.heap.size w);have H:((laws_toStepS.f k l0_0).bind fun t184=>((laws_toStepS.f k l0_1).bind fun t187=>((laws_toStepS.f k l0_2).bind fun t190=>((laws_toIntS.f k l0_3).bind fun t193=>((laws_toIntS.f k l0_4).bind fun t196=>(some (t184,t187,t190,t193,t196)))))))=some (r1,r2,r3,r4,r5):=h;clear h;replace H:=Option.bind_eq_some_iff.mp H;obtain ⟨t184,A20,H⟩:=H;replace H:((laws_toStepS.f k l0_1).bind fun t187=>((laws_toStepS.f k l0_2).bind fun t190=>((laws_toIntS.f k l0_3).bind fun t193=>((laws_toIntS.f k l0_4).bind fun t196=>(some (t184,t187,t190,t193,t196))))))=some (r1,r2,r3,r4,r5):=H;have A2:=qK A20;clear A20;replace H:=Option.bind_eq_some_iff.mp H;obtain ⟨t187,A30,H⟩:=H;replace H:((laws_toStepS.f k l0_2).bind fun t190=>((laws_toIntS.f k l0_3).bind fun t193=>((laws_toIntS.f k l0_4).bind fun t196=>(some (t184,t187,t190,t193,t196)))))=some (r1,r2,r3,r4,r5):=H;have A3:=qK A30;clear A30;replace H:=Option.bind_eq_some_iff.mp H;obtain ⟨t190,A40,H⟩:=H;replace H:((laws_toIntS.f k l0_3).bind fun t193=>((laws_toIntS.f k l0_4).bind fun t196=>(some (t184,t187,t190,t193,t196))))=some (r1,r2,r3,r4,r5):=H;have A4:=qK A40;clear A40;replace H:=Option.bind_eq_some_iff.mp H;obtain ⟨t193,A50,H⟩:=H;replace H:((laws_toIntS.f k l0_4).bind fun t196=>(some (t184,t187,t190,t193,t196)))=some (r1,r2,r3,r4,r5):=H;have A5:=qK A50;clear A50;replace H:=Option.bind_eq_some_iff.mp H;obtain ⟨t196,A60,H⟩:=H;replace H:(some (t184,t187,t190,t193,t196))=some (r1,r2,r3,r4,r5):=H;have A6:=qK A60;clear A60;simp only [Option.some.injEq,Prod.mk.injEq] at H;obtain ⟨rfl,rfl,rfl,rfl,rfl⟩:=H;go_enter Try.func7,Try.ntmps7
 go_wp2_with (first|((with_reducible refine gate_dst (N:=1) rfl ?_);refine box_event ?hg (N:=1) ?hd (cs:=#[.slice A0_0 l0_0.length c0_0,.slice A0_1 l0_1.length c0_1,.slice A0_2 l0_2.length c0_2,.slice A0_3 l0_3.length c0_3,.slice A0_4 l0_4.length c0_4]) (t:=25) ?hr ?_;(case hd=>rfl);(case hg=>rfl);(case hr=>(go_simp;try rfl));intro gb181 hg w7 hbox hb;have n0_:=qK (qT (by repeat (with_reducible first|exact HB.out|apply qA|apply qD|apply qO)) hb);have n1_:=qK (hbox);have n2_:=qK ((by rw [hg];exact (qZ (by repeat (with_reducible first|exact HB.out|apply qA|apply qD|apply qO))):w.heap.size≤gb181));have n3_:=qK ((by rw [hg];exact (qZ (by repeat (with_reducible first|exact HB.out|apply qA|apply qD|apply qO))):w.heap.size≤gb181));clear HB;have HB:=n0_;have BK181:=n1_;have GW181:=n2_;have GE181:=n3_;clear n0_ n1_ n2_ n3_;clear hb hbox hg)|((with_reducible refine gate_dst (N:=2) rfl ?_);refine box_event ?hg (N:=2) ?hd (cs:=#[.slice none 0 0,.slice none 0 0,.slice none 0 0,.slice none 0 0,.slice none 0 0]) (t:=31) ?hr ?_;(case hd=>rfl);(case hg=>rfl);(case hr=>(go_simp;try rfl));intro gb182 hg w8 hbox hb;have n0_:=qK (qB (g:=gb181) (o:=_) (by (with_reducible repeat (first|refine qN ?_ _|refine qW ?_|refine qL ?_ _));exact BK181.out) hb);have n1_:=qK (qT (by repeat (with_reducible first|exact HB.out|apply qA|apply qD|apply qO|refine qS ?_ GE181.out)) hb);have n2_:=qK (hbox);have n3_:=qK ((by rw [hg];exact (qZ (by repeat (with_reducible first|exact HB.out|apply qA|apply qD|apply qO|refine qS ?_ GE181.out))):w.heap.size≤gb182));have n4_:=qK ((by rw [hg];exact (qZ (by repeat (with_reducible first|exact HB.out|apply qA|apply qD|apply qO|refine qS ?_ GE181.out))):w.heap.size≤gb182));have n5_:=qK ((by rw [hg];exact Nat.ne_of_lt (blk_lt (g:=gb181) (o:=_) (by (with_reducible repeat (first|refine qN ?_ _|refine qW ?_|refine qL ?_ _));exact BK181.out)):gb181 ≠ gb182));have n6_:=qK ((by rw [hg];exact Nat.ne_of_gt (blk_lt (g:=gb181) (o:=_) (by (with_reducible repeat (first|refine qN ?_ _|refine qW ?_|refine qL ?_ _));exact BK181.out)):gb182 ≠ gb181));clear BK181;clear HB;have BK181:=n0_;have HB:=n1_;have BK182:=n2_;have GW182:=n3_;have GE182:=n4_;have NB181_182:=n5_;have NB182_181:=n6_;clear n0_ n1_ n2_ n3_ n4_ n5_ n6_;clear hb hbox hg)|((with_reducible refine gate_dst (N:=3) rfl ?_);refine box_event ?hg (N:=3) ?hd (cs:=#[.slice none 0 0,.slice none 0 0,.slice none 0 0,.slice none 0 0,.slice none 0 0]) (t:=31) ?hr ?_;(case hd=>rfl);(case hg=>rfl);(case hr=>(go_simp;try rfl));intro gb183 hg w9 hbox hb;have n0_:=qK (qB (g:=gb181) (o:=_) (by (with_reducible repeat (first|refine qN ?_ _|refine qW ?_|refine qL ?_ _));exact BK181.out) hb);have n1_:=qK (qB (g:=gb182) (o:=_) (by (with_reducible repeat (first|refine qN ?_ _|refine qW ?_|refine qL ?_ _));exact BK182.out) hb);have n2_:=qK (qT (by repeat (with_reducible first|exact HB.out|apply qA|apply qD|apply qO|refine qS ?_ GE181.out|refine qS ?_ GE182.out)) hb);have n3_:=qK (hbox);have n4_:=qK ((by rw [hg];exact (qZ (by repeat (with_reducible first|exact HB.out|apply qA|apply qD|apply qO|refine qS ?_ GE181.out|refine qS ?_ GE182.out))):w.heap.size≤gb183));have n5_:=qK ((by rw [hg];exact (qZ (by repeat (with_reducible first|exact HB.out|apply qA|apply qD|apply qO|refine qS ?_ GE181.out|refine qS ?_ GE182.out))):w.heap.size≤gb183));have n6_:=qK ((by rw [hg];exact Nat.ne_of_lt (blk_lt (g:=gb181) (o:=_) (by (with_reducible repeat (first|refine qN ?_ _|refine qW ?_|refine qL ?_ _));exact BK181.out)):gb181 ≠ gb183));have n7_:=qK ((by rw [hg];exact Nat.ne_of_gt (blk_lt (g:=gb181) (o:=_) (by (with_reducible repeat (first|refine qN ?_ _|refine qW ?_|refine qL ?_ _));exact BK181.out)):gb183 ≠ gb181));have n8_:=qK ((by rw [hg];exact Nat.ne_of_lt (blk_lt (g:=gb182) (o:=_) (by (with_reducible repeat (first|refine qN ?_ _|refine qW ?_|refine qL ?_ _));exact BK182.out)):gb182 ≠ gb183));have n9_:=qK ((by rw [hg];exact Nat.ne_of_gt (blk_lt (g:=gb182) (o:=_) (by (with_reducible repeat (first|refine qN ?_ _|refine qW ?_|refine qL ?_ _));exact BK182.out)):gb183 ≠ gb182));clear BK181;clear BK182;clear HB;have BK181:=n0_;have BK182:=n1_;have HB:=n2_;have BK183:=n3_;have GW183:=n4_;have GE183:=n5_;have NB181_183:=n6_;have NB183_181:=n7_;have NB182_183:=n8_;have NB183_182:=n9_;clear n0_ n1_ n2_ n3_ n4_ n5_ n6_ n7_ n8_ n9_;clear hb hbox hg;have hnb10:=NB181_182.out;have hnc10:=NB182_181.out;have hnb11:=NB181_183.out;have hnc11:=NB183_181.out;have hcz12_0:w9.cell? ⟨gb181,0,none⟩=some (.slice A0_0 l0_0.length c0_0):=(qC BK181.out 0).trans rfl;have hcz12_1:w9.cell? ⟨gb181,1,none⟩=some (.slice A0_1 l0_1.length c0_1):=(qC BK181.out 1).trans rfl;have hcz12_2:w9.cell? ⟨gb181,2,none⟩=some (.slice A0_2 l0_2.length c0_2):=(qC BK181.out 2).trans rfl;have hcz12_3:w9.cell? ⟨gb181,3,none⟩=some (.slice A0_3 l0_3.length c0_3):=(qC BK181.out 3).trans rfl;have hcz12_4:w9.cell? ⟨gb181,4,none⟩=some (.slice A0_4 l0_4.length c0_4):=(qC BK181.out 4).trans rfl;have hfz12_0:=qF BK181.out 0;have hfz12_1:=qF BK181.out 1;have hfz12_2:=qF BK181.out 2;have hfz12_3:=qF BK181.out 3;have hfz12_4:=qF BK181.out 4)|((with_reducible refine gate_callee (f:=23) rfl ?_);refine goesL_ (some 6) rfl rfl Try.func23 (by kernel_rfl) rfl #[.slice A0_0 l0_0.length c0_0] rfl (by (try simp only [mT,mC,mN]);first|done|rfl|(simp only [lD,lT];rfl)) ?_;(with_reducible refine (laws_toStepS.calls k _ _ l0_0 t184 _ ?side1 ?side2 A2.out).mono ?_);(case side1=>repeat (first|exact (cB HR0_0.out HB.out)|(with_reducible first|refine cL ?_ _|refine cN ?_ _|refine cW ?_)));(case side2=>exact HC0_0.out);rintro e w13 ⟨v185,rfl,ho0,hb⟩;refine ⟨_,rfl,?_⟩;have n0_:=qK (Kd.R_lower ho0 (qZ (by repeat (with_reducible first|exact HB.out|apply qA|apply qD|apply qO|refine qS ?_ GE181.out|refine qS ?_ GE182.out|refine qS ?_ GE183.out))));have n1_:=qK (qB (g:=gb181) (o:=_) (by (with_reducible repeat (first|refine qN ?_ _|refine qW ?_|refine qL ?_ _));exact BK181.out) hb);have n2_:=qK (qB (g:=gb182) (o:=_) (by (with_reducible repeat (first|refine qN ?_ _|refine qW ?_|refine qL ?_ _));exact BK182.out) hb);have n3_:=qK (qB (g:=gb183) (o:=_) (by (with_reducible repeat (first|refine qN ?_ _|refine qW ?_|refine qL ?_ _));exact BK183.out) hb);have n4_:=qK (qT (by repeat (with_reducible first|exact HB.out|apply qA|apply qD|apply qO|refine qS ?_ GE181.out|refine qS ?_ GE182.out|refine qS ?_ GE183.out)) hb);clear BK181;clear BK182;clear BK183;clear HB;have HO186:=n0_;have BK181:=n1_;have BK182:=n2_;have BK183:=n3_;have HB:=n4_;clear n0_ n1_ n2_ n3_ n4_;(try clear hb);(try clear hb2);(try clear hk);(try clear hi);(try clear ho0);obtain ⟨Ao14,co14,eo14⟩:=Kd.R_slice HO186.out;subst eo14;have hnb15:=NB183_182.out;have hnc15:=NB182_183.out;have hcz16_0:w13.cell? ⟨gb183,0,none⟩=some (.slice none 0 0):=(qC BK183.out 0).trans rfl;have hcz16_1:w13.cell? ⟨gb183,1,none⟩=some (.slice none 0 0):=(qC BK183.out 1).trans rfl;have hcz16_2:w13.cell? ⟨gb183,2,none⟩=some (.slice none 0 0):=(qC BK183.out 2).trans rfl;have hcz16_3:w13.cell? ⟨gb183,3,none⟩=some (.slice none 0 0):=(qC BK183.out 3).trans rfl;have hcz16_4:w13.cell? ⟨gb183,4,none⟩=some (.slice none 0 0):=(qC BK183.out 4).trans rfl;have hfz16_0:=qF BK183.out 0;have hfz16_1:=qF BK183.out 1;have hfz16_2:=qF BK183.out 2;have hfz16_3:=qF BK183.out 3;have hfz16_4:=qF BK183.out 4;have hcz17_0:w13.cell? ⟨gb181,0,none⟩=some (.slice A0_0 l0_0.length c0_0):=(qC BK181.out 0).trans rfl;have hcz17_1:w13.cell? ⟨gb181,1,none⟩=some (.slice A0_1 l0_1.length c0_1):=(qC BK181.out 1).trans rfl;have hcz17_2:w13.cell? ⟨gb181,2,none⟩=some (.slice A0_2 l0_2.length c0_2):=(qC BK181.out 2).trans rfl;have hcz17_3:w13.cell? ⟨gb181,3,none⟩=some (.slice A0_3 l0_3.length c0_3):=(qC BK181.out 3).trans rfl;have hcz17_4:w13.cell? ⟨gb181,4,none⟩=some (.slice A0_4 l0_4.length c0_4):=(qC BK181.out 4).trans rfl;have hfz17_0:=qF BK181.out 0;have hfz17_1:=qF BK181.out 1;have hfz17_2:=qF BK181.out 2;have hfz17_3:=qF BK181.out 3;have hfz17_4:=qF BK181.out 4)|((with_reducible refine gate_callee (f:=23) rfl ?_);refine goesL_ (some 10) rfl rfl Try.func23 (by kernel_rfl) rfl #[.slice A0_1 l0_1.length c0_1] rfl (by (try simp only [mT,mC,mN]);first|done|rfl|(simp only [lD,lT];rfl)) ?_;(with_reducible refine (laws_toStepS.calls k _ _ l0_1 t187 _ ?side1 ?side2 A3.out).mono ?_);(case side1=>exact cB HR0_1.out (by repeat (with_reducible first|exact HB.out|apply qA|apply qD|apply qO|refine qS ?_ GE181.out|refine qS ?_ GE182.out|refine qS ?_ GE183.out)));(case side2=>exact HC0_1.out);rintro e w18 ⟨v188,rfl,ho0,hb⟩;refine ⟨_,rfl,?_⟩;have n0_:=qK (Kd.R_elder' (by (with_reducible repeat (first|apply rL|apply rN|apply rW));exact (Kd.R_mono (Kd.R_far (p:=⟨gb183,0,none⟩) (Kd.R_types HO186.out BK183.out (by decide)) (fun _ hk=>hk.2) (.slice Ao14 t184.length co14)) (fun _ h_=>h_.1))) (Kd.R_base ho0) hb);have n1_:=qK (Kd.R_lower (Kd.R_new' ho0 (Kd.R_lt (by (with_reducible repeat (first|apply rL|apply rN|apply rW));exact (Kd.R_mono (Kd.R_far (p:=⟨gb183,0,none⟩) (Kd.R_types HO186.out BK183.out (by decide)) (fun _ hk=>hk.2) (.slice Ao14 t184.length co14)) (fun _ h_=>h_.1))))) (qZ (by repeat (with_reducible first|exact HB.out|apply qA|apply qD|apply qO|refine qS ?_ GE181.out|refine qS ?_ GE182.out|refine qS ?_ GE183.out))));have n2_:=qK (qB (g:=gb181) (o:=.cells #[.slice A0_0 l0_0.length c0_0,.slice A0_1 l0_1.length c0_1,.slice A0_2 l0_2.length c0_2,.slice A0_3 l0_3.length c0_3,.slice A0_4 l0_4.length c0_4] 25 (0,0)) (by (with_reducible repeat (first|refine qN ?_ _|refine qW ?_|refine qL ?_ _));refine qR ?_ NB181_183.out _;(with_reducible repeat (first|refine qN ?_ _|refine qW ?_|refine qL ?_ _));exact BK181.out) hb);have n3_:=qK (qB (g:=gb182) (o:=.cells #[.slice none 0 0,.slice none 0 0,.slice none 0 0,.slice none 0 0,.slice none 0 0] 31 (0,0)) (by (with_reducible repeat (first|refine qN ?_ _|refine qW ?_|refine qL ?_ _));refine qR ?_ NB182_183.out _;(with_reducible repeat (first|refine qN ?_ _|refine qW ?_|refine qL ?_ _));exact BK182.out) hb);have n4_:=qK (qB (g:=gb183) (o:=.cells #[.slice Ao14 t184.length co14,.slice none 0 0,.slice none 0 0,.slice none 0 0,.slice none 0 0] 31 (0,0)) (by (with_reducible repeat (first|refine qN ?_ _|refine qW ?_|refine qL ?_ _));refine qP (cs:=#[.slice none 0 0,.slice none 0 0,.slice none 0 0,.slice none 0 0,.slice none 0 0]) ?_ 0 _ rfl;(with_reducible repeat (first|refine qN ?_ _|refine qW ?_|refine qL ?_ _));exact BK183.out) hb);have n5_:=qK (qT (by repeat (with_reducible first|exact HB.out|apply qA|apply qD|apply qO|refine qS ?_ GE181.out|refine qS ?_ GE182.out|refine qS ?_ GE183.out)) hb);clear HO186;clear BK181;clear BK182;clear BK183;clear HB;have HO186:=n0_;have HO189:=n1_;have BK181:=n2_;have BK182:=n3_;have BK183:=n4_;have HB:=n5_;clear n0_ n1_ n2_ n3_ n4_ n5_;(try clear hb);(try clear hb2);(try clear hk);(try clear hi);(try clear ho0);obtain ⟨Ao19,co19,eo19⟩:=Kd.R_slice HO189.out;subst eo19;have hcz20_0:w18.cell? ⟨gb183,0,none⟩=some (.slice Ao14 t184.length co14):=(qC BK183.out 0).trans rfl;have hcz20_1:w18.cell? ⟨gb183,1,none⟩=some (.slice none 0 0):=(qC BK183.out 1).trans rfl;have hcz20_2:w18.cell? ⟨gb183,2,none⟩=some (.slice none 0 0):=(qC BK183.out 2).trans rfl;have hcz20_3:w18.cell? ⟨gb183,3,none⟩=some (.slice none 0 0):=(qC BK183.out 3).trans rfl;have hcz20_4:w18.cell? ⟨gb183,4,none⟩=some (.slice none 0 0):=(qC BK183.out 4).trans rfl;have hfz20_0:=qF BK183.out 0;have hfz20_1:=qF BK183.out 1;have hfz20_2:=qF BK183.out 2;have hfz20_3:=qF BK183.out 3;have hfz20_4:=qF BK183.out 4;have hcz21_0:w18.cell? ⟨gb181,0,none⟩=some (.slice A0_0 l0_0.length c0_0):=(qC BK181.out 0).trans rfl;have hcz21_1:w18.cell? ⟨gb181,1,none⟩=some (.slice A0_1 l0_1.length c0_1):=(qC BK181.out 1).trans rfl;have hcz21_2:w18.cell? ⟨gb181,2,none⟩=some (.slice A0_2 l0_2.length c0_2):=(qC BK181.out 2).trans rfl;have hcz21_3:w18.cell? ⟨gb181,3,none⟩=some (.slice A0_3 l0_3.length c0_3):=(qC BK181.out 3).trans rfl;have hcz21_4:w18.cell? ⟨gb181,4,none⟩=some (.slice A0_4 l0_4.length c0_4):=(qC BK181.out 4).trans rfl;have hfz21_0:=qF BK181.out 0;have hfz21_1:=qF BK181.out 1;have hfz21_2:=qF BK181.out 2;have hfz21_3:=qF BK181.out 3;have hfz21_4:=qF BK181.out 4)|((with_reducible refine gate_callee (f:=23) rfl ?_);refine goesL_ (some 14) rfl rfl Try.func23 (by kernel_rfl) rfl #[.slice A0_2 l0_2.length c0_2] rfl (by (try simp only [mT,mC,mN]);first|done|rfl|(simp only [lD,lT];rfl)) ?_;(with_reducible refine (laws_toStepS.calls k _ _ l0_2 t190 _ ?side1 ?side2 A4.out).mono ?_);(case side1=>exact cB HR0_2.out (by repeat (with_reducible first|exact HB.out|apply qA|apply qD|apply qO|refine qS ?_ GE181.out|refine qS ?_ GE182.out|refine qS ?_ GE183.out)));(case side2=>exact HC0_2.out);rintro e w22 ⟨v191,rfl,ho0,hb⟩;refine ⟨_,rfl,?_⟩;have n0_:=qK (Kd.R_elder' (by (with_reducible repeat (first|apply rL|apply rN|apply rW));exact (Kd.R_mono (Kd.R_far (p:=⟨gb183,1,none⟩) (Kd.R_types HO186.out BK183.out (by decide)) (fun _ hk=>hk.2) (.slice Ao19 t187.length co19)) (fun _ h_=>h_.1))) (Kd.R_base ho0) hb);have n1_:=qK (Kd.R_elder' (by (with_reducible repeat (first|apply rL|apply rN|apply rW));exact (Kd.R_mono (Kd.R_far (p:=⟨gb183,1,none⟩) (Kd.R_types HO189.out BK183.out (by decide)) (fun _ hk=>hk.2) (.slice Ao19 t187.length co19)) (fun _ h_=>h_.1))) (Kd.R_base ho0) hb);have n2_:=qK (Kd.R_lower (Kd.R_new' (Kd.R_new' ho0 (Kd.R_lt (by (with_reducible repeat (first|apply rL|apply rN|apply rW));exact (Kd.R_mono (Kd.R_far (p:=⟨gb183,1,none⟩) (Kd.R_types HO186.out BK183.out (by decide)) (fun _ hk=>hk.2) (.slice Ao19 t187.length co19)) (fun _ h_=>h_.1))))) (Kd.R_lt (by (with_reducible repeat (first|apply rL|apply rN|apply rW));exact (Kd.R_mono (Kd.R_far (p:=⟨gb183,1,none⟩) (Kd.R_types HO189.out BK183.out (by decide)) (fun _ hk=>hk.2) (.slice Ao19 t187.length co19)) (fun _ h_=>h_.1))))) (qZ (by repeat (with_reducible first|exact HB.out|apply qA|apply qD|apply qO|refine qS ?_ GE181.out|refine qS ?_ GE182.out|refine qS ?_ GE183.out))));have n3_:=qK (qB (g:=gb181) (o:=.cells #[.slice A0_0 l0_0.length c0_0,.slice A0_1 l0_1.length c0_1,.slice A0_2 l0_2.length c0_2,.slice A0_3 l0_3.length c0_3,.slice A0_4 l0_4.length c0_4] 25 (0,0)) (by (with_reducible repeat (first|refine qN ?_ _|refine qW ?_|refine qL ?_ _));refine qR ?_ NB181_183.out _;(with_reducible repeat (first|refine qN ?_ _|refine qW ?_|refine qL ?_ _));exact BK181.out) hb);have n4_:=qK (qB (g:=gb182) (o:=.cells #[.slice none 0 0,.slice none 0 0,.slice none 0 0,.slice none 0 0,.slice none 0 0] 31 (0,0)) (by (with_reducible repeat (first|refine qN ?_ _|refine qW ?_|refine qL ?_ _));refine qR ?_ NB182_183.out _;(with_reducible repeat (first|refine qN ?_ _|refine qW ?_|refine qL ?_ _));exact BK182.out) hb);have n5_:=qK (qB (g:=gb183) (o:=.cells #[.slice Ao14 t184.length co14,.slice Ao19 t187.length co19,.slice none 0 0,.slice none 0 0,.slice none 0 0] 31 (0,0)) (by (with_reducible repeat (first|refine qN ?_ _|refine qW ?_|refine qL ?_ _));refine qP (cs:=#[.slice Ao14 t184.length co14,.slice none 0 0,.slice none 0 0,.slice none 0 0,.slice none 0 0]) ?_ 1 _ rfl;(with_reducible repeat (first|refine qN ?_ _|refine qW ?_|refine qL ?_ _));exact BK183.out) hb);have n6_:=qK (qT (by repeat (with_reducible first|exact HB.out|apply qA|apply qD|apply qO|refine qS ?_ GE181.out|refine qS ?_ GE182.out|refine qS ?_ GE183.out)) hb);clear HO186;clear HO189;clear BK181;clear BK182;clear BK183;clear HB;have HO186:=n0_;have HO189:=n1_;have HO192:=n2_;have BK181:=n3_;have BK182:=n4_;have BK183:=n5_;have HB:=n6_;clear n0_ n1_ n2_ n3_ n4_ n5_ n6_;(try clear hb);(try clear hb2);(try clear hk);(try clear hi);(try clear ho0);obtain ⟨Ao23,co23,eo23⟩:=Kd.R_slice HO192.out;subst eo23;have hcz24_0:w22.cell? ⟨gb183,0,none⟩=some (.slice Ao14 t184.length co14):=(qC BK183.out 0).trans rfl;have hcz24_1:w22.cell? ⟨gb183,1,none⟩=some (.slice Ao19 t187.length co19):=(qC BK183.out 1).trans rfl;have hcz24_2:w22.cell? ⟨gb183,2,none⟩=some (.slice none 0 0):=(qC BK183.out 2).trans rfl;have hcz24_3:w22.cell? ⟨gb183,3,none⟩=some (.slice none 0 0):=(qC BK183.out 3).trans rfl;have hcz24_4:w22.cell? ⟨gb183,4,none⟩=some (.slice none 0 0):=(qC BK183.out 4).trans rfl;have hfz24_0:=qF BK183.out 0;have hfz24_1:=qF BK183.out 1;have hfz24_2:=qF BK183.out 2;have hfz24_3:=qF BK183.out 3;have hfz24_4:=qF BK183.out 4;have hcz25_0:w22.cell? ⟨gb181,0,none⟩=some (.slice A0_0 l0_0.length c0_0):=(qC BK181.out 0).trans rfl;have hcz25_1:w22.cell? ⟨gb181,1,none⟩=some (.slice A0_1 l0_1.length c0_1):=(qC BK181.out 1).trans rfl;have hcz25_2:w22.cell? ⟨gb181,2,none⟩=some (.slice A0_2 l0_2.length c0_2):=(qC BK181.out 2).trans rfl;have hcz25_3:w22.cell? ⟨gb181,3,none⟩=some (.slice A0_3 l0_3.length c0_3):=(qC BK181.out 3).trans rfl;have hcz25_4:w22.cell? ⟨gb181,4,none⟩=some (.slice A0_4 l0_4.length c0_4):=(qC BK181.out 4).trans rfl;have hfz25_0:=qF BK181.out 0;have hfz25_1:=qF BK181.out 1;have hfz25_2:=qF BK181.out 2;have hfz25_3:=qF BK181.out 3;have hfz25_4:=qF BK181.out 4)|((with_reducible refine gate_callee (f:=24) rfl ?_);refine goesL_ (some 18) rfl rfl Try.func24 (by kernel_rfl) rfl #[.slice A0_3 l0_3.length c0_3] rfl (by (try simp only [mT,mC,mN]);first|done|rfl|(simp only [lD,lT];rfl)) ?_;(with_reducible refine (laws_toIntS.calls k _ _ l0_3 t193 _ ?side1 ?side2 A5.out).mono ?_);(case side1=>exact cB HR0_3.out (by repeat (with_reducible first|exact HB.out|apply qA|apply qD|apply qO|refine qS ?_ GE181.out|refine qS ?_ GE182.out|refine qS ?_ GE183.out)));(case side2=>exact HC0_3.out);rintro e w26 ⟨v194,rfl,ho0,hb⟩;refine ⟨_,rfl,?_⟩;have n0_:=qK (rB (by (with_reducible repeat (first|apply rL|apply rN|apply rW));exact (Kd.R_mono (Kd.R_far (p:=⟨gb183,2,none⟩) (Kd.R_types HO186.out BK183.out (by decide)) (fun _ hk=>hk.2) (.slice Ao23 t190.length co23)) (fun _ h_=>h_.1))) hb);have n1_:=qK (rB (by (with_reducible repeat (first|apply rL|apply rN|apply rW));exact (Kd.R_mono (Kd.R_far (p:=⟨gb183,2,none⟩) (Kd.R_types HO189.out BK183.out (by decide)) (fun _ hk=>hk.2) (.slice Ao23 t190.length co23)) (fun _ h_=>h_.1))) hb);have n2_:=qK (rB (by (with_reducible repeat (first|apply rL|apply rN|apply rW));exact (Kd.R_mono (Kd.R_far (p:=⟨gb183,2,none⟩) (Kd.R_types HO192.out BK183.out (by decide)) (fun _ hk=>hk.2) (.slice Ao23 t190.length co23)) (fun _ h_=>h_.1))) hb);have n3_:=qK (Kd.R_lower ho0 (qZ (by repeat (with_reducible first|exact HB.out|apply qA|apply qD|apply qO|refine qS ?_ GE181.out|refine qS ?_ GE182.out|refine qS ?_ GE183.out))));have n4_:=qK (qB (g:=gb181) (o:=.cells #[.slice A0_0 l0_0.length c0_0,.slice A0_1 l0_1.length c0_1,.slice A0_2 l0_2.length c0_2,.slice A0_3 l0_3.length c0_3,.slice A0_4 l0_4.length c0_4] 25 (0,0)) (by (with_reducible repeat (first|refine qN ?_ _|refine qW ?_|refine qL ?_ _));refine qR ?_ NB181_183.out _;(with_reducible repeat (first|refine qN ?_ _|refine qW ?_|refine qL ?_ _));exact BK181.out) hb);have n5_:=qK (qB (g:=gb182) (o:=.cells #[.slice none 0 0,.slice none 0 0,.slice none 0 0,.slice none 0 0,.slice none 0 0] 31 (0,0)) (by (with_reducible repeat (first|refine qN ?_ _|refine qW ?_|refine qL ?_ _));refine qR ?_ NB182_183.out _;(with_reducible repeat (first|refine qN ?_ _|refine qW ?_|refine qL ?_ _));exact BK182.out) hb);have n6_:=qK (qB (g:=gb183) (o:=.cells #[.slice Ao14 t184.length co14,.slice Ao19 t187.length co19,.slice Ao23 t190.length co23,.slice none 0 0,.slice none 0 0] 31 (0,0)) (by (with_reducible repeat (first|refine qN ?_ _|refine qW ?_|refine qL ?_ _));refine qP (cs:=#[.slice Ao14 t184.length co14,.slice Ao19 t187.length co19,.slice none 0 0,.slice none 0 0,.slice none 0 0]) ?_ 2 _ rfl;(with_reducible repeat (first|refine qN ?_ _|refine qW ?_|refine qL ?_ _));exact BK183.out) hb);have n7_:=qK (qT (by repeat (with_reducible first|exact HB.out|apply qA|apply qD|apply qO|refine qS ?_ GE181.out|refine qS ?_ GE182.out|refine qS ?_ GE183.out)) hb);clear HO186;clear HO189;clear HO192;clear BK181;clear BK182;clear BK183;clear HB;have HO186:=n0_;have HO189:=n1_;have HO192:=n2_;have HO195:=n3_;have BK181:=n4_;have BK182:=n5_;have BK183:=n6_;have HB:=n7_;clear n0_ n1_ n2_ n3_ n4_ n5_ n6_ n7_;(try clear hb);(try clear hb2);(try clear hk);(try clear hi);(try clear ho0);obtain ⟨Ao27,co27,eo27⟩:=Kd.R_slice HO195.out;subst eo27;have hcz28_0:w26.cell? ⟨gb183,0,none⟩=some (.slice Ao14 t184.length co14):=(qC BK183.out 0).trans rfl;have hcz28_1:w26.cell? ⟨gb183,1,none⟩=some (.slice Ao19 t187.length co19):=(qC BK183.out 1).trans rfl;have hcz28_2:w26.cell? ⟨gb183,2,none⟩=some (.slice Ao23 t190.length co23):=(qC BK183.out 2).trans rfl;have hcz28_3:w26.cell? ⟨gb183,3,none⟩=some (.slice none 0 0):=(qC BK183.out 3).trans rfl;have hcz28_4:w26.cell? ⟨gb183,4,none⟩=some (.slice none 0 0):=(qC BK183.out 4).trans rfl;have hfz28_0:=qF BK183.out 0;have hfz28_1:=qF BK183.out 1;have hfz28_2:=qF BK183.out 2;have hfz28_3:=qF BK183.out 3;have hfz28_4:=qF BK183.out 4;have hcz29_0:w26.cell? ⟨gb181,0,none⟩=some (.slice A0_0 l0_0.length c0_0):=(qC BK181.out 0).trans rfl;have hcz29_1:w26.cell? ⟨gb181,1,none⟩=some (.slice A0_1 l0_1.length c0_1):=(qC BK181.out 1).trans rfl;have hcz29_2:w26.cell? ⟨gb181,2,none⟩=some (.slice A0_2 l0_2.length c0_2):=(qC BK181.out 2).trans rfl;have hcz29_3:w26.cell? ⟨gb181,3,none⟩=some (.slice A0_3 l0_3.length c0_3):=(qC BK181.out 3).trans rfl;have hcz29_4:w26.cell? ⟨gb181,4,none⟩=some (.slice A0_4 l0_4.length c0_4):=(qC BK181.out 4).trans rfl;have hfz29_0:=qF BK181.out 0;have hfz29_1:=qF BK181.out 1;have hfz29_2:=qF BK181.out 2;have hfz29_3:=qF BK181.out 3;have hfz29_4:=qF BK181.out 4)|((with_reducible refine gate_callee (f:=24) rfl ?_);refine goesL_ (some 22) rfl rfl Try.func24 (by kernel_rfl) rfl #[.slice A0_4 l0_4.length c0_4] rfl (by (try simp only [mT,mC,mN]);first|done|rfl|(simp only [lD,lT];rfl)) ?_;(with_reducible refine (laws_toIntS.calls k _ _ l0_4 t196 _ ?side1 ?side2 A6.out).mono ?_);(case side1=>exact cB HR0_4.out (by repeat (with_reducible first|exact HB.out|apply qA|apply qD|apply qO|refine qS ?_ GE181.out|refine qS ?_ GE182.out|refine qS ?_ GE183.out)));(case side2=>exact HC0_4.out);rintro e w30 ⟨v197,rfl,ho0,hb⟩;refine ⟨_,rfl,?_⟩;have n0_:=qK (rB (by (with_reducible repeat (first|apply rL|apply rN|apply rW));exact (Kd.R_mono (Kd.R_far (p:=⟨gb183,3,none⟩) (Kd.R_types HO186.out BK183.out (by decide)) (fun _ hk=>hk.2) (.slice Ao27 t193.length co27)) (fun _ h_=>h_.1))) hb);have n1_:=qK (rB (by (with_reducible repeat (first|apply rL|apply rN|apply rW));exact (Kd.R_mono (Kd.R_far (p:=⟨gb183,3,none⟩) (Kd.R_types HO189.out BK183.out (by decide)) (fun _ hk=>hk.2) (.slice Ao27 t193.length co27)) (fun _ h_=>h_.1))) hb);have n2_:=qK (rB (by (with_reducible repeat (first|apply rL|apply rN|apply rW));exact (Kd.R_mono (Kd.R_far (p:=⟨gb183,3,none⟩) (Kd.R_types HO192.out BK183.out (by decide)) (fun _ hk=>hk.2) (.slice Ao27 t193.length co27)) (fun _ h_=>h_.1))) hb);have n3_:=qK (Kd.R_elder' (by (with_reducible repeat (first|apply rL|apply rN|apply rW));exact (Kd.R_mono (Kd.R_far (p:=⟨gb183,3,none⟩) (Kd.R_types HO195.out BK183.out (by decide)) (fun _ hk=>hk.2) (.slice Ao27 t193.length co27)) (fun _ h_=>h_.1))) (Kd.R_base ho0) hb);have n4_:=qK (Kd.R_lower (Kd.R_new' ho0 (Kd.R_lt (by (with_reducible repeat (first|apply rL|apply rN|apply rW));exact (Kd.R_mono (Kd.R_far (p:=⟨gb183,3,none⟩) (Kd.R_types HO195.out BK183.out (by decide)) (fun _ hk=>hk.2) (.slice Ao27 t193.length co27)) (fun _ h_=>h_.1))))) (qZ (by repeat (with_reducible first|exact HB.out|apply qA|apply qD|apply qO|refine qS ?_ GE181.out|refine qS ?_ GE182.out|refine qS ?_ GE183.out))));have n5_:=qK (qB (g:=gb181) (o:=.cells #[.slice A0_0 l0_0.length c0_0,.slice A0_1 l0_1.length c0_1,.slice A0_2 l0_2.length c0_2,.slice A0_3 l0_3.length c0_3,.slice A0_4 l0_4.length c0_4] 25 (0,0)) (by (with_reducible repeat (first|refine qN ?_ _|refine qW ?_|refine qL ?_ _));refine qR ?_ NB181_183.out _;(with_reducible repeat (first|refine qN ?_ _|refine qW ?_|refine qL ?_ _));exact BK181.out) hb);have n6_:=qK (qB (g:=gb182) (o:=.cells #[.slice none 0 0,.slice none 0 0,.slice none 0 0,.slice none 0 0,.slice none 0 0] 31 (0,0)) (by (with_reducible repeat (first|refine qN ?_ _|refine qW ?_|refine qL ?_ _));refine qR ?_ NB182_183.out _;(with_reducible repeat (first|refine qN ?_ _|refine qW ?_|refine qL ?_ _));exact BK182.out) hb);have n7_:=qK (qB (g:=gb183) (o:=.cells #[.slice Ao14 t184.length co14,.slice Ao19 t187.length co19,.slice Ao23 t190.length co23,.slice Ao27 t193.length co27,.slice none 0 0] 31 (0,0)) (by (with_reducible repeat (first|refine qN ?_ _|refine qW ?_|refine qL ?_ _));refine qP (cs:=#[.slice Ao14 t184.length co14,.slice Ao19 t187.length co19,.slice Ao23 t190.length co23,.slice none 0 0,.slice none 0 0]) ?_ 3 _ rfl;(with_reducible repeat (first|refine qN ?_ _|refine qW ?_|refine qL ?_ _));exact BK183.out) hb);have n8_:=qK (qT (by repeat (with_reducible first|exact HB.out|apply qA|apply qD|apply qO|refine qS ?_ GE181.out|refine qS ?_ GE182.out|refine qS ?_ GE183.out)) hb);clear HO186;clear HO189;clear HO192;clear HO195;clear BK181;clear BK182;clear BK183;clear HB;have HO186:=n0_;have HO189:=n1_;have HO192:=n2_;have HO195:=n3_;have HO198:=n4_;have BK181:=n5_;have BK182:=n6_;have BK183:=n7_;have HB:=n8_;clear n0_ n1_ n2_ n3_ n4_ n5_ n6_ n7_ n8_;(try clear hb);(try clear hb2);(try clear hk);(try clear hi);(try clear ho0);obtain ⟨Ao31,co31,eo31⟩:=Kd.R_slice HO198.out;subst eo31;have hcz32_0:w30.cell? ⟨gb183,0,none⟩=some (.slice Ao14 t184.length co14):=(qC BK183.out 0).trans rfl;have hcz32_1:w30.cell? ⟨gb183,1,none⟩=some (.slice Ao19 t187.length co19):=(qC BK183.out 1).trans rfl;have hcz32_2:w30.cell? ⟨gb183,2,none⟩=some (.slice Ao23 t190.length co23):=(qC BK183.out 2).trans rfl;have hcz32_3:w30.cell? ⟨gb183,3,none⟩=some (.slice Ao27 t193.length co27):=(qC BK183.out 3).trans rfl;have hcz32_4:w30.cell? ⟨gb183,4,none⟩=some (.slice none 0 0):=(qC BK183.out 4).trans rfl;have hfz32_0:=qF BK183.out 0;have hfz32_1:=qF BK183.out 1;have hfz32_2:=qF BK183.out 2;have hfz32_3:=qF BK183.out 3;have hfz32_4:=qF BK183.out 4;have hcz33_0:w30.cell? ⟨gb182,0,none⟩=some (.slice none 0 0):=(qC BK182.out 0).trans rfl;have hcz33_1:w30.cell? ⟨gb182,1,none⟩=some (.slice none 0 0):=(qC BK182.out 1).trans rfl;have hcz33_2:w30.cell? ⟨gb182,2,none⟩=some (.slice none 0 0):=(qC BK182.out 2).trans rfl;have hcz33_3:w30.cell? ⟨gb182,3,none⟩=some (.slice none 0 0):=(qC BK182.out 3).trans rfl;have hcz33_4:w30.cell? ⟨gb182,4,none⟩=some (.slice none 0 0):=(qC BK182.out 4).trans rfl;have hfz33_0:=qF BK182.out 0;have hfz33_1:=qF BK182.out 1;have hfz33_2:=qF BK182.out 2;have hfz33_3:=qF BK182.out 3;have hfz33_4:=qF BK182.out 4))
 refine bodyPost_ret (results_cell_row rfl _ _ gb182 31 #[.slice Ao14 t184.length co14,.slice Ao19 t187.length co19,.slice Ao23 t190.length co23,.slice Ao27 t193.length co27,.slice Ao31 t196.length co31] (0,0) _ rfl (by (with_reducible repeat (first|refine qN ?_ _|refine qW ?_|refine qL ?_ _));refine qP (cs:=#[.slice Ao14 t184.length co14,.slice Ao19 t187.length co19,.slice Ao23 t190.length co23,.slice Ao27 t193.length co27,.slice none 0 0]) ?_ 4 _ rfl;(with_reducible repeat (first|refine qN ?_ _|refine qW ?_|refine qL ?_ _));refine qP (cs:=#[.slice Ao14 t184.length co14,.slice Ao19 t187.length co19,.slice Ao23 t190.length co23,.slice none 0 0,.slice none 0 0]) ?_ 3 _ rfl;(with_reducible repeat (first|refine qN ?_ _|refine qW ?_|refine qL ?_ _));refine qP (cs:=#[.slice Ao14 t184.length co14,.slice Ao19 t187.length co19,.slice none 0 0,.slice none 0 0,.slice none 0 0]) ?_ 2 _ rfl;(with_reducible repeat (first|refine qN ?_ _|refine qW ?_|refine qL ?_ _));refine qP (cs:=#[.slice Ao14 t184.length co14,.slice none 0 0,.slice none 0 0,.slice none 0 0,.slice none 0 0]) ?_ 1 _ rfl;(with_reducible repeat (first|refine qN ?_ _|refine qW ?_|refine qL ?_ _));refine qP (cs:=#[.slice none 0 0,.slice none 0 0,.slice none 0 0,.slice none 0 0,.slice none 0 0]) ?_ 0 _ rfl;(with_reducible repeat (first|refine qN ?_ _|refine qW ?_|refine qL ?_ _));refine qR ?_ NB182_183.out _;(with_reducible repeat (first|refine qN ?_ _|refine qW ?_|refine qL ?_ _));exact BK182.out) Try.underlying31 rfl (by kernel_rfl)) rfl ?_;exact ⟨_,_,_,_,_,by first|rfl|(simp [errW_none,errW_some] <;> rfl)|(simp [*,errW_none,errW_some] <;> rfl),by (with_reducible repeat (first|apply rL|apply rN|apply rW));exact Kd.R_mono (Kd.R_far (p:=⟨gb182,4,none⟩) (Kd.R_far (p:=⟨gb182,3,none⟩) (Kd.R_far (p:=⟨gb182,2,none⟩) (Kd.R_far (p:=⟨gb182,1,none⟩) (Kd.R_far (p:=⟨gb182,0,none⟩) (Kd.R_far (p:=⟨gb183,4,none⟩) (Kd.R_types (Kd.R_types HO186.out BK183.out (by decide)) BK182.out (by decide)) (fun _ hk=>hk.1.2) (.slice Ao31 t196.length co31)) (fun _ hk=>hk.2) (.slice Ao14 t184.length co14)) (fun _ hk=>hk.2) (.slice Ao19 t187.length co19)) (fun _ hk=>hk.2) (.slice Ao23 t190.length co23)) (fun _ hk=>hk.2) (.slice Ao27 t193.length co27)) (fun _ hk=>hk.2) (.slice Ao31 t196.length co31)) (fun _ hk=>⟨hk.1.1.1.2,hk.1.1.2⟩),by (with_reducible repeat (first|apply rL|apply rN|apply rW));exact Kd.R_mono (Kd.R_far (p:=⟨gb182,4,none⟩) (Kd.R_far (p:=⟨gb182,3,none⟩) (Kd.R_far (p:=⟨gb182,2,none⟩) (Kd.R_far (p:=⟨gb182,1,none⟩) (Kd.R_far (p:=⟨gb182,0,none⟩) (Kd.R_far (p:=⟨gb183,4,none⟩) (Kd.R_types (Kd.R_types HO189.out BK183.out (by decide)) BK182.out (by decide)) (fun _ hk=>hk.1.2) (.slice Ao31 t196.length co31)) (fun _ hk=>hk.2) (.slice Ao14 t184.length co14)) (fun _ hk=>hk.2) (.slice Ao19 t187.length co19)) (fun _ hk=>hk.2) (.slice Ao23 t190.length co23)) (fun _ hk=>hk.2) (.slice Ao27 t193.length co27)) (fun _ hk=>hk.2) (.slice Ao31 t196.length co31)) (fun _ hk=>⟨hk.1.1.1.2,hk.1.1.2⟩),by (with_reducible repeat (first|apply rL|apply rN|apply rW));exact Kd.R_mono (Kd.R_far (p:=⟨gb182,4,none⟩) (Kd.R_far (p:=⟨gb182,3,none⟩) (Kd.R_far (p:=⟨gb182,2,none⟩) (Kd.R_far (p:=⟨gb182,1,none⟩) (Kd.R_far (p:=⟨gb182,0,none⟩) (Kd.R_far (p:=⟨gb183,4,none⟩) (Kd.R_types (Kd.R_types HO192.out BK183.out (by decide)) BK182.out (by decide)) (fun _ hk=>hk.1.2) (.slice Ao31 t196.length co31)) (fun _ hk=>hk.2) (.slice Ao14 t184.length co14)) (fun _ hk=>hk.2) (.slice Ao19 t187.length co19)) (fun _ hk=>hk.2) (.slice Ao23 t190.length co23)) (fun _ hk=>hk.2) (.slice Ao27 t193.length co27)) (fun _ hk=>hk.2) (.slice Ao31 t196.length co31)) (fun _ hk=>⟨hk.1.1.1.2,hk.1.1.2⟩),by (with_reducible repeat (first|apply rL|apply rN|apply rW));exact Kd.R_mono (Kd.R_far (p:=⟨gb182,4,none⟩) (Kd.R_far (p:=⟨gb182,3,none⟩) (Kd.R_far (p:=⟨gb182,2,none⟩) (Kd.R_far (p:=⟨gb182,1,none⟩) (Kd.R_far (p:=⟨gb182,0,none⟩) (Kd.R_far (p:=⟨gb183,4,none⟩) (Kd.R_types (Kd.R_types HO195.out BK183.out (by decide)) BK182.out (by decide)) (fun _ hk=>hk.1.2) (.slice Ao31 t196.length co31)) (fun _ hk=>hk.2) (.slice Ao14 t184.length co14)) (fun _ hk=>hk.2) (.slice Ao19 t187.length co19)) (fun _ hk=>hk.2) (.slice Ao23 t190.length co23)) (fun _ hk=>hk.2) (.slice Ao27 t193.length co27)) (fun _ hk=>hk.2) (.slice Ao31 t196.length co31)) (fun _ hk=>hk.1.1.2),by (with_reducible repeat (first|apply rL|apply rN|apply rW));exact Kd.R_mono (Kd.R_far (p:=⟨gb182,4,none⟩) (Kd.R_far (p:=⟨gb182,3,none⟩) (Kd.R_far (p:=⟨gb182,2,none⟩) (Kd.R_far (p:=⟨gb182,1,none⟩) (Kd.R_far (p:=⟨gb182,0,none⟩) (Kd.R_far (p:=⟨gb183,4,none⟩) (Kd.R_types (Kd.R_types HO198.out BK183.out (by decide)) BK182.out (by decide)) (fun _ hk=>hk.1.2) (.slice Ao31 t196.length co31)) (fun _ hk=>hk.2) (.slice Ao14 t184.length co14)) (fun _ hk=>hk.2) (.slice Ao19 t187.length co19)) (fun _ hk=>hk.2) (.slice Ao23 t190.length co23)) (fun _ hk=>hk.2) (.slice Ao27 t193.length co27)) (fun _ hk=>hk.2) (.slice Ao31 t196.length co31)) (fun _ hk=>hk.1.1.2),by repeat (first|(with_reducible first|exact HB.out|apply qA|apply qD|apply qO|refine qS ?_ GE181.out|refine qS ?_ GE182.out|refine qS ?_ GE183.out)|exact HB.out)⟩

/-! ### idxf_Step: function 52 -/
set_option maxHeartbeats 4000000 in
set_option maxRecDepth 100000 in
theorem idxf_Step.calls (A : Option Addr) (c : Nat) (l : List (S47)) (g : Nat) (lb : Array Value) (p : S47 → Bool) (w : World) (eg : ∀ args w, (callFunc g args).run Try.prog w = .ok (.enter g args) w)
    (hr : Kd.C k47 w A l.length l) (hp : PredOn Try.prog g lb (Agg k47) p l w) :
    Calls Try.prog 52 #[.slice A l.length c, .func (.func g) #[] lb] w fun e w' => e = .returned (.int .i64 (idxf p l)) ∧ Below w.heap.size w w' := by
  have hl : l.length ≤ 9223372036854775807 := hr.2.1
  have HR := Aside0.mk hr
  clear hr
  have HP := Aside0.mk hp
  clear hp
  go_enter Try.func52, Try.ntmps52
  go_wp2
  go_loopg [5, 8] l.length (fun gg _ s8 wr => ∃ kk : Nat, kk ≤ l.length ∧ l.length - kk ≤ gg ∧ s8 = .int .i64 kk ∧ Aside0 (Below w.heap.size w wr) ∧ Aside0 (∀ j, (hj : j < l.length) → j < kk → p l[j] = false))
  case atStart => exact ⟨0, Nat.zero_le _, by omega, rfl, ⟨Below.refl _ w⟩, ⟨fun j hj h => absurd h (Nat.not_lt_zero _)⟩⟩
  case round =>
    obtain ⟨kk, hkk, hg, rfl, BW, AA⟩ := hrel
    by_cases hlt : kk < l.length
    · have hltz : (kk : Int) < (l.length : Int) := by omega
      have hmem : l[kk] ∈ l := List.getElem_mem hlt
      obtain ⟨ad, cs, e1, hlen, hK, hcell⟩ := Kd.C_get (Kd.C_below HR.out BW.out) l[kk] (kk : Int) (by omega) (by omega)
      cases e1
      have hrd : l.getD (kk : Int).toNat l[kk] = l[kk] := by simp [hlt]
      rw [hrd] at hK
      replace hlen : cs.length = 3 := hlen
      obtain ⟨c0_, c1_, c2_, rfl⟩ : ∃ c0_ c1_ c2_ : Value, cs = [c0_, c1_, c2_] := list_len3 hlen
      replace hcell : ∀ j u, ([c0_, c1_, c2_] : List Value)[j]? = some u → wr.cell? (ad.add ((kk : Int).toNat * 3 + j)) = some u := hcell
      have h0_ : wr.cell? (ad.add (kk * 3)) = some c0_ := by have := hcell 0 _ rfl; simpa using this
      have h1_ : wr.cell? ⟨(ad.add (kk * 3)).block, (ad.add (kk * 3)).off + 1, none⟩ = some c1_ := by have := hcell 1 _ rfl; rw [show (kk : Int).toNat = kk from by simp] at this; rw [← add_field _ _ 1 (by omega)]; exact this
      have h2_ : wr.cell? ⟨(ad.add (kk * 3)).block, (ad.add (kk * 3)).off + 2, none⟩ = some c2_ := by have := hcell 2 _ rfl; rw [show (kk : Int).toNat = kk from by simp] at this; rw [← add_field _ _ 2 (by omega)]; exact this
      have hcall := HP.out wr l[kk] (.agg #[c0_, c1_, c2_]) hmem BW.out ⟨_, rfl, hK⟩
      clear hcell hK hlen hmem hrd
      have AY : Aside0 (∃ y, y = l[kk]) := ⟨⟨_, rfl⟩⟩
      obtain ⟨⟨y, hy⟩⟩ := AY
      rw [← hy] at hcall
      have HY := Aside0.mk hy
      clear hy
      cases hq : p y with
      | true =>
        rw [hq] at hcall
        have HQ := Aside0.mk hq
        clear hq
        go_wp2_with (go_at_fn g; refine hcall.mono ?_; rintro e w' ⟨rfl, hb'⟩)
        go_ret
        refine ⟨?_, below_step BW.out hb'⟩
        rw [idxf_hit hlt (by rw [← HY.out]; exact HQ.out) (fun j hj => AA.out j (by omega) hj)]
        rfl
      | false =>
        rw [hq] at hcall
        have HQ := Aside0.mk hq
        clear hq
        go_wp2_with (go_at_fn g; refine hcall.mono ?_; rintro e w' ⟨rfl, hb'⟩)
        go_roundg (l.length - (kk + 1))
        case measure => omega
        case rel =>
          refine ⟨kk + 1, by omega, by omega, by go_num, ⟨below_step BW.out hb'⟩, ⟨fun j hj hlt2 => ?_⟩⟩
          by_cases e : j = kk
          · subst e
            rw [← HY.out]; exact HQ.out
          · exact AA.out j hj (by omega)
    · have hltz : ¬ (kk : Int) < (l.length : Int) := by omega
      go_wp2
      go_ret
      refine ⟨?_, BW.out⟩
      rw [idxf_miss (fun j hj => AA.out j hj (by omega))]
      rfl

/-! ### anyf_Step: function 49 -/
set_option maxHeartbeats 4000000 in
set_option maxRecDepth 100000 in
theorem anyf_Step.calls (A : Option Addr) (c : Nat) (l : List (S47)) (g : Nat) (lb : Array Value) (p : S47 → Bool) (w : World) (eg : ∀ args w, (callFunc g args).run Try.prog w = .ok (.enter g args) w)
    (hr : Kd.C k47 w A l.length l) (hp : PredOn Try.prog g lb (Agg k47) p l w) :
    Calls Try.prog 49 #[.slice A l.length c, .func (.func g) #[] lb] w fun e w' => e = .returned (.bool (l.any p)) ∧ Below w.heap.size w w' := by
  rw [← idxf_any p l]
  have HR := Aside0.mk hr
  clear hr
  have HP := Aside0.mk hp
  clear hp
  obtain ⟨i, hi⟩ : ∃ i, i = idxf p l := ⟨_, rfl⟩
  rw [← hi]
  have HI := Aside0.mk hi
  clear hi
  go_enter Try.func49, Try.ntmps49
  go_wp2_with (go_at_call 52; refine (idxf_Step.calls A c l g lb p _ eg HR.out HP.out).mono ?_; rw [← HI.out]; rintro e w' ⟨rfl, hb'⟩)
  go_ret
  exact ⟨rfl, hb'⟩

/-! ### areAll1_Step: function 57 -/
set_option maxHeartbeats 4000000 in
set_option maxRecDepth 100000 in
theorem areAll1_Step.pred (B : Nat) (l : List (S47)) (g : Nat) (lb : Array Value) (p : S47 → Bool) (w : World) (eg : ∀ args w, (callFunc g args).run Try.prog w = .ok (.enter g args) w)
    (hB : w.cell? ⟨B, 0, none⟩ = some (.func (.func g) #[] lb)) (hp : PredOn Try.prog g lb (Agg k47) p l w) :
    PredOn Try.prog 57 #[.pointer (some ⟨B, 0, none⟩)] (Agg k47) (fun x => !p x) l w := by
  intro W x v hx hW hv
  obtain ⟨cs, rfl, hK⟩ := hv
  have hlen : cs.length = 3 := Kd.K_len _ hK
  obtain ⟨c0_, c1_, c2_, rfl⟩ : ∃ c0_ c1_ c2_ : Value, cs = [c0_, c1_, c2_] := list_len3 hlen
  have hB' : W.cell? ⟨B, 0, none⟩ = some (.func (.func g) #[] lb) := pw_cell_below hW hB
  have HP := Aside0.mk hp
  clear hp hB
  obtain ⟨b, hb⟩ : ∃ b, b = p x := ⟨_, rfl⟩
  have hb0 := Aside0.mk hb
  have hK' := Kd.K_below _ (below_alloc (Below.refl W.heap.size W) (.cells #[c0_, c1_, c2_] 47)) hK
  have hgr := Aside0.mk (below_alloc (Below.refl W.heap.size W) (.cells #[c0_, c1_, c2_] 47))
  have HKK := Aside0.mk hK'
  have hB'' := pw_cell_below hgr.out hB'
  have HWW := Aside0.mk hW
  clear hK hK' hW
  show Calls Try.prog 57 #[.agg #[c0_, c1_, c2_], .pointer (some ⟨B, 0, none⟩)] W fun e W' => e = .returned (.bool (!p x)) ∧ Below W.heap.size W W'
  rw [← hb]
  clear hb
  cases b with
  | true =>
    go_enter Try.func57, Try.ntmps57
    go_wp2_with (go_at_fn g; refine (HP.out _ x _ hx (below_step HWW.out hgr.out) ⟨_, rfl, HKK.out⟩).mono ?_; rw [← hb0.out]; rintro e w' ⟨rfl, hb'⟩)
    go_ret
    exact ⟨rfl, below_step hgr.out hb'⟩
  | false =>
    go_enter Try.func57, Try.ntmps57
    go_wp2_with (go_at_fn g; refine (HP.out _ x _ hx (below_step HWW.out hgr.out) ⟨_, rfl, HKK.out⟩).mono ?_; rw [← hb0.out]; rintro e w' ⟨rfl, hb'⟩)
    go_ret
    exact ⟨rfl, below_step hgr.out hb'⟩

/-! ### areAll_Step: function 42 -/
set_option maxHeartbeats 4000000 in
set_option maxRecDepth 100000 in
theorem areAll_Step.calls (A : Option Addr) (c : Nat) (l : List (S47)) (g : Nat) (lb : Array Value) (p : S47 → Bool) (w : World) (eg : ∀ args w, (callFunc g args).run Try.prog w = .ok (.enter g args) w)
    (hr : Kd.C k47 w A l.length l) (hp : PredOn Try.prog g lb (Agg k47) p l w) :
    Calls Try.prog 42 #[.slice A l.length c, .func (.func g) #[] lb] w fun e w' => e = .returned (.bool (l.all p)) ∧ Below w.heap.size w w' := by
  have hb1 : Below w.heap.size w (w.alloc (.cells #[.func (.func g) #[] lb] 53)) := below_alloc (Below.refl _ _) _
  have hp1 := areAll1_Step.pred w.heap.size l g lb p (w.alloc (.cells #[.func (.func g) #[] lb] 53)) eg (by simp) (hp.grown hb1)
  have HR := Aside0.mk (Kd.C_below hr hb1)
  have HP := Aside0.mk hp1
  have HB1 := Aside0.mk hb1
  clear hr hp hp1 hb1
  obtain ⟨b, hb⟩ : ∃ b, b = l.any (fun x => !p x) := ⟨_, rfl⟩
  have hall : l.all p = !b := by rw [hb, List.all_eq_not_any_not]
  rw [hall]
  have hb0 := Aside0.mk hb
  clear hb hall
  have e1 := enters_of Try.func57 (by kernel_rfl) rfl
  cases b with
  | true =>
    go_enter Try.func42, Try.ntmps42
    go_wp2_with (go_at_call 49; refine (anyf_Step.calls A c l _ _ _ _ e1 HR.out HP.out).mono ?_; rw [← hb0.out]; rintro e w' ⟨rfl, hb'⟩)
    go_ret
    exact ⟨rfl, below_step HB1.out hb'⟩
  | false =>
    go_enter Try.func42, Try.ntmps42
    go_wp2_with (go_at_call 49; refine (anyf_Step.calls A c l _ _ _ _ e1 HR.out HP.out).mono ?_; rw [← hb0.out]; rintro e w' ⟨rfl, hb'⟩)
    go_ret
    exact ⟨rfl, below_step HB1.out hb'⟩

/-! ### idxf_Int: function 64 -/
set_option maxHeartbeats 4000000 in
set_option maxRecDepth 100000 in
theorem idxf_Int.calls (A : Option Addr) (c : Nat) (l : List (Int)) (g : Nat) (lb : Array Value) (p : Int → Bool) (w : World) (eg : ∀ args w, (callFunc g args).run Try.prog w = .ok (.enter g args) w)
    (hr : Kd.C (Kd.int .i64) w A l.length l) (hp : PredOn Try.prog g lb (One (Kd.int .i64)) p l w) :
    Calls Try.prog 64 #[.slice A l.length c, .func (.func g) #[] lb] w fun e w' => e = .returned (.int .i64 (idxf p l)) ∧ Below w.heap.size w w' := by
  have hl : l.length ≤ 9223372036854775807 := hr.2.1
  have HR := Aside0.mk hr
  clear hr
  have HP := Aside0.mk hp
  clear hp
  go_enter Try.func64, Try.ntmps64
  go_wp2
  go_loopg [5, 8] l.length (fun gg _ s8 wr => ∃ kk : Nat, kk ≤ l.length ∧ l.length - kk ≤ gg ∧ s8 = .int .i64 kk ∧ Aside0 (Below w.heap.size w wr) ∧ Aside0 (∀ j, (hj : j < l.length) → j < kk → p l[j] = false))
  case atStart => exact ⟨0, Nat.zero_le _, by omega, rfl, ⟨Below.refl _ w⟩, ⟨fun j hj h => absurd h (Nat.not_lt_zero _)⟩⟩
  case round =>
    obtain ⟨kk, hkk, hg, rfl, BW, AA⟩ := hrel
    by_cases hlt : kk < l.length
    · have hltz : (kk : Int) < (l.length : Int) := by omega
      have hmem : l[kk] ∈ l := List.getElem_mem hlt
      obtain ⟨ad, cs, e1, hlen, hK, hcell⟩ := Kd.C_get (Kd.C_below HR.out BW.out) l[kk] (kk : Int) (by omega) (by omega)
      cases e1
      have hrd : l.getD (kk : Int).toNat l[kk] = l[kk] := by simp [hlt]
      rw [hrd] at hK
      replace hlen : cs.length = 1 := hlen
      obtain ⟨c0_, rfl⟩ : ∃ c0_ : Value, cs = [c0_] := list_len1 hlen
      replace hcell : ∀ j u, ([c0_] : List Value)[j]? = some u → wr.cell? (ad.add ((kk : Int).toNat * 1 + j)) = some u := hcell
      have h0_ : wr.cell? (ad.add kk) = some c0_ := by have := hcell 0 _ rfl; simpa using this
      have hcall := HP.out wr l[kk] (c0_) hmem BW.out hK
      clear hcell hK hlen hmem hrd
      have AY : Aside0 (∃ y, y = l[kk]) := ⟨⟨_, rfl⟩⟩
      obtain ⟨⟨y, hy⟩⟩ := AY
      rw [← hy] at hcall
      have HY := Aside0.mk hy
      clear hy
      cases hq : p y with
      | true =>
        rw [hq] at hcall
        have HQ := Aside0.mk hq
        clear hq
        go_wp2_with (go_at_fn g; refine hcall.mono ?_; rintro e w' ⟨rfl, hb'⟩)
        go_ret
        refine ⟨?_, below_step BW.out hb'⟩
        rw [idxf_hit hlt (by rw [← HY.out]; exact HQ.out) (fun j hj => AA.out j (by omega) hj)]
        rfl
      | false =>
        rw [hq] at hcall
        have HQ := Aside0.mk hq
        clear hq
        go_wp2_with (go_at_fn g; refine hcall.mono ?_; rintro e w' ⟨rfl, hb'⟩)
        go_roundg (l.length - (kk + 1))
        case measure => omega
        case rel =>
          refine ⟨kk + 1, by omega, by omega, by go_num, ⟨below_step BW.out hb'⟩, ⟨fun j hj hlt2 => ?_⟩⟩
          by_cases e : j = kk
          · subst e
            rw [← HY.out]; exact HQ.out
          · exact AA.out j hj (by omega)
    · have hltz : ¬ (kk : Int) < (l.length : Int) := by omega
      go_wp2
      go_ret
      refine ⟨?_, BW.out⟩
      rw [idxf_miss (fun j hj => AA.out j hj (by omega))]
      rfl

/-! ### anyf_Int: function 59 -/
set_option maxHeartbeats 4000000 in
set_option maxRecDepth 100000 in
theorem anyf_Int.calls (A : Option Addr) (c : Nat) (l : List (Int)) (g : Nat) (lb : Array Value) (p : Int → Bool) (w : World) (eg : ∀ args w, (callFunc g args).run Try.prog w = .ok (.enter g args) w)
    (hr : Kd.C (Kd.int .i64) w A l.length l) (hp : PredOn Try.prog g lb (One (Kd.int .i64)) p l w) :
    Calls Try.prog 59 #[.slice A l.length c, .func (.func g) #[] lb] w fun e w' => e = .returned (.bool (l.any p)) ∧ Below w.heap.size w w' := by
  rw [← idxf_any p l]
  have HR := Aside0.mk hr
  clear hr
  have HP := Aside0.mk hp
  clear hp
  obtain ⟨i, hi⟩ : ∃ i, i = idxf p l := ⟨_, rfl⟩
  rw [← hi]
  have HI := Aside0.mk hi
  clear hi
  go_enter Try.func59, Try.ntmps59
  go_wp2_with (go_at_call 64; refine (idxf_Int.calls A c l g lb p _ eg HR.out HP.out).mono ?_; rw [← HI.out]; rintro e w' ⟨rfl, hb'⟩)
  go_ret
  exact ⟨rfl, hb'⟩

/-! ### areAll1_Int: function 60 -/
set_option maxHeartbeats 4000000 in
set_option maxRecDepth 100000 in
theorem areAll1_Int.pred (B : Nat) (l : List (Int)) (g : Nat) (lb : Array Value) (p : Int → Bool) (w : World) (eg : ∀ args w, (callFunc g args).run Try.prog w = .ok (.enter g args) w)
    (hB : w.cell? ⟨B, 0, none⟩ = some (.func (.func g) #[] lb)) (hp : PredOn Try.prog g lb (One (Kd.int .i64)) p l w) :
    PredOn Try.prog 60 #[.pointer (some ⟨B, 0, none⟩)] (One (Kd.int .i64)) (fun x => !p x) l w := by
  intro W x v hx hW hv
  obtain ⟨c0_, rfl⟩ : ∃ c0_, c0_ = v := ⟨_, rfl⟩
  have hB' : W.cell? ⟨B, 0, none⟩ = some (.func (.func g) #[] lb) := pw_cell_below hW hB
  have HP := Aside0.mk hp
  clear hp hB
  obtain ⟨b, hb⟩ : ∃ b, b = p x := ⟨_, rfl⟩
  have hb0 := Aside0.mk hb
  have HV := Aside0.mk hv
  have HWW := Aside0.mk hW
  clear hv hW
  show Calls Try.prog 60 #[c0_, .pointer (some ⟨B, 0, none⟩)] W fun e W' => e = .returned (.bool (!p x)) ∧ Below W.heap.size W W'
  rw [← hb]
  clear hb
  cases b with
  | true =>
    go_enter Try.func60, Try.ntmps60
    go_wp2_with (go_at_fn g; refine (HP.out _ x _ hx HWW.out HV.out).mono ?_; rw [← hb0.out]; rintro e w' ⟨rfl, hb'⟩)
    go_ret
    exact ⟨rfl, hb'⟩
  | false =>
    go_enter Try.func60, Try.ntmps60
    go_wp2_with (go_at_fn g; refine (HP.out _ x _ hx HWW.out HV.out).mono ?_; rw [← hb0.out]; rintro e w' ⟨rfl, hb'⟩)
    go_ret
    exact ⟨rfl, hb'⟩

/-! ### areAll_Int: function 44 -/
set_option maxHeartbeats 4000000 in
set_option maxRecDepth 100000 in
theorem areAll_Int.calls (A : Option Addr) (c : Nat) (l : List (Int)) (g : Nat) (lb : Array Value) (p : Int → Bool) (w : World) (eg : ∀ args w, (callFunc g args).run Try.prog w = .ok (.enter g args) w)
    (hr : Kd.C (Kd.int .i64) w A l.length l) (hp : PredOn Try.prog g lb (One (Kd.int .i64)) p l w) :
    Calls Try.prog 44 #[.slice A l.length c, .func (.func g) #[] lb] w fun e w' => e = .returned (.bool (l.all p)) ∧ Below w.heap.size w w' := by
  have hb1 : Below w.heap.size w (w.alloc (.cells #[.func (.func g) #[] lb] 67)) := below_alloc (Below.refl _ _) _
  have hp1 := areAll1_Int.pred w.heap.size l g lb p (w.alloc (.cells #[.func (.func g) #[] lb] 67)) eg (by simp) (hp.grown hb1)
  have HR := Aside0.mk (Kd.C_below hr hb1)
  have HP := Aside0.mk hp1
  have HB1 := Aside0.mk hb1
  clear hr hp hp1 hb1
  obtain ⟨b, hb⟩ : ∃ b, b = l.any (fun x => !p x) := ⟨_, rfl⟩
  have hall : l.all p = !b := by rw [hb, List.all_eq_not_any_not]
  rw [hall]
  have hb0 := Aside0.mk hb
  clear hb hall
  have e1 := enters_of Try.func60 (by kernel_rfl) rfl
  cases b with
  | true =>
    go_enter Try.func44, Try.ntmps44
    go_wp2_with (go_at_call 59; refine (anyf_Int.calls A c l _ _ _ _ e1 HR.out HP.out).mono ?_; rw [← hb0.out]; rintro e w' ⟨rfl, hb'⟩)
    go_ret
    exact ⟨rfl, below_step HB1.out hb'⟩
  | false =>
    go_enter Try.func44, Try.ntmps44
    go_wp2_with (go_at_call 59; refine (anyf_Int.calls A c l _ _ _ _ e1 HR.out HP.out).mono ?_; rw [← hb0.out]; rintro e w' ⟨rfl, hb'⟩)
    go_ret
    exact ⟨rfl, below_step HB1.out hb'⟩

/-! ### impl_set_list: function 35 -/
def impl_set_list.l0 : Nat→Int→List Int→Int→Option (List Int)
 | 0,_,_,_=>none
 | k + 1,x0,x3,x4=>if 0≤x4 then (if (shr .i64 x0 x4)=0 then (some x3) else (if (Go.bits .and .i64 (shr .i64 x0 x4) 1)=1 then (if x3.length < 17592186044416 then (impl_set_list.l0 k x0 (x3 ++ [x4]) (wrap64 (x4 + 1))) else (none)) else (impl_set_list.l0 k x0 x3 (wrap64 (x4 + 1))))) else (none)
def impl_set_list.f (k:Nat) (a0:Int):Option (List Int):=impl_set_list.l0 k a0 ([]:List Int) 0
theorem impl_set_list.mono_l : ∀ k,(∀ y0 y1 y2,LeO (impl_set_list.l0 k y0 y1 y2) (impl_set_list.l0 (k + 1) y0 y1 y2))
 | 0=>fun _ _ _ r h=>by simp [impl_set_list.l0] at h
 | k + 1=>by
  have ih0:=impl_set_list.mono_l k
  ·intro y0 y1 y2;unfold impl_set_list.l0
   repeat' first
   | (with_reducible exact ih0 _ _ _)
   | (with_reducible exact LeO.refl _)
   | (with_reducible exact LeO.none _)
   | (with_reducible refine LeO.ite ?_ ?_)
   | (with_reducible refine LeO.bind ?_ (fun _=>?_))
   | exact ih0 _ _ _
   | exact LeO.none _
   | refine LeO.ite ?_ ?_
   | refine LeO.bind ?_ (fun _=>?_)
theorem impl_set_list.mono : ∀ a0 k,LeO (impl_set_list.f k a0) (impl_set_list.f (k + 1) a0):=by
 intro a0 k;have ih0:=impl_set_list.mono_l k;unfold impl_set_list.f
 repeat' first
   | (with_reducible exact ih0 _ _ _)
   | (with_reducible exact LeO.refl _)
   | (with_reducible exact LeO.none _)
   | (with_reducible refine LeO.ite ?_ ?_)
   | (with_reducible refine LeO.bind ?_ (fun _=>?_))
   | exact ih0 _ _ _
   | exact LeO.none _
   | refine LeO.ite ?_ ?_
   | refine LeO.bind ?_ (fun _=>?_)
set_option maxHeartbeats 8000000 in
set_option maxRecDepth 100000 in
theorem impl_set_list.calls (k:Nat) (a0:Int) (r:List Int) (w:World) (h:impl_set_list.f k a0=some r) :
  Calls Try.prog 35 #[.int .i64 a0] w fun e w'=>∃ v0_:Value,e=.returned (v0_)∧Kd.R (Kd.int .i64) 3 w' w.heap.size (fun _=>True) v0_ r∧Below w.heap.size w w':=by
 have HB:=qK (Below.refl w.heap.size w);have H:(impl_set_list.l0 k a0 ([]:List Int) 0)=some r:=h;clear h;have H':=qK H;clear H;go_enter Try.func35,Try.ntmps35
 go_wp2
 go_loopg [3,4] k (fun kq v3 v4 w'=>∃ (x3_1:List Int) (x4_1:Int),v4=.int .i64 x4_1∧Aside0 (impl_set_list.l0 kq a0 x3_1 x4_1=some r)∧Aside0 (kq≤k)∧Aside0 (Kd.R (Kd.int .i64) 3 w' w.heap.size (fun _=>True) v3 x3_1)∧Aside0 (Below w.heap.size w w'))
 case atStart=>exact ⟨(([]:List Int)),(0),(by first|rfl|(simp;done)|(simp [*];done)),H',⟨Nat.le_refl _⟩,⟨by first|exact Kd.R_nil _ _ _ _ _|exact Kd.N_nil _ _ _ _ _|exact Kd.V_nil _ _ _ _ _|exact Kd.Q_nil _ _ _ _ _|exact Kd.S_nil _ _ _ _ _⟩,⟨by repeat (first|(with_reducible first|exact HB.out|apply qA|apply qD|apply qO)|exact HB.out)⟩⟩
 case round =>
  clear H';obtain ⟨x3_1,x4_1,rfl,HA,HK1,HO_3,HB⟩:=hrel;cases gk with
  | zero=>exact absurd HA.out (by simp [impl_set_list.l0])
  | succ k1 =>
   have H:=HA.out;clear HA;simp only [impl_set_list.l0] at H;by_cases c2:0≤x4_1
   ·rw [if_pos c2] at H;have c2b0:=eq_true c2;have c2b1:decide (0≤x4_1)=true:=decide_eq_true c2;clear c2;obtain ⟨ji3,hji3⟩:∃ j_:Int,(shr .i64 a0 x4_1)=j_:=⟨_,rfl⟩;replace H:(if (ji3)=0 then (some x3_1) else (if (Go.bits .and .i64 (ji3) 1)=1 then (if x3_1.length < 17592186044416 then (impl_set_list.l0 k1 a0 (x3_1 ++ [x4_1]) (wrap64 (x4_1 + 1))) else (none)) else (impl_set_list.l0 k1 a0 x3_1 (wrap64 (x4_1 + 1)))))=some r:=by first|(rw [hji3] at H;exact H)|(simp only [hji3] at H ⊢;exact H)
    have hji3_:(a0 / 2 ^ min x4_1.toNat 64)=ji3:=hji3;have hji3z:x4_1≤64→(a0 / 2 ^ x4_1.toNat)=ji3:=shr_small hji3;by_cases c4:(ji3)=0
    ·rw [if_pos c4] at H;have c4b0:((ji3) == 0)=true:=beq_iff_eq.mpr c4;have c4b1:((ji3) != 0)=false:=bne_eq_false_iff_eq.mpr c4;clear c4;obtain rfl:=Option.some.inj H;go_wp2
     go_ret
     exact ⟨_,by first|rfl|(simp [errW_none,errW_some] <;> rfl)|(simp only [← hji3];first|rfl|(simp [errW_none,errW_some] <;> rfl))|(simp [*,errW_none,errW_some] <;> rfl),by (with_reducible repeat (first|apply rL|apply rN|apply rW));exact HO_3.out,by repeat (first|(with_reducible first|exact HB.out|apply qA|apply qD|apply qO)|exact HB.out)⟩
    ·rw [if_neg c4] at H;have c4b0:((ji3) == 0)=false:=beq_eq_false_iff_ne.mpr c4;have c4b1:((ji3) != 0)=true:=bne_iff_ne.mpr c4;have c5b0:=eq_true (of_decide_eq_true (by first|(with_reducible assumption)|assumption):0≤x4_1);by_cases c6:(Go.bits .and .i64 (ji3) 1)=1
     ·rw [if_pos c6] at H;have c6b0:((Go.bits .and .i64 (ji3) 1) == 1)=true:=beq_iff_eq.mpr c6;have c6b1:((Go.bits .and .i64 (ji3) 1) != 1)=false:=bne_eq_false_iff_eq.mpr c6;clear c6;by_cases c7:x3_1.length < 17592186044416
      ·rw [if_pos c7] at H;have LMc7:=qK c7;clear c7;obtain ⟨y199,hy199⟩:∃ y_:List Int,y_=(x3_1 ++ [x4_1]):=⟨_,rfl⟩;replace H:(impl_set_list.l0 k1 a0 y199 (wrap64 (x4_1 + 1)))=some r:=by first|(rw [hy199];with_reducible exact H)|(have H2_:=(Option.bind_some _ _).symm.trans H;rw [hy199];with_reducible exact H2_)|(have H2_:=(Option.bind_some _ _).symm.trans H;with_reducible exact H2_)|with_reducible exact H|(rw [hy199];exact H)|exact H
       have Ny199:=qK hy199;clear hy199;have H':=qK H;clear H;go_wp2_with (first|((with_reducible refine gate_builtin (b:=.append) (xs:=#[.tmp 16,.tmp 18]) rfl ?_);at_builtin;refine Kd.R_append (Kd.int .i64) (w0:=w) w.heap.size rfl (.tmp 16) (.tmp 18) 23 3 (.int .i64 0) 8 rfl Try.underlying23 info3 rfl (by decide) (by omega) u3 x3_1 x4_1 [.int .i64 x4_1] (fun _=>True) (fun _=>False) rfl rfl ?aP (fun _ hk=>hk.elim) ?aF ?aO ?aB ?aS ?aL ?_;(case aP=>exact rfl);(case aB=>exact (by repeat (with_reducible first|exact HB.out|apply qA|apply qD|apply qO)));(case aF=>exact (fun _ _=>trivial));(case aO=>exact (by (with_reducible repeat (first|apply rL|apply rN|apply rW));exact HO_3.out));(case aS=>exact (qZ (by repeat (with_reducible first|exact HB.out|apply qA|apply qD|apply qO))));(case aL=>have:=LMc7.out;omega);intro v200 w8 ho hb hg hat;rw [← Ny199.out] at ho;have n0_:=qK (hb);have n1_:=qK (ho);clear HB;clear HO_3;have HB:=n0_;have HO201:=n1_;clear n0_ n1_;clear ho hb hg hat))
       go_roundg k1
       case measure=>have:=HK1.out;omega
       case rel=>exact ⟨(y199),(wrap64 (x4_1 + 1)),(by first|rfl|(simp;done)|(simp [*];done)),H',⟨by have:=HK1.out;omega⟩,⟨by (with_reducible repeat (first|apply rL|apply rN|apply rW));exact HO201.out⟩,⟨by repeat (first|(with_reducible first|exact HB.out|apply qA|apply qD|apply qO)|exact HB.out)⟩⟩
      ·rw [if_neg c7] at H;exact absurd H (by simp)
     ·rw [if_neg c6] at H;have c6b0:((Go.bits .and .i64 (ji3) 1) == 1)=false:=beq_eq_false_iff_ne.mpr c6;have c6b1:((Go.bits .and .i64 (ji3) 1) != 1)=true:=bne_iff_ne.mpr c6;have H':=qK H;clear H;go_wp2
      go_roundg k1
      case measure=>have:=HK1.out;omega
      case rel=>exact ⟨(x3_1),(wrap64 (x4_1 + 1)),(by first|rfl|(simp;done)|(simp [*];done)),H',⟨by have:=HK1.out;omega⟩,⟨by (with_reducible repeat (first|apply rL|apply rN|apply rW));exact HO_3.out⟩,⟨by repeat (first|(with_reducible first|exact HB.out|apply qA|apply qD|apply qO)|exact HB.out)⟩⟩
   ·rw [if_neg c2] at H;exact absurd H (by simp)

-- NOT PRINTED: function 63 (slices_Grow_int_int)

/-! ### grow0_Int: function 63, handed function None -/
def grow0_Int.f (n : Int) : Option (List Int) := if 0 ≤ n ∧ n < 1000000000 then some [] else none
set_option maxHeartbeats 4000000 in
set_option maxRecDepth 100000 in
theorem grow0_Int.calls (n : Int) (r : List Int) (w : World) (h : grow0_Int.f n = some r) :
    Calls Try.prog 63 #[.slice none 0 0, .int .i64 n] w fun e w' => ∃ v0_ : Value, e = .returned (v0_) ∧ Kd.R (Kd.int .i64) 3 w' w.heap.size (fun _ => True) v0_ r ∧ Below w.heap.size w w' := by
  unfold grow0_Int.f at h
  split at h
  case isFalse => cases h
  case isTrue hn =>
    obtain ⟨hn0, hn1⟩ := hn
    obtain rfl : [] = r := Option.some.inj h
    clear h
    have HB := Aside0.mk (Below.refl w.heap.size w)
    have hlt : ¬ n < 0 := by omega
    by_cases hp : 0 < n
    · go_enter Try.func63, Try.ntmps63
      go_wp2_with (at_builtin; refine Kd.R_append_zeros (Kd.int .i64) (w0 := w) w.heap.size rfl (.tmp 20) (.tmp 21) 23 3 3 (.int .i64 0) 8 rfl Try.underlying23 Try.underlying3 info3 rfl (by decide) (by omega) (.slice none 0 0) [] 0 n (fun _ => True) rfl rfl rfl (fun _ _ => trivial) (Kd.R_nil _ _ _ _ _) hn0 HB.out (Nat.le_refl _) (by simp; omega) ?_; intro v1 w1 hR hb1 hg1 hat; obtain ⟨A1, c1, ev1⟩ := Kd.R_slice hR; subst ev1; have HR1 := Aside0.mk hR; have HB1 := Aside0.mk hb1; obtain ⟨i0_, hi0_, _, hsz_, _⟩ := info_parts info3; have hcut := cut_to (P := Try.prog) 23 3 .i64 Try.underlying23 hi0_ A1 _ c1 (0 : Int) (by omega) (Int.natCast_nonneg _) (Kd.R_reads' hR).2.1; clear hR hb1 hg1 hat)
      go_ret
      exact ⟨_, rfl, by have h_ := Kd.R_take (m := 0) HR1.out (Nat.zero_le _); simpa using h_, HB1.out⟩
    · obtain rfl : n = 0 := by omega
      go_enter Try.func63, Try.ntmps63
      go_wp2
      go_ret
      exact ⟨_, rfl, Kd.R_nil _ _ _ _ _, HB.out⟩

/-! ### slices_Concat_int_int: function 56 -/
mutual
def slices_Concat_int_int.l0 : Nat→List (List Int)→Int→List (List Int)→Int→Int→Option (List Int)
 | 0,_,_,_,_,_=>none
 | k + 1,x0,x3,x9,x10,x11=>if x11 < x10 then (if 0≤x11 then (if x11 < (x9.length:Int) then (if (wrap64 (x3 + ((rd_L3 x9 x11).length:Int))) < 0 then (none) else (slices_Concat_int_int.l0 k x0 (wrap64 (x3 + ((rd_L3 x9 x11).length:Int))) x9 x10 (wrap64 (x11 + 1)))) else (none)) else (none)) else ((grow0_Int.f x3).bind fun t203=>(slices_Concat_int_int.l1 k t203 x0 (x0.length:Int) 0))
def slices_Concat_int_int.l1 : Nat→List Int→List (List Int)→Int→Int→Option (List Int)
 | 0,_,_,_,_=>none
 | k + 1,x6,x25,x26,x27=>if x27 < x26 then (if 0≤x27 then (if x27 < (x25.length:Int) then (if x6.length + (rd_L3 x25 x27).length < 17592186044416 then (slices_Concat_int_int.l1 k (x6 ++ (rd_L3 x25 x27)) x25 x26 (wrap64 (x27 + 1))) else (none)) else (none)) else (none)) else (some x6)
end
def slices_Concat_int_int.f (k:Nat) (l0:List (List Int)):Option (List Int):=slices_Concat_int_int.l0 k l0 0 l0 (l0.length:Int) 0
theorem slices_Concat_int_int.mono_l : ∀ k,(∀ y0 y1 y2 y3 y4,LeO (slices_Concat_int_int.l0 k y0 y1 y2 y3 y4) (slices_Concat_int_int.l0 (k + 1) y0 y1 y2 y3 y4))∧(∀ y0 y1 y2 y3,LeO (slices_Concat_int_int.l1 k y0 y1 y2 y3) (slices_Concat_int_int.l1 (k + 1) y0 y1 y2 y3))
 | 0=>⟨fun _ _ _ _ _ r h=>by simp [slices_Concat_int_int.l0] at h,fun _ _ _ _ r h=>by simp [slices_Concat_int_int.l1] at h⟩
 | k + 1=>by
  obtain ⟨ih0,ih1⟩:=slices_Concat_int_int.mono_l k;refine ⟨?_,?_⟩
  ·intro y0 y1 y2 y3 y4;unfold slices_Concat_int_int.l0
   repeat' first
   | (with_reducible exact ih0 _ _ _ _ _)
   | (with_reducible exact ih1 _ _ _ _)
   | (with_reducible exact LeO.refl _)
   | (with_reducible exact LeO.none _)
   | (with_reducible refine LeO.ite ?_ ?_)
   | (with_reducible refine LeO.bind ?_ (fun _=>?_))
   | exact ih0 _ _ _ _ _
   | exact ih1 _ _ _ _
   | exact LeO.none _
   | refine LeO.ite ?_ ?_
   | refine LeO.bind ?_ (fun _=>?_)
  ·intro y0 y1 y2 y3;unfold slices_Concat_int_int.l1
   repeat' first
   | (with_reducible exact ih0 _ _ _ _ _)
   | (with_reducible exact ih1 _ _ _ _)
   | (with_reducible exact LeO.refl _)
   | (with_reducible exact LeO.none _)
   | (with_reducible refine LeO.ite ?_ ?_)
   | (with_reducible refine LeO.bind ?_ (fun _=>?_))
   | exact ih0 _ _ _ _ _
   | exact ih1 _ _ _ _
   | exact LeO.none _
   | refine LeO.ite ?_ ?_
   | refine LeO.bind ?_ (fun _=>?_)
theorem slices_Concat_int_int.mono : ∀ a0 k,LeO (slices_Concat_int_int.f k a0) (slices_Concat_int_int.f (k + 1) a0):=by
 intro a0 k;obtain ⟨ih0,ih1⟩:=slices_Concat_int_int.mono_l k;unfold slices_Concat_int_int.f
 repeat' first
   | (with_reducible exact ih0 _ _ _ _ _)
   | (with_reducible exact ih1 _ _ _ _)
   | (with_reducible exact LeO.refl _)
   | (with_reducible exact LeO.none _)
   | (with_reducible refine LeO.ite ?_ ?_)
   | (with_reducible refine LeO.bind ?_ (fun _=>?_))
   | exact ih0 _ _ _ _ _
   | exact ih1 _ _ _ _
   | exact LeO.none _
   | refine LeO.ite ?_ ?_
   | refine LeO.bind ?_ (fun _=>?_)
set_option maxHeartbeats 8000000 in
set_option maxRecDepth 100000 in
theorem slices_Concat_int_int.calls (k:Nat) (A0:Option Addr) (c0:Nat) (l0:List (List Int)) (r:List Int) (w:World) (hr0:Kd.C (Kd.slice 3 (Kd.int .i64)) w A0 l0.length l0) (hc0:l0.length≤c0) (h:slices_Concat_int_int.f k l0=some r) :
  Calls Try.prog 56 #[.slice A0 l0.length c0] w fun e w'=>∃ v0_:Value,e=.returned (v0_)∧Kd.R (Kd.int .i64) 3 w' w.heap.size (fun _=>True) v0_ r∧Below w.heap.size w w':=by
 have HR0:=qK hr0;have HC0:=qK hc0;clear hr0 hc0;have HB:=qK (Below.refl w.heap.size w);have H:(slices_Concat_int_int.l0 k l0 0 l0 (l0.length:Int) 0)=some r:=h;clear h;have H':=qK H;clear H;go_enter Try.func56,Try.ntmps56
 go_wp2
 go_loopg [3,11] k (fun kq v3 v11 w'=>∃ (x3_1:Int) (x11_1:Int),v3=.int .i64 x3_1∧v11=.int .i64 x11_1∧Aside0 (slices_Concat_int_int.l0 kq l0 x3_1 l0 (l0.length:Int) x11_1=some r)∧Aside0 (kq≤k)∧Aside0 (Below w.heap.size w w'))
 case atStart=>exact ⟨(0),(0),(by first|rfl|(simp;done)|(simp [*];done)),(by first|rfl|(simp;done)|(simp [*];done)),H',⟨Nat.le_refl _⟩,⟨by repeat (first|(with_reducible first|exact HB.out|apply qA|apply qD|apply qO)|exact HB.out)⟩⟩
 case round =>
  clear H';obtain ⟨x3_1,x11_1,rfl,rfl,HA,HK1,HB⟩:=hrel;cases gk with
  | zero=>exact absurd HA.out (by simp [slices_Concat_int_int.l0])
  | succ k1 =>
   have H:=HA.out;clear HA;simp only [slices_Concat_int_int.l0] at H;by_cases c2:x11_1 < (l0.length:Int)
   ·rw [if_pos c2] at H;have c2b0:decide (x11_1 < (l0.length:Int))=true:=decide_eq_true c2;clear c2;by_cases c3:0≤x11_1
    ·rw [if_pos c3] at H;have c3b0:decide (0≤x11_1)=true:=decide_eq_true c3;clear c3;by_cases c4:x11_1 < (l0.length:Int)
     ·rw [if_pos c4] at H;have c4b0:decide (x11_1 < (l0.length:Int))=true:=decide_eq_true c4;clear c4;by_cases c5:(wrap64 (x3_1 + ((rd_L3 l0 x11_1).length:Int))) < 0
      ·rw [if_pos c5] at H;exact absurd H (by simp)
      ·rw [if_neg c5] at H;have c5b0:decide ((wrap64 (x3_1 + ((rd_L3 l0 x11_1).length:Int))) < 0)=false:=decide_eq_false c5;clear c5;have H':=qK H;clear H;have p202:0≤(x11_1:Int):=of_decide_eq_true (by first|(with_reducible assumption)|assumption);have q202:x11_1 < (l0.length:Int):=of_decide_eq_true (by first|(with_reducible assumption)|assumption);obtain ⟨ad202,A202_0,c202_0,e202,hx202_0,hl202_0,hi202_0⟩:=at_L3 HR0.out x11_1 p202 q202;cases e202
       replace hx202_0:=(HB.out.cell (World.block_lt_of_cell? w _ hx202_0)).trans hx202_0;have HR202_0:=qK hi202_0;have HC202_0:=qK hl202_0;clear hi202_0 hl202_0;replace p202:=eq_true p202;replace q202:=eq_true q202;go_wp2
       go_roundg k1
       case measure=>have:=HK1.out;omega
       case rel=>exact ⟨(wrap64 (x3_1 + ((rd_L3 l0 x11_1).length:Int))),(wrap64 (x11_1 + 1)),(by first|rfl|(simp;done)|(simp [*];done)),(by first|rfl|(simp;done)|(simp [*];done)),H',⟨by have:=HK1.out;omega⟩,⟨by repeat (first|(with_reducible first|exact HB.out|apply qA|apply qD|apply qO)|exact HB.out)⟩⟩
     ·rw [if_neg c4] at H;exact absurd H (by simp)
    ·rw [if_neg c3] at H;exact absurd H (by simp)
   ·rw [if_neg c2] at H;have c2b0:decide (x11_1 < (l0.length:Int))=false:=decide_eq_false c2;clear c2;replace H:=Option.bind_eq_some_iff.mp H;obtain ⟨t203,A60,H⟩:=H;replace H:(slices_Concat_int_int.l1 k1 t203 l0 (l0.length:Int) 0)=some r:=H;have A6:=qK A60;clear A60;have H':=qK H;clear H;go_wp2_with (first|((with_reducible refine gate_callee (f:=63) rfl ?_);refine goesL_ (some 24) rfl rfl Try.func63 (by kernel_rfl) rfl #[.slice none 0 0,.int .i64 x3_1] rfl (by (try simp only [mT,mC,mN]);first|done|rfl|(simp only [lD,lT];rfl)) ?_;(with_reducible refine (grow0_Int.calls  x3_1 t203 _ A6.out).mono ?_);rintro e w7 ⟨v204,rfl,ho0,hb⟩;refine ⟨_,rfl,?_⟩;have n0_:=qK (Kd.R_lower ho0 (qZ (by repeat (with_reducible first|exact HB.out|apply qA|apply qD|apply qO))));have n1_:=qK (qT (by repeat (with_reducible first|exact HB.out|apply qA|apply qD|apply qO)) hb);clear HB;have HO205:=n0_;have HB:=n1_;clear n0_ n1_;(try clear hb);(try clear ho0)))
    go_loopg [6,27] k1 (fun kq v6 v27 w'=>∃ (x6_2:List Int) (x27_2:Int),v27=.int .i64 x27_2∧Aside0 (slices_Concat_int_int.l1 kq x6_2 l0 (l0.length:Int) x27_2=some r)∧Aside0 (kq≤k1)∧Aside0 (Kd.R (Kd.int .i64) 3 w' w.heap.size (fun _=>True) v6 x6_2)∧Aside0 (Below w.heap.size w w'))
    case atStart=>exact ⟨(t203),(0),(by first|rfl|(simp;done)|(simp [*];done)),H',⟨Nat.le_refl _⟩,⟨by (with_reducible repeat (first|apply rL|apply rN|apply rW));exact HO205.out⟩,⟨by repeat (first|(with_reducible first|exact HB.out|apply qA|apply qD|apply qO)|exact HB.out)⟩⟩
    case round =>
     clear H';try clear c2
     try clear c2b0
     try clear p2
     try clear q2
     try clear hx2
     try clear c3
     try clear c3b0
     try clear c4
     try clear c4b0
     try clear c5
     try clear c5b0
     try clear c6
     try clear p6
     try clear hx202_0
     try clear p202
     try clear q202
     obtain ⟨x6_2,x27_2,rfl,HA,HK2,HO_6,HB⟩:=hrel;cases gk with
     | zero=>exact absurd HA.out (by simp [slices_Concat_int_int.l1])
     | succ k2 =>
      have H:=HA.out;clear HA;simp only [slices_Concat_int_int.l1] at H;by_cases c8:x27_2 < (l0.length:Int)
      ·rw [if_pos c8] at H;have c8b0:decide (x27_2 < (l0.length:Int))=true:=decide_eq_true c8;clear c8;by_cases c9:0≤x27_2
       ·rw [if_pos c9] at H;have c9b0:decide (0≤x27_2)=true:=decide_eq_true c9;clear c9;by_cases c10:x27_2 < (l0.length:Int)
        ·rw [if_pos c10] at H;have c10b0:decide (x27_2 < (l0.length:Int))=true:=decide_eq_true c10;clear c10;by_cases c11:x6_2.length + (rd_L3 l0 x27_2).length < 17592186044416
         ·rw [if_pos c11] at H;have LMc11:=qK c11;clear c11;obtain ⟨y207,hy207⟩:∃ y_:List Int,y_=(x6_2 ++ (rd_L3 l0 x27_2)):=⟨_,rfl⟩;replace H:(slices_Concat_int_int.l1 k2 y207 l0 (l0.length:Int) (wrap64 (x27_2 + 1)))=some r:=by first|(rw [hy207];with_reducible exact H)|(have H2_:=(Option.bind_some _ _).symm.trans H;rw [hy207];with_reducible exact H2_)|(have H2_:=(Option.bind_some _ _).symm.trans H;with_reducible exact H2_)|with_reducible exact H|(rw [hy207];exact H)|exact H
          have Ny207:=qK hy207;clear hy207;have H':=qK H;clear H;have p206:0≤(x27_2:Int):=of_decide_eq_true (by first|(with_reducible assumption)|assumption);have q206:x27_2 < (l0.length:Int):=of_decide_eq_true (by first|(with_reducible assumption)|assumption);obtain ⟨ad206,A206_0,c206_0,e206,hx206_0,hl206_0,hi206_0⟩:=at_L3 HR0.out x27_2 p206 q206;cases e206
          replace hx206_0:=(HB.out.cell (World.block_lt_of_cell? w _ hx206_0)).trans hx206_0;have HR206_0:=qK hi206_0;have HC206_0:=qK hl206_0;clear hi206_0 hl206_0;replace p206:=eq_true p206;replace q206:=eq_true q206;go_wp2_with (first|((with_reducible refine gate_builtin (b:=.append) (xs:=#[.tmp 31,.tmp 32]) rfl ?_);at_builtin;refine Kd.R_append_rows (Kd.int .i64) (w0:=w) w.heap.size rfl (.tmp 31) (.tmp 32) 23 3 (.int .i64 0) 8 rfl Try.underlying23 info3 rfl (by decide) (by omega) u6 x6_2 (rd_L3 l0 x27_2) _ _ _ (fun _=>True) (fun _=>False) rfl rfl ?aO ?aR (fun _ _ h=>h) (fun _ h=>h.elim) ?aF ?aB ?aS ?aL ?_;(case aR=>repeat (first|exact (cB HR206_0.out HB.out)|(with_reducible first|refine cL ?_ _|refine cN ?_ _|refine cW ?_)));(case aB=>exact (by repeat (with_reducible first|exact HB.out|apply qA|apply qD|apply qO)));(case aF=>exact (fun _ _=>trivial));(case aO=>exact (by (with_reducible repeat (first|apply rL|apply rN|apply rW));exact HO_6.out));(case aS=>exact (qZ (by repeat (with_reducible first|exact HB.out|apply qA|apply qD|apply qO))));(case aL=>have:=LMc11.out;omega);intro v208 w12 ho hb hg hat;rw [← Ny207.out] at ho;have n0_:=qK (hb);have n1_:=qK (ho);clear HB;clear HO_6;have HB:=n0_;have HO209:=n1_;clear n0_ n1_;clear ho hb hg hat))
          go_roundg k2
          case measure=>have:=HK1.out;have:=HK2.out;omega
          case rel=>exact ⟨(y207),(wrap64 (x27_2 + 1)),(by first|rfl|(simp;done)|(simp [*];done)),H',⟨by have:=HK1.out;have:=HK2.out;omega⟩,⟨by (with_reducible repeat (first|apply rL|apply rN|apply rW));exact HO209.out⟩,⟨by repeat (first|(with_reducible first|exact HB.out|apply qA|apply qD|apply qO)|exact HB.out)⟩⟩
         ·rw [if_neg c11] at H;exact absurd H (by simp)
        ·rw [if_neg c10] at H;exact absurd H (by simp)
       ·rw [if_neg c9] at H;exact absurd H (by simp)
      ·rw [if_neg c8] at H;have c8b0:decide (x27_2 < (l0.length:Int))=false:=decide_eq_false c8;clear c8;obtain rfl:=Option.some.inj H;go_wp2
       go_ret
       exact ⟨_,by first|rfl|(simp [errW_none,errW_some] <;> rfl)|(simp [*,errW_none,errW_some] <;> rfl),by (with_reducible repeat (first|apply rL|apply rN|apply rW));exact HO_6.out,by repeat (first|(with_reducible first|exact HB.out|apply qA|apply qD|apply qO)|exact HB.out)⟩

/-! ### impl_Locks_over: function 41 -/
def impl_Locks_over.f (k:Nat) (l0_0:List (S47)) (l0_1:List (S47)) (l0_2:List (S47)) (l0_3:List Int) (l0_4:List Int):Option (List Int):=(slices_Concat_int_int.f k (([l0_3,l0_4]:List (List Int)))).bind fun t214=>(some t214)
theorem impl_Locks_over.mono : ∀ a0 a1 a2 a3 a4 k,LeO (impl_Locks_over.f k a0 a1 a2 a3 a4) (impl_Locks_over.f (k + 1) a0 a1 a2 a3 a4):=by
 intro a0 a1 a2 a3 a4 k;unfold impl_Locks_over.f
 repeat' first
   | (with_reducible exact slices_Concat_int_int.mono _ _)
   | (with_reducible exact LeO.refl _)
   | (with_reducible exact LeO.none _)
   | (with_reducible refine LeO.ite ?_ ?_)
   | (with_reducible refine LeO.bind ?_ (fun _=>?_))
   | exact slices_Concat_int_int.mono _ _
   | exact LeO.none _
   | refine LeO.ite ?_ ?_
   | refine LeO.bind ?_ (fun _=>?_)
set_option maxHeartbeats 8000000 in
set_option maxRecDepth 100000 in
theorem impl_Locks_over.calls (k:Nat) (A0_0:Option Addr) (c0_0:Nat) (l0_0:List (S47)) (A0_1:Option Addr) (c0_1:Nat) (l0_1:List (S47)) (A0_2:Option Addr) (c0_2:Nat) (l0_2:List (S47)) (P0_3_:Nat→Prop) (A0_3:Option Addr) (c0_3:Nat) (l0_3:List Int) (P0_4_:Nat→Prop) (A0_4:Option Addr) (c0_4:Nat) (l0_4:List Int) (r:List Int) (w:World) (hr0_0:Kd.C k47 w A0_0 l0_0.length l0_0) (hc0_0:l0_0.length≤c0_0) (hr0_1:Kd.C k47 w A0_1 l0_1.length l0_1) (hc0_1:l0_1.length≤c0_1) (hr0_2:Kd.C k47 w A0_2 l0_2.length l0_2) (hc0_2:l0_2.length≤c0_2) (hs0_3:Kd.V (Kd.int .i64) 3 w w.heap.size (fun k_=>P0_3_ k_) (.slice A0_3 l0_3.length c0_3) l0_3) (hs0_4:Kd.V (Kd.int .i64) 3 w w.heap.size (fun k_=>P0_4_ k_) (.slice A0_4 l0_4.length c0_4) l0_4) (h:impl_Locks_over.f k l0_0 l0_1 l0_2 l0_3 l0_4=some r) :
  Calls Try.prog 41 #[.agg #[.slice A0_0 l0_0.length c0_0,.slice A0_1 l0_1.length c0_1,.slice A0_2 l0_2.length c0_2,.slice A0_3 l0_3.length c0_3,.slice A0_4 l0_4.length c0_4]] w fun e w'=>∃ v0_:Value,e=.returned (v0_)∧Kd.R (Kd.int .i64) 3 w' w.heap.size (fun k_=>(w.heap.size≤k_)) v0_ r∧Below w.heap.size w w':=by
 have hu31:=Try.underlying31;have HR0_0:=qK hr0_0;have HC0_0:=qK hc0_0;clear hr0_0 hc0_0;have HR0_1:=qK hr0_1;have HC0_1:=qK hc0_1;clear hr0_1 hc0_1;have HR0_2:=qK hr0_2;have HC0_2:=qK hc0_2;clear hr0_2 hc0_2;have HO0_3:=qK (show Kd.V (Kd.int .i64) 3 w w.heap.size (fun k_=>((P0_3_ k_ ∨ P0_4_ k_) ∨ w.heap.size≤k_)) (.slice A0_3 l0_3.length c0_3) l0_3 from Kd.V_mono hs0_3 (fun k_ hk=>.inl (.inl hk)));have HO0_4:=qK (show Kd.V (Kd.int .i64) 3 w w.heap.size (fun k_=>((P0_3_ k_ ∨ P0_4_ k_) ∨ w.heap.size≤k_)) (.slice A0_4 l0_4.length c0_4) l0_4 from Kd.V_mono hs0_4 (fun k_ hk=>.inl (.inr hk)));have HB:=qK (Below.refl w.heap.size w);have H:((slices_Concat_int_int.f k (([l0_3,l0_4]:List (List Int)))).bind fun t214=>(some t214))=some r:=h;clear h;obtain ⟨y211,hy211⟩:∃ y_:List (List Int),y_=(([l0_3,l0_4]:List (List Int))):=⟨_,rfl⟩;replace H:((slices_Concat_int_int.f k y211).bind fun t214=>(some t214))=some r:=by first|(rw [hy211];with_reducible exact H)|(have H2_:=(Option.bind_some _ _).symm.trans H;rw [hy211];with_reducible exact H2_)|(have H2_:=(Option.bind_some _ _).symm.trans H;with_reducible exact H2_)|with_reducible exact H|(rw [hy211];exact H)|exact H
 have Ny211:=qK hy211;clear hy211;replace H:=Option.bind_eq_some_iff.mp H;obtain ⟨t214,A20,H⟩:=H;replace H:(some t214)=some r:=H;have A2:=qK A20;clear A20;obtain rfl:=Option.some.inj H;go_enter Try.func41,Try.ntmps41
 go_wp2_with (first|((with_reducible refine gate_dst (N:=1) rfl ?_);refine box_event ?hg (N:=1) ?hd (cs:=#[.slice A0_0 l0_0.length c0_0,.slice A0_1 l0_1.length c0_1,.slice A0_2 l0_2.length c0_2,.slice A0_3 l0_3.length c0_3,.slice A0_4 l0_4.length c0_4]) (t:=31) ?hr ?_;(case hd=>rfl);(case hg=>rfl);(case hr=>(go_simp;try rfl));intro gb210 hg w3 hbox hb;have n0_:=qK (Kd.V_below (Kd.V_elderB (by (with_reducible repeat (first|apply Kd.V_alloc|apply Kd.V_drewN|apply Kd.V_drew));exact HO0_3.out) gb210 (Nat.le_of_eq hg.symm)) hb);have n1_:=qK (Kd.V_below (Kd.V_elderB (by (with_reducible repeat (first|apply Kd.V_alloc|apply Kd.V_drewN|apply Kd.V_drew));exact HO0_4.out) gb210 (Nat.le_of_eq hg.symm)) hb);have n2_:=qK (qT (by repeat (with_reducible first|exact HB.out|apply qA|apply qD|apply qO)) hb);have n3_:=qK (hbox);have n4_:=qK ((by rw [hg];exact (qZ (by repeat (with_reducible first|exact HB.out|apply qA|apply qD|apply qO))):w.heap.size≤gb210));have n5_:=qK ((by rw [hg];exact (qZ (by repeat (with_reducible first|exact HB.out|apply qA|apply qD|apply qO))):w.heap.size≤gb210));clear HO0_3;clear HO0_4;clear HB;have HO0_3:=n0_;have HO0_4:=n1_;have HB:=n2_;have BK210:=n3_;have GW210:=n4_;have GE210:=n5_;clear n0_ n1_ n2_ n3_ n4_ n5_;clear hb hbox hg;have hcz4_0:w3.cell? ⟨gb210,0,none⟩=some (.slice A0_0 l0_0.length c0_0):=(qC BK210.out 0).trans rfl;have hcz4_1:w3.cell? ⟨gb210,1,none⟩=some (.slice A0_1 l0_1.length c0_1):=(qC BK210.out 1).trans rfl;have hcz4_2:w3.cell? ⟨gb210,2,none⟩=some (.slice A0_2 l0_2.length c0_2):=(qC BK210.out 2).trans rfl;have hcz4_3:w3.cell? ⟨gb210,3,none⟩=some (.slice A0_3 l0_3.length c0_3):=(qC BK210.out 3).trans rfl;have hcz4_4:w3.cell? ⟨gb210,4,none⟩=some (.slice A0_4 l0_4.length c0_4):=(qC BK210.out 4).trans rfl;have hfz4_0:=qF BK210.out 0;have hfz4_1:=qF BK210.out 1;have hfz4_2:=qF BK210.out 2;have hfz4_3:=qF BK210.out 3;have hfz4_4:=qF BK210.out 4)|((with_reducible refine gate_dst (N:=7) rfl ?_);refine Kd.N_lit (Kd.slice 3 (Kd.int .i64)) _ 23 ?hg (N':=7) ?hd (xs:=([l0_3,l0_4]:List (List Int))) (inner:=[.slice A0_3 l0_3.length c0_3,.slice A0_4 l0_4.length c0_4]) (ok:=(fun k_=>((P0_3_ k_ ∨ P0_4_ k_) ∨ w.heap.size≤k_)∧k_ ≠ gb210)) (okp:=(fun k_=>((P0_3_ k_ ∨ P0_4_ k_) ∨ w.heap.size≤k_)∧k_ ≠ gb210)) ?hr ?hp (fun _ hk=>hk) ((show ∀ k_,w3.heap.size≤k_→(fun k_=>((P0_3_ k_ ∨ P0_4_ k_) ∨ w.heap.size≤k_)∧k_ ≠ gb210) k_ from fun k_ hk=>⟨(.inr (Nat.le_trans (qZ (by repeat (with_reducible first|exact HB.out|apply qA|apply qD|apply qO|refine qS ?_ GE210.out))) hk)),Kd.freshB (g:=gb210) (o:=_) (by (with_reducible repeat (first|refine qN ?_ _|refine qW ?_|refine qL ?_ _));exact BK210.out) k_ hk⟩) _ (Nat.le_refl _)) (Below.refl _ _) (Nat.le_refl _) (by simp) ?_;(case hd=>rfl);(case hg=>rfl);(case hr=>(go_simp;try rfl));(case hp=>exact (Reps.one (show Kd.FK (Kd.slice 3 (Kd.int .i64)) _ _ l0_3 [.slice A0_3 l0_3.length c0_3] from (FK_of_V (Kd.V_mono (ok':=(fun k_=>((P0_3_ k_ ∨ P0_4_ k_) ∨ w.heap.size≤k_)∧k_ ≠ gb210)) (HO0_3.out) (fun k_ hk=>⟨hk.1,hk.2⟩)))) (Reps.one (show Kd.FK (Kd.slice 3 (Kd.int .i64)) _ _ l0_4 [.slice A0_4 l0_4.length c0_4] from (FK_of_V (Kd.V_mono (ok':=(fun k_=>((P0_3_ k_ ∨ P0_4_ k_) ∨ w.heap.size≤k_)∧k_ ≠ gb210)) (HO0_4.out) (fun k_ hk=>⟨hk.1,hk.2⟩)))) (Reps.none _ _))));intro v212 w5 ho6 hb hg_ hnew_;clear hg_ hnew_;(first|rw [← Ny211.out] at ho6|(simp only [Int.reduceToNat] at ho6;rw [← Ny211.out] at ho6));have n0_:=qK (Kd.V_elder' (by (with_reducible repeat (first|apply Kd.V_alloc|apply Kd.V_drewN|apply Kd.V_drew));exact HO0_3.out) (Kd.N_base ho6) hb);have n1_:=qK (Kd.V_elder' (by (with_reducible repeat (first|apply Kd.V_alloc|apply Kd.V_drewN|apply Kd.V_drew));exact HO0_4.out) (Kd.N_base ho6) hb);have n2_:=qK (Kd.N_lower ho6 (qZ (by repeat (with_reducible first|exact HB.out|apply qA|apply qD|apply qO|refine qS ?_ GE210.out))));have n3_:=qK (qB (g:=gb210) (o:=_) (by (with_reducible repeat (first|refine qN ?_ _|refine qW ?_|refine qL ?_ _));exact BK210.out) hb);have n4_:=qK (qT (by repeat (with_reducible first|exact HB.out|apply qA|apply qD|apply qO|refine qS ?_ GE210.out)) hb);clear HO0_3;clear HO0_4;clear BK210;clear HB;have HO0_3:=n0_;have HO0_4:=n1_;have HO213:=n2_;have BK210:=n3_;have HB:=n4_;clear n0_ n1_ n2_ n3_ n4_;clear hb ho6;obtain ⟨Ao7,co7,eo7⟩:=Kd.N_slice HO213.out;subst eo7)|((with_reducible refine gate_callee (f:=56) rfl ?_);refine goesL_ (some 8) rfl rfl Try.func56 (by kernel_rfl) rfl #[.slice Ao7 y211.length co7] rfl (by (try simp only [mT,mC,mN]);first|done|rfl|(simp only [lD,lT];rfl)) ?_;(with_reducible refine (slices_Concat_int_int.calls k _ _ y211 t214 _ ?side1 ?side2 A2.out).mono ?_);(case side1=>repeat (first|exact (Kd.N_reads' HO213.out).2.2|(with_reducible first|refine cL ?_ _|refine cN ?_ _|refine cW ?_)));(case side2=>exact (Kd.N_reads' HO213.out).2.1);rintro e w8 ⟨v215,rfl,ho0,hb⟩;refine ⟨_,rfl,?_⟩;have n0_:=qK (Kd.V_elder' (by (with_reducible repeat (first|apply Kd.V_alloc|apply Kd.V_drewN|apply Kd.V_drew));exact HO0_3.out) (Kd.R_base ho0) hb);have n1_:=qK (Kd.V_elder' (by (with_reducible repeat (first|apply Kd.V_alloc|apply Kd.V_drewN|apply Kd.V_drew));exact HO0_4.out) (Kd.R_base ho0) hb);have n2_:=qK (Kd.N_elder' (by (with_reducible repeat (first|apply Kd.N_alloc|apply Kd.N_drewN|apply Kd.N_drew));exact HO213.out) (Kd.R_base ho0) hb);have n3_:=qK (Kd.R_lower (Kd.R_newM (M:=fun k_=>(w.heap.size≤k_)) ho0 (qZ (by repeat (with_reducible first|exact HB.out|apply qA|apply qD|apply qO|refine qS ?_ GE210.out))) (fun k_ h_=>h_)) (qZ (by repeat (with_reducible first|exact HB.out|apply qA|apply qD|apply qO|refine qS ?_ GE210.out))));have n4_:=qK (qB (g:=gb210) (o:=_) (by (with_reducible repeat (first|refine qN ?_ _|refine qW ?_|refine qL ?_ _));exact BK210.out) hb);have n5_:=qK (qT (by repeat (with_reducible first|exact HB.out|apply qA|apply qD|apply qO|refine qS ?_ GE210.out)) hb);clear HO0_3;clear HO0_4;clear HO213;clear BK210;clear HB;have HO0_3:=n0_;have HO0_4:=n1_;have HO213:=n2_;have HO216:=n3_;have BK210:=n4_;have HB:=n5_;clear n0_ n1_ n2_ n3_ n4_ n5_;(try clear hb);(try clear ho0)))
 go_ret
 exact ⟨_,by first|rfl|(simp [errW_none,errW_some] <;> rfl)|(simp [*,errW_none,errW_some] <;> rfl),by (with_reducible repeat (first|apply rL|apply rN|apply rW));exact Kd.R_mono HO216.out (fun _ hk=>hk.1),by repeat (first|(with_reducible first|exact HB.out|apply qA|apply qD|apply qO|refine qS ?_ GE210.out)|exact HB.out)⟩

/-! ### impl_within: function 58 -/
def impl_within.f (a0:Int) (a1:Int) (a2:Int):Option (Bool):=if a1≤a0 then (some (decide (a0≤a2))) else (some false)
set_option maxHeartbeats 8000000 in
set_option maxRecDepth 100000 in
theorem impl_within.calls (a0:Int) (a1:Int) (a2:Int) (r:Bool) (w:World) (h:impl_within.f a0 a1 a2=some r) :
  Calls Try.prog 58 #[.int .i64 a0,.int .i64 a1,.int .i64 a2] w fun e w'=>e=.returned (.bool r)∧Drawn0 w w':=by
 have H:(if a1≤a0 then (some (decide (a0≤a2))) else (some false))=some r:=h;clear h;by_cases c4:a1≤a0
 ·rw [if_pos c4] at H;have c4b0:decide (a1≤a0)=true:=decide_eq_true c4;clear c4;obtain rfl:=Option.some.inj H;go_enter Try.func58,Try.ntmps58
  go_wp2
  go_ret
  exact ⟨by first|rfl|(simp;done)|(simp [*];done),by repeat (first|exact Drawn0.refl _|apply Drawn0.step)⟩
 ·rw [if_neg c4] at H;have c4b0:decide (a1≤a0)=false:=decide_eq_false c4;clear c4;obtain rfl:=Option.some.inj H;go_enter Try.func58,Try.ntmps58
  go_wp2
  go_ret
  exact ⟨by first|rfl|(simp;done)|(simp [*];done),by repeat (first|exact Drawn0.refl _|apply Drawn0.step)⟩

/-! ### impl_isTxn: function 45 -/
def impl_isTxn.f (a0:Int):Option (Bool):=(impl_within.f a0 0 5).bind fun t217=>(some t217)
set_option maxHeartbeats 8000000 in
set_option maxRecDepth 100000 in
theorem impl_isTxn.calls (a0:Int) (r:Bool) (w:World) (h:impl_isTxn.f a0=some r) :
  Calls Try.prog 45 #[.int .i64 a0] w fun e w'=>e=.returned (.bool r)∧Drawn0 w w':=by
 have H:((impl_within.f a0 0 5).bind fun t217=>(some t217))=some r:=h;clear h;replace H:=Option.bind_eq_some_iff.mp H;obtain ⟨t217,A20,H⟩:=H;replace H:(some t217)=some r:=H;have A2:=qK A20;clear A20;obtain rfl:=Option.some.inj H;go_enter Try.func45,Try.ntmps45
 go_wp2_with (first|((with_reducible refine gate_callee (f:=58) rfl ?_);refine goesL_ (some 4) rfl rfl Try.func58 (by kernel_rfl) rfl #[.int .i64 a0,.int .i64 0,.int .i64 5] rfl (by (try simp only [mT,mC,mN]);first|done|rfl|(simp only [lD,lT];rfl)) ?_;(with_reducible refine (impl_within.calls a0 0 5 t217 _ A2.out).mono ?_);rintro e w' ⟨rfl,⟨nd,rfl⟩⟩;refine ⟨_,rfl,?_⟩))
 go_ret
 exact ⟨by first|rfl|(simp;done)|(simp [*];done),by repeat (first|exact Drawn0.refl _|apply Drawn0.step)⟩

/-! ### areAll_isTxn: function 44, handed function 45 -/
def txnB (x : Int) : Bool := decide (0 ≤ x ∧ x ≤ 5)
theorem isTxn_some (x : Int) : impl_isTxn.f x = some (txnB x) := by
  unfold impl_isTxn.f impl_within.f txnB
  by_cases h1 : (0 : Int) ≤ x <;> by_cases h2 : x ≤ 5 <;> simp [h1, h2]
theorem isTxn_pred (l : List Int) (w : World) : PredOn Try.prog 45 #[] (One (Kd.int .i64)) txnB l w := by
  intro W x v _ _ hv
  obtain rfl : v = .int .i64 x := by simpa using (List.cons.inj hv).1
  exact (impl_isTxn.calls x (txnB x) W (isTxn_some x)).mono fun e W' ⟨he, hd⟩ => ⟨he, hd.below⟩
def areAll_isTxn.f (l : List Int) : Option Bool := some (l.all txnB)
theorem areAll_isTxn.calls (A : Option Addr) (c : Nat) (l : List Int) (r : Bool) (w : World) (hr : Kd.C (Kd.int .i64) w A l.length l) (hc : l.length ≤ c) (h : areAll_isTxn.f l = some r) :
    Calls Try.prog 44 #[.slice A l.length c, .func (.func 45) #[] #[]] w fun e w' => e = .returned (.bool r) ∧ Below w.heap.size w w' := by
  obtain rfl : l.all txnB = r := Option.some.inj h
  exact areAll_Int.calls A c l _ _ _ w (enters_of Try.func45 (by kernel_rfl) rfl) hr (isTxn_pred l w)

/-! ### impl_isStep: function 43 -/
def impl_isStep.f (a0_0:Int) (a0_1:Int) (a0_2:Int):Option (Bool):=(impl_isTxn.f a0_0).bind fun t219=>(if t219=true then ((impl_within.f a0_1 1 2).bind fun t220=>(if t220=true then ((impl_within.f a0_2 0 3).bind fun t221=>(some t221)) else (some false))) else (some false))
set_option maxHeartbeats 8000000 in
set_option maxRecDepth 100000 in
theorem impl_isStep.calls (a0_0:Int) (a0_1:Int) (a0_2:Int) (r:Bool) (w:World) (h:impl_isStep.f a0_0 a0_1 a0_2=some r) :
  Calls Try.prog 43 #[.agg #[.int .i64 a0_0,.int .i64 a0_1,.int .i64 a0_2]] w fun e w'=>e=.returned (.bool r)∧Below w.heap.size w w':=by
 have hu47:=Try.underlying47;have HB:=qK (Below.refl w.heap.size w);have H:((impl_isTxn.f a0_0).bind fun t219=>(if t219=true then ((impl_within.f a0_1 1 2).bind fun t220=>(if t220=true then ((impl_within.f a0_2 0 3).bind fun t221=>(some t221)) else (some false))) else (some false)))=some r:=h;clear h;replace H:=Option.bind_eq_some_iff.mp H;obtain ⟨t219,A20,H⟩:=H;replace H:(if t219=true then ((impl_within.f a0_1 1 2).bind fun t220=>(if t220=true then ((impl_within.f a0_2 0 3).bind fun t221=>(some t221)) else (some false))) else (some false))=some r:=H;have A2:=qK A20;clear A20;by_cases c3:t219=true
 ·subst c3;have H1:((impl_within.f a0_1 1 2).bind fun t220=>(if t220=true then ((impl_within.f a0_2 0 3).bind fun t221=>(some t221)) else (some false)))=some r:=by rw [if_pos rfl] at H;exact H
  clear H;have H:=H1;clear H1;replace H:=Option.bind_eq_some_iff.mp H;obtain ⟨t220,A40,H⟩:=H;replace H:(if t220=true then ((impl_within.f a0_2 0 3).bind fun t221=>(some t221)) else (some false))=some r:=H;have A4:=qK A40;clear A40;by_cases c5:t220=true
  ·subst c5;have H1:((impl_within.f a0_2 0 3).bind fun t221=>(some t221))=some r:=by rw [if_pos rfl] at H;exact H
   clear H;have H:=H1;clear H1;replace H:=Option.bind_eq_some_iff.mp H;obtain ⟨t221,A60,H⟩:=H;replace H:(some t221)=some r:=H;have A6:=qK A60;clear A60;obtain rfl:=Option.some.inj H;go_enter Try.func43,Try.ntmps43
   go_wp2_with (first|((with_reducible refine gate_dst (N:=1) rfl ?_);refine box_event ?hg (N:=1) ?hd (cs:=#[.int .i64 a0_0,.int .i64 a0_1,.int .i64 a0_2]) (t:=47) ?hr ?_;(case hd=>rfl);(case hg=>rfl);(case hr=>(go_simp;try rfl));intro gb218 hg w7 hbox hb;have n0_:=qK (qT (by repeat (with_reducible first|exact HB.out|apply qA|apply qD|apply qO)) hb);have n1_:=qK (hbox);have n2_:=qK ((by rw [hg];exact (qZ (by repeat (with_reducible first|exact HB.out|apply qA|apply qD|apply qO))):w.heap.size≤gb218));have n3_:=qK ((by rw [hg];exact (qZ (by repeat (with_reducible first|exact HB.out|apply qA|apply qD|apply qO))):w.heap.size≤gb218));clear HB;have HB:=n0_;have BK218:=n1_;have GW218:=n2_;have GE218:=n3_;clear n0_ n1_ n2_ n3_;clear hb hbox hg;have hcz8_0:w7.cell? ⟨gb218,0,none⟩=some (.int .i64 a0_0):=(qC BK218.out 0).trans rfl;have hcz8_1:w7.cell? ⟨gb218,1,none⟩=some (.int .i64 a0_1):=(qC BK218.out 1).trans rfl;have hcz8_2:w7.cell? ⟨gb218,2,none⟩=some (.int .i64 a0_2):=(qC BK218.out 2).trans rfl;have hfz8_0:=qF BK218.out 0;have hfz8_1:=qF BK218.out 1;have hfz8_2:=qF BK218.out 2)|((with_reducible refine gate_callee (f:=45) rfl ?_);refine goesL_ (some 5) rfl rfl Try.func45 (by kernel_rfl) rfl #[.int .i64 a0_0] rfl (by (try simp only [mT,mC,mN]);first|done|rfl|(simp only [lD,lT];rfl)) ?_;(with_reducible refine (impl_isTxn.calls a0_0 true _ A2.out).mono ?_);rintro e w' ⟨rfl,⟨nd,rfl⟩⟩;refine ⟨_,rfl,?_⟩)|(go_at_call 58;(with_reducible refine (impl_within.calls a0_1 1 2 true _ A4.out).mono ?_);rintro e w' ⟨rfl,⟨nd,rfl⟩⟩)|(go_at_call 58;(with_reducible refine (impl_within.calls a0_2 0 3 t221 _ A6.out).mono ?_);rintro e w' ⟨rfl,⟨nd,rfl⟩⟩))
   go_ret
   exact ⟨by first|rfl|(simp [errW_none,errW_some] <;> rfl)|(simp [*,errW_none,errW_some] <;> rfl),by repeat (first|(with_reducible first|exact HB.out|apply qA|apply qD|apply qO|refine qS ?_ GE218.out)|exact HB.out)⟩
  ·replace c5:=Bool.eq_false_iff.mpr c5;subst c5;have H1:(some false)=some r:=by rw [if_neg (show ¬ (false=true) by decide)] at H;exact H
   clear H;have H:=H1;clear H1;obtain rfl:=Option.some.inj H;go_enter Try.func43,Try.ntmps43
   go_wp2_with (first|((with_reducible refine gate_dst (N:=1) rfl ?_);refine box_event ?hg (N:=1) ?hd (cs:=#[.int .i64 a0_0,.int .i64 a0_1,.int .i64 a0_2]) (t:=47) ?hr ?_;(case hd=>rfl);(case hg=>rfl);(case hr=>(go_simp;try rfl));intro gb218 hg w9 hbox hb;have n0_:=qK (qT (by repeat (with_reducible first|exact HB.out|apply qA|apply qD|apply qO)) hb);have n1_:=qK (hbox);have n2_:=qK ((by rw [hg];exact (qZ (by repeat (with_reducible first|exact HB.out|apply qA|apply qD|apply qO))):w.heap.size≤gb218));have n3_:=qK ((by rw [hg];exact (qZ (by repeat (with_reducible first|exact HB.out|apply qA|apply qD|apply qO))):w.heap.size≤gb218));clear HB;have HB:=n0_;have BK218:=n1_;have GW218:=n2_;have GE218:=n3_;clear n0_ n1_ n2_ n3_;clear hb hbox hg;have hcz10_0:w9.cell? ⟨gb218,0,none⟩=some (.int .i64 a0_0):=(qC BK218.out 0).trans rfl;have hcz10_1:w9.cell? ⟨gb218,1,none⟩=some (.int .i64 a0_1):=(qC BK218.out 1).trans rfl;have hcz10_2:w9.cell? ⟨gb218,2,none⟩=some (.int .i64 a0_2):=(qC BK218.out 2).trans rfl;have hfz10_0:=qF BK218.out 0;have hfz10_1:=qF BK218.out 1;have hfz10_2:=qF BK218.out 2)|((with_reducible refine gate_callee (f:=45) rfl ?_);refine goesL_ (some 5) rfl rfl Try.func45 (by kernel_rfl) rfl #[.int .i64 a0_0] rfl (by (try simp only [mT,mC,mN]);first|done|rfl|(simp only [lD,lT];rfl)) ?_;(with_reducible refine (impl_isTxn.calls a0_0 true _ A2.out).mono ?_);rintro e w' ⟨rfl,⟨nd,rfl⟩⟩;refine ⟨_,rfl,?_⟩)|(go_at_call 58;(with_reducible refine (impl_within.calls a0_1 1 2 false _ A4.out).mono ?_);rintro e w' ⟨rfl,⟨nd,rfl⟩⟩))
   go_ret
   exact ⟨by first|rfl|(simp [errW_none,errW_some] <;> rfl)|(simp [*,errW_none,errW_some] <;> rfl),by repeat (first|(with_reducible first|exact HB.out|apply qA|apply qD|apply qO|refine qS ?_ GE218.out)|exact HB.out)⟩
 ·replace c3:=Bool.eq_false_iff.mpr c3;subst c3;have H1:(some false)=some r:=by rw [if_neg (show ¬ (false=true) by decide)] at H;exact H
  clear H;have H:=H1;clear H1;obtain rfl:=Option.some.inj H;go_enter Try.func43,Try.ntmps43
  go_wp2_with (first|((with_reducible refine gate_dst (N:=1) rfl ?_);refine box_event ?hg (N:=1) ?hd (cs:=#[.int .i64 a0_0,.int .i64 a0_1,.int .i64 a0_2]) (t:=47) ?hr ?_;(case hd=>rfl);(case hg=>rfl);(case hr=>(go_simp;try rfl));intro gb218 hg w11 hbox hb;have n0_:=qK (qT (by repeat (with_reducible first|exact HB.out|apply qA|apply qD|apply qO)) hb);have n1_:=qK (hbox);have n2_:=qK ((by rw [hg];exact (qZ (by repeat (with_reducible first|exact HB.out|apply qA|apply qD|apply qO))):w.heap.size≤gb218));have n3_:=qK ((by rw [hg];exact (qZ (by repeat (with_reducible first|exact HB.out|apply qA|apply qD|apply qO))):w.heap.size≤gb218));clear HB;have HB:=n0_;have BK218:=n1_;have GW218:=n2_;have GE218:=n3_;clear n0_ n1_ n2_ n3_;clear hb hbox hg;have hcz12_0:w11.cell? ⟨gb218,0,none⟩=some (.int .i64 a0_0):=(qC BK218.out 0).trans rfl;have hcz12_1:w11.cell? ⟨gb218,1,none⟩=some (.int .i64 a0_1):=(qC BK218.out 1).trans rfl;have hcz12_2:w11.cell? ⟨gb218,2,none⟩=some (.int .i64 a0_2):=(qC BK218.out 2).trans rfl;have hfz12_0:=qF BK218.out 0;have hfz12_1:=qF BK218.out 1;have hfz12_2:=qF BK218.out 2)|((with_reducible refine gate_callee (f:=45) rfl ?_);refine goesL_ (some 5) rfl rfl Try.func45 (by kernel_rfl) rfl #[.int .i64 a0_0] rfl (by (try simp only [mT,mC,mN]);first|done|rfl|(simp only [lD,lT];rfl)) ?_;(with_reducible refine (impl_isTxn.calls a0_0 false _ A2.out).mono ?_);rintro e w' ⟨rfl,⟨nd,rfl⟩⟩;refine ⟨_,rfl,?_⟩))
  go_ret
  exact ⟨by first|rfl|(simp [errW_none,errW_some] <;> rfl)|(simp [*,errW_none,errW_some] <;> rfl),by repeat (first|(with_reducible first|exact HB.out|apply qA|apply qD|apply qO|refine qS ?_ GE218.out)|exact HB.out)⟩

/-! ### behind function 43: stepB -/
/-- A good step. -/
def stepB (x : S47) : Bool := decide (0 ≤ x.f0 ∧ x.f0 ≤ 5 ∧ 1 ≤ x.f1 ∧ x.f1 ≤ 2 ∧ 0 ≤ x.f2 ∧ x.f2 ≤ 3)
theorem isStep_some (x : S47) : impl_isStep.f x.f0 x.f1 x.f2 = some (stepB x) := by
  unfold impl_isStep.f impl_isTxn.f impl_within.f stepB
  by_cases h1 : (0 : Int) ≤ x.f0 <;> by_cases h2 : x.f0 ≤ 5 <;> by_cases h3 : (1 : Int) ≤ x.f1 <;> by_cases h4 : x.f1 ≤ 2 <;> by_cases h5 : (0 : Int) ≤ x.f2 <;> simp [h1, h2, h3, h4, h5]
theorem isStep_pred (l : List (S47)) (w : World) : PredOn Try.prog 43 #[] (Agg k47) stepB l w := by
  rintro W x v _ _ ⟨cs, rfl, hK⟩
  obtain rfl := k47_open hK
  exact impl_isStep.calls x.f0 x.f1 x.f2 (stepB x) W (isStep_some x)

/-! ### areAll_isStep: function 42, handed function 43 -/
def areAll_isStep.f (l : List S47) : Option Bool := some (l.all stepB)
theorem areAll_isStep.calls (A : Option Addr) (c : Nat) (l : List S47) (r : Bool) (w : World) (hr : Kd.C k47 w A l.length l) (hc : l.length ≤ c) (h : areAll_isStep.f l = some r) :
    Calls Try.prog 42 #[.slice A l.length c, .func (.func 43) #[] #[]] w fun e w' => e = .returned (.bool r) ∧ Below w.heap.size w w' := by
  obtain rfl : l.all stepB = r := Option.some.inj h
  exact areAll_Step.calls A c l _ _ _ w (enters_of Try.func43 (by kernel_rfl) rfl) hr (isStep_pred l w)

end Go.Proofs.Ytfnaclgiggkbmaa.PFnExactRunDone
