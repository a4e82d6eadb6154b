/-
  A text of this claim's own, printed by a program of the session (wip/tools/xprint.py): functions of the program as Lean functions, each with what its call comes to.
-/
import Derived.Test.YtecebaeifmddnaaPFnExactBestOrderx0
import Derived.Test.YtecebaeifmddnaaPFnExactBestOrderx5
namespace Go.Proofs.Ytecebaeifmddnaa.PFnExactBestOrder
open Go.Proofs.YtecebaeifmddnaaW.PrintWords renaming pw_below_drewN → qD, blk_cell → qC, below_drew1 → qO, below_alloc → qA, blk_frozen → qF, below_set → qS, blk_drewN → qN, blk_alloc → qL, blk_drew → qW, below_size → qZ, below_step → qT, blk_below → qB, blk_far → qR, blk_put → qP
open Go.Proofs.YtecebaeifmddnaaW.PrintWords.Aside0 renaming mk → qK
open Bool renaming true → Y, false → Z
open List renaming setIfInBounds_toArray → sIb, set_cons_zero → sZ, set_cons_succ → sS, map_toArray → mT, map_cons → mC, map_nil → mN, length_drop → lD, length_take → lT
open Go.Proofs.YtecebaeifmddnaaW.PrintWords.Kd renaming C_alloc → cL, C_drewN → cN, C_drew → cW, C_below → cB, R_alloc → rL, R_drewN → rN, R_drew → rW, R_below → rB
open Go.RowKit Go.Proofs.YtecebaeifmddnaaW.PrintWords Go.Proofs.YtecebaeifmddnaaW.PrintLast Go.Proofs.YtecebaeifmddnaaW.PrintMore
attribute [local go_sem] max2_int min2_int max_two min_two max_three min_three max_four min_four   -- for this text's walks alone
set_option linter.unusedVariables false
set_option linter.unusedSimpArgs false

/-! ### impl_Stats_size: function 43 -/
mutual
def impl_Stats_size.l0 : Nat→Int→Int→Int→List Int→Int→Int→List Int→List (List Int)→Option (Int)
 | 0,_,_,_,_,_,_,_,_=>none
 | k + 1,x1,x5,x6,x12,x13,x14,x270000,x270001=>if x14 < x13 then (if 0≤x14 then (if x14 < (x12.length:Int) then (if 0≤(rd x12 x14) then (if (rd x12 x14) < (x270000.length:Int) then ((impl_set_list.f k x1).bind fun t275=>(impl_Stats_size.l1 k x1 (wrap64 (x5 * (rd x270000 (rd x12 x14)))) x6 (rd x12 x14) x12 x13 x14 t275 (t275.length:Int) 0 x270000 x270001)) else (none)) else (none)) else (none)) else (none)) else (if x6=0 then (none) else (some (wrap64 (Int.tdiv x5 x6))))
def impl_Stats_size.l1 : Nat→Int→Int→Int→Int→List Int→Int→Int→List Int→Int→Int→List Int→List (List Int)→Option (Int)
 | 0,_,_,_,_,_,_,_,_,_,_,_,_=>none
 | k + 1,x1,x5,x6,x8,x12,x13,x14,x26,x27,x28,x270000,x270001=>if x28 < x27 then (if 0≤x28 then (if x28 < (x26.length:Int) then (if (rd x26 x28) < x8 then (if 0≤x8 then (if x8 < (x270001.length:Int) then (if 0≤(rd x26 x28) then (if (rd x26 x28) < ((rd_L1 x270001 x8).length:Int) then (impl_Stats_size.l1 k x1 x5 (wrap64 (x6 * (rd (rd_L1 x270001 x8) (rd x26 x28)))) x8 x12 x13 x14 x26 x27 (wrap64 (x28 + 1)) x270000 x270001) else (none)) else (none)) else (none)) else (none)) else (impl_Stats_size.l1 k x1 x5 x6 x8 x12 x13 x14 x26 x27 (wrap64 (x28 + 1)) x270000 x270001)) else (none)) else (none)) else (impl_Stats_size.l0 k x1 x5 x6 x12 x13 (wrap64 (x14 + 1)) x270000 x270001)
end
def impl_Stats_size.f (k:Nat) (l0_0:List Int) (l0_1:List (List Int)) (a1:Int):Option (Int):=(impl_set_list.f k a1).bind fun t270=>(impl_Stats_size.l0 k a1 1 1 t270 (t270.length:Int) 0 l0_0 l0_1)
theorem impl_Stats_size.mono_l : ∀ k,(∀ y0 y1 y2 y3 y4 y5 y6 y7,LeO (impl_Stats_size.l0 k y0 y1 y2 y3 y4 y5 y6 y7) (impl_Stats_size.l0 (k + 1) y0 y1 y2 y3 y4 y5 y6 y7))∧(∀ y0 y1 y2 y3 y4 y5 y6 y7 y8 y9 y10 y11,LeO (impl_Stats_size.l1 k y0 y1 y2 y3 y4 y5 y6 y7 y8 y9 y10 y11) (impl_Stats_size.l1 (k + 1) y0 y1 y2 y3 y4 y5 y6 y7 y8 y9 y10 y11))
 | 0=>⟨fun _ _ _ _ _ _ _ _ r h=>by simp [impl_Stats_size.l0] at h,fun _ _ _ _ _ _ _ _ _ _ _ _ r h=>by simp [impl_Stats_size.l1] at h⟩
 | k + 1=>by
  obtain ⟨ih0,ih1⟩:=impl_Stats_size.mono_l k;refine ⟨?_,?_⟩
  ·intro y0 y1 y2 y3 y4 y5 y6 y7;unfold impl_Stats_size.l0
   repeat' first
   | (with_reducible exact ih0 _ _ _ _ _ _ _ _)
   | (with_reducible exact ih1 _ _ _ _ _ _ _ _ _ _ _ _)
   | (with_reducible exact impl_set_list.mono _ _)
   | (with_reducible exact LeO.refl _)
   | (with_reducible exact LeO.none _)
   | (with_reducible refine LeO.ite ?_ ?_)
   | (with_reducible refine LeO.bind ?_ (fun _=>?_))
   | exact ih0 _ _ _ _ _ _ _ _
   | exact ih1 _ _ _ _ _ _ _ _ _ _ _ _
   | exact impl_set_list.mono _ _
   | exact LeO.none _
   | refine LeO.ite ?_ ?_
   | refine LeO.bind ?_ (fun _=>?_)
  ·intro y0 y1 y2 y3 y4 y5 y6 y7 y8 y9 y10 y11;unfold impl_Stats_size.l1
   repeat' first
   | (with_reducible exact ih0 _ _ _ _ _ _ _ _)
   | (with_reducible exact ih1 _ _ _ _ _ _ _ _ _ _ _ _)
   | (with_reducible exact impl_set_list.mono _ _)
   | (with_reducible exact LeO.refl _)
   | (with_reducible exact LeO.none _)
   | (with_reducible refine LeO.ite ?_ ?_)
   | (with_reducible refine LeO.bind ?_ (fun _=>?_))
   | exact ih0 _ _ _ _ _ _ _ _
   | exact ih1 _ _ _ _ _ _ _ _ _ _ _ _
   | exact impl_set_list.mono _ _
   | exact LeO.none _
   | refine LeO.ite ?_ ?_
   | refine LeO.bind ?_ (fun _=>?_)
theorem impl_Stats_size.mono : ∀ a0 a1 a2 k,LeO (impl_Stats_size.f k a0 a1 a2) (impl_Stats_size.f (k + 1) a0 a1 a2):=by
 intro a0 a1 a2 k;obtain ⟨ih0,ih1⟩:=impl_Stats_size.mono_l k;unfold impl_Stats_size.f
 repeat' first
   | (with_reducible exact ih0 _ _ _ _ _ _ _ _)
   | (with_reducible exact ih1 _ _ _ _ _ _ _ _ _ _ _ _)
   | (with_reducible exact impl_set_list.mono _ _)
   | (with_reducible exact LeO.refl _)
   | (with_reducible exact LeO.none _)
   | (with_reducible refine LeO.ite ?_ ?_)
   | (with_reducible refine LeO.bind ?_ (fun _=>?_))
   | exact ih0 _ _ _ _ _ _ _ _
   | exact ih1 _ _ _ _ _ _ _ _ _ _ _ _
   | exact impl_set_list.mono _ _
   | exact LeO.none _
   | refine LeO.ite ?_ ?_
   | refine LeO.bind ?_ (fun _=>?_)
set_option maxHeartbeats 8000000 in
set_option maxRecDepth 100000 in
theorem impl_Stats_size.calls (k:Nat) (A0_0:Option Addr) (c0_0:Nat) (l0_0:List Int) (A0_1:Option Addr) (c0_1:Nat) (l0_1:List (List Int)) (a1:Int) (r:Int) (w:World) (hr0_0:Kd.C (Kd.int .i64) w A0_0 l0_0.length l0_0) (hc0_0:l0_0.length≤c0_0) (hr0_1:Kd.C (Kd.slice 3 (Kd.int .i64)) w A0_1 l0_1.length l0_1) (hc0_1:l0_1.length≤c0_1) (h:impl_Stats_size.f k l0_0 l0_1 a1=some r) :
  Calls Try.prog 43 #[.agg #[.slice A0_0 l0_0.length c0_0,.slice A0_1 l0_1.length c0_1],.int .i64 a1] w fun e w'=>e=.returned (.int .i64 r)∧Below w.heap.size w w':=by
 have hu29:=Try.underlying29;have HR0_0:=qK hr0_0;have HC0_0:=qK hc0_0;clear hr0_0 hc0_0;have HR0_1:=qK hr0_1;have HC0_1:=qK hc0_1;clear hr0_1 hc0_1;have HB:=qK (Below.refl w.heap.size w);have H:((impl_set_list.f k a1).bind fun t270=>(impl_Stats_size.l0 k a1 1 1 t270 (t270.length:Int) 0 l0_0 l0_1))=some r:=h;clear h;replace H:=Option.bind_eq_some_iff.mp H;obtain ⟨t270,A30,H⟩:=H;replace H:(impl_Stats_size.l0 k a1 1 1 t270 (t270.length:Int) 0 l0_0 l0_1)=some r:=H;have A3:=qK A30;clear A30;have H':=qK H;clear H;go_enter Try.func43,Try.ntmps43
 go_wp2_with (first|((with_reducible refine gate_dst (N:=2) rfl ?_);refine box_event ?hg (N:=2) ?hd (cs:=#[.slice A0_0 l0_0.length c0_0,.slice A0_1 l0_1.length c0_1]) (t:=29) ?hr ?_;(case hd=>rfl);(case hg=>rfl);(case hr=>(go_simp;try rfl));intro gb269 hg w4 hbox hb;have n0_:=qK (qT (by repeat (with_reducible first|exact HB.out|apply qA|apply qD|apply qO)) hb);have n1_:=qK (hbox);have n2_:=qK ((by rw [hg];exact (qZ (by repeat (with_reducible first|exact HB.out|apply qA|apply qD|apply qO))):w.heap.size≤gb269));have n3_:=qK ((by rw [hg];exact (qZ (by repeat (with_reducible first|exact HB.out|apply qA|apply qD|apply qO))):w.heap.size≤gb269));clear HB;have HB:=n0_;have BK269:=n1_;have GW269:=n2_;have GE269:=n3_;clear n0_ n1_ n2_ n3_;clear hb hbox hg)|((with_reducible refine gate_callee (f:=40) rfl ?_);refine goesL_ (some 12) rfl rfl Try.func40 (by kernel_rfl) rfl #[.int .i64 a1] rfl (by (try simp only [mT,mC,mN]);first|done|rfl|(simp only [lD,lT];rfl)) ?_;(with_reducible refine (impl_set_list.calls k a1 t270 _ A3.out).mono ?_);rintro e w5 ⟨v271,rfl,ho0,hb⟩;refine ⟨_,rfl,?_⟩;have n0_:=qK (Kd.R_lower ho0 (qZ (by repeat (with_reducible first|exact HB.out|apply qA|apply qD|apply qO|refine qS ?_ GE269.out))));have n1_:=qK (qB (g:=gb269) (o:=_) (by (with_reducible repeat (first|refine qN ?_ _|refine qW ?_|refine qL ?_ _));exact BK269.out) hb);have n2_:=qK (qT (by repeat (with_reducible first|exact HB.out|apply qA|apply qD|apply qO|refine qS ?_ GE269.out)) hb);clear BK269;clear HB;have HO272:=n0_;have BK269:=n1_;have HB:=n2_;clear n0_ n1_ n2_;(try clear hb);(try clear ho0);obtain ⟨Ao6,co6,eo6⟩:=Kd.R_slice HO272.out;subst eo6))
 go_loopg [5,6,14] k (fun kq v5 v6 v14 w'=>∃ (x5_1:Int) (x6_1:Int) (x14_1:Int),v5=.int .i64 x5_1∧v6=.int .i64 x6_1∧v14=.int .i64 x14_1∧Aside0 (impl_Stats_size.l0 kq a1 x5_1 x6_1 t270 (t270.length:Int) x14_1 l0_0 l0_1=some r)∧Aside0 (kq≤k)∧Aside0 (Kd.R (Kd.int .i64) 3 w' w.heap.size (fun _=>True) (.slice Ao6 t270.length co6) t270)∧Aside0 (w'.heap[gb269]?=some (.cells #[(.slice A0_0 l0_0.length c0_0),(.slice A0_1 l0_1.length c0_1)] 29 (0,0)))∧Aside0 (Below w.heap.size w w'))
 case atStart=>exact ⟨(1),(1),(0),(by first|rfl|(simp;done)|(simp [*];done)),(by first|rfl|(simp;done)|(simp [*];done)),(by first|rfl|(simp;done)|(simp [*];done)),H',⟨Nat.le_refl _⟩,⟨by (with_reducible repeat (first|apply rL|apply rN|apply rW));exact HO272.out⟩,⟨by (with_reducible repeat (first|refine qN ?_ _|refine qW ?_|refine qL ?_ _));exact BK269.out⟩,⟨by repeat (first|(with_reducible first|exact HB.out|apply qA|apply qD|apply qO|refine qS ?_ GE269.out)|exact HB.out)⟩⟩
 case round =>
  clear H';try clear p2
  try clear c4
  obtain ⟨x5_1,x6_1,x14_1,rfl,rfl,rfl,HA,HK1,HO_12,BK269,HB⟩:=hrel;cases gk with
  | zero=>exact absurd HA.out (by simp [impl_Stats_size.l0])
  | succ k1 =>
   have H:=HA.out;clear HA;simp only [impl_Stats_size.l0] at H;by_cases c7:x14_1 < (t270.length:Int)
   ·rw [if_pos c7] at H;have c7b0:decide (x14_1 < (t270.length:Int))=true:=decide_eq_true c7;clear c7;by_cases c8:0≤x14_1
    ·rw [if_pos c8] at H;have c8b0:decide (0≤x14_1)=true:=decide_eq_true c8;clear c8;by_cases c9:x14_1 < (t270.length:Int)
     ·rw [if_pos c9] at H;have c9b0:decide (x14_1 < (t270.length:Int))=true:=decide_eq_true c9;clear c9;by_cases c10:0≤(rd t270 x14_1)
      ·rw [if_pos c10] at H;have c10b0:decide (0≤(rd t270 x14_1))=true:=decide_eq_true c10;clear c10;by_cases c11:(rd t270 x14_1) < (l0_0.length:Int)
       ·rw [if_pos c11] at H;have c11b0:decide ((rd t270 x14_1) < (l0_0.length:Int))=true:=decide_eq_true c11;clear c11;replace H:=Option.bind_eq_some_iff.mp H;obtain ⟨t275,A120,H⟩:=H;replace H:(impl_Stats_size.l1 k1 a1 (wrap64 (x5_1 * (rd l0_0 (rd t270 x14_1)))) x6_1 (rd t270 x14_1) t270 (t270.length:Int) x14_1 t275 (t275.length:Int) 0 l0_0 l0_1)=some r:=H;have A12:=qK A120;clear A120;have H':=qK H;clear H;have p273:0≤(x14_1:Int):=of_decide_eq_true (by first|(with_reducible assumption)|assumption);have q273:x14_1 < (t270.length:Int):=of_decide_eq_true (by first|(with_reducible assumption)|assumption);obtain ⟨ad273,e273,hx273_0⟩:=Kd.at_int (Kd.R_reads' HO_12.out).2.2 x14_1 p273 q273;cases e273
        replace p273:=eq_true p273;replace q273:=eq_true q273;have hcz13_0:wr.cell? ⟨gb269,0,none⟩=some (.slice A0_0 l0_0.length c0_0):=(qC BK269.out 0).trans rfl;have hcz13_1:wr.cell? ⟨gb269,1,none⟩=some (.slice A0_1 l0_1.length c0_1):=(qC BK269.out 1).trans rfl;have hfz13_0:=qF BK269.out 0;have hfz13_1:=qF BK269.out 1;have p274:0≤((rd t270 x14_1):Int):=of_decide_eq_true (by first|(with_reducible assumption)|assumption);have q274:(rd t270 x14_1) < (l0_0.length:Int):=of_decide_eq_true (by first|(with_reducible assumption)|assumption);obtain ⟨ad274,e274,hx274_0⟩:=Kd.at_int HR0_0.out (rd t270 x14_1) p274 q274;cases e274
        replace hx274_0:=(HB.out.cell (World.block_lt_of_cell? w _ hx274_0)).trans hx274_0;replace p274:=eq_true p274;replace q274:=eq_true q274;go_wp2_with (first|((with_reducible refine gate_callee (f:=40) rfl ?_);refine goesL_ (some 26) rfl rfl Try.func40 (by kernel_rfl) rfl #[.int .i64 a1] rfl (by (try simp only [mT,mC,mN]);first|done|rfl|(simp only [lD,lT];rfl)) ?_;(with_reducible refine (impl_set_list.calls k1 a1 t275 _ A12.out).mono ?_);rintro e w14 ⟨v276,rfl,ho0,hb⟩;refine ⟨_,rfl,?_⟩;have n0_:=qK (Kd.R_elder' (by (with_reducible repeat (first|apply rL|apply rN|apply rW));exact HO_12.out) (Kd.R_base ho0) hb);have n1_:=qK (Kd.R_lower (Kd.R_new' ho0 (Kd.R_lt (by (with_reducible repeat (first|apply rL|apply rN|apply rW));exact HO_12.out))) (qZ (by repeat (with_reducible first|exact HB.out|apply qA|apply qD|apply qO|refine qS ?_ GE269.out))));have n2_:=qK (qB (g:=gb269) (o:=_) (by (with_reducible repeat (first|refine qN ?_ _|refine qW ?_|refine qL ?_ _));exact BK269.out) hb);have n3_:=qK (qT (by repeat (with_reducible first|exact HB.out|apply qA|apply qD|apply qO|refine qS ?_ GE269.out)) hb);clear HO_12;clear BK269;clear HB;have HO_12:=n0_;have HO277:=n1_;have BK269:=n2_;have HB:=n3_;clear n0_ n1_ n2_ n3_;(try clear hb);(try clear ho0);obtain ⟨Ao15,co15,eo15⟩:=Kd.R_slice HO277.out;subst eo15))
        go_loopg [6,28] k1 (fun kq v6 v28 w'=>∃ (x6_2:Int) (x28_2:Int),v6=.int .i64 x6_2∧v28=.int .i64 x28_2∧Aside0 (impl_Stats_size.l1 kq a1 (wrap64 (x5_1 * (rd l0_0 (rd t270 x14_1)))) x6_2 (rd t270 x14_1) t270 (t270.length:Int) x14_1 t275 (t275.length:Int) x28_2 l0_0 l0_1=some r)∧Aside0 (kq≤k1)∧Aside0 (Kd.R (Kd.int .i64) 3 w' w.heap.size (fun k_=>some k_ ≠ ((.slice Ao15 t275.length co15):Value).ownBlock) (.slice (some ad273) t270.length co6) t270)∧Aside0 (Kd.R (Kd.int .i64) 3 w' w.heap.size (fun k_=>some k_ ≠ ((.slice (some ad273) t270.length co6):Value).ownBlock) (.slice Ao15 t275.length co15) t275)∧Aside0 (w'.heap[gb269]?=some (.cells #[(.slice (some ad274) l0_0.length c0_0),(.slice A0_1 l0_1.length c0_1)] 29 (0,0)))∧Aside0 (Below w.heap.size w w'))
        case atStart=>exact ⟨(x6_1),(0),(by first|rfl|(simp;done)|(simp [*];done)),(by first|rfl|(simp;done)|(simp [*];done)),H',⟨Nat.le_refl _⟩,⟨by (with_reducible repeat (first|apply rL|apply rN|apply rW));exact Kd.R_mono HO_12.out (fun _ hk=>hk.2)⟩,⟨by (with_reducible repeat (first|apply rL|apply rN|apply rW));exact Kd.R_mono HO277.out (fun _ hk=>hk.2)⟩,⟨by (with_reducible repeat (first|refine qN ?_ _|refine qW ?_|refine qL ?_ _));exact BK269.out⟩,⟨by repeat (first|(with_reducible first|exact HB.out|apply qA|apply qD|apply qO|refine qS ?_ GE269.out)|exact HB.out)⟩⟩
        case round =>
         clear H';try clear c1
         try clear p2
         try clear q2
         try clear hx2
         try clear c4
         try clear p6
         try clear c7
         try clear c7b0
         try clear c8
         try clear c8b0
         try clear c9
         try clear c9b0
         try clear c10
         try clear c10b0
         try clear c11
         try clear c11b0
         try clear hcz13_0
         try clear hcz13_1
         try clear hfz13_0
         try clear hfz13_1
         try clear hx273_0
         try clear hx274_0
         try clear p2
         try clear p273
         try clear p274
         try clear q273
         try clear q274
         obtain ⟨x6_2,x28_2,rfl,rfl,HA,HK2,HO_12,HO_26,BK269,HB⟩:=hrel;cases gk with
         | zero=>exact absurd HA.out (by simp [impl_Stats_size.l1])
         | succ k2 =>
          have H:=HA.out;clear HA;simp only [impl_Stats_size.l1] at H;by_cases c16:x28_2 < (t275.length:Int)
          ·rw [if_pos c16] at H;have c16b0:decide (x28_2 < (t275.length:Int))=true:=decide_eq_true c16;clear c16;by_cases c17:0≤x28_2
           ·rw [if_pos c17] at H;have c17b0:decide (0≤x28_2)=true:=decide_eq_true c17;clear c17;by_cases c18:x28_2 < (t275.length:Int)
            ·rw [if_pos c18] at H;have c18b0:decide (x28_2 < (t275.length:Int))=true:=decide_eq_true c18;clear c18;by_cases c19:(rd t275 x28_2) < (rd t270 x14_1)
             ·rw [if_pos c19] at H;have c19b0:decide ((rd t275 x28_2) < (rd t270 x14_1))=true:=decide_eq_true c19;clear c19;by_cases c20:0≤(rd t270 x14_1)
              ·rw [if_pos c20] at H;have c20b0:decide (0≤(rd t270 x14_1))=true:=decide_eq_true c20;clear c20;by_cases c21:(rd t270 x14_1) < (l0_1.length:Int)
               ·rw [if_pos c21] at H;have c21b0:decide ((rd t270 x14_1) < (l0_1.length:Int))=true:=decide_eq_true c21;clear c21;by_cases c22:0≤(rd t275 x28_2)
                ·rw [if_pos c22] at H;have c22b0:decide (0≤(rd t275 x28_2))=true:=decide_eq_true c22;clear c22;by_cases c23:(rd t275 x28_2) < ((rd_L1 l0_1 (rd t270 x14_1)).length:Int)
                 ·rw [if_pos c23] at H;have c23b0:decide ((rd t275 x28_2) < ((rd_L1 l0_1 (rd t270 x14_1)).length:Int))=true:=decide_eq_true c23;clear c23;have H':=qK H;clear H;have p278:0≤(x28_2:Int):=of_decide_eq_true (by first|(with_reducible assumption)|assumption);have q278:x28_2 < (t275.length:Int):=of_decide_eq_true (by first|(with_reducible assumption)|assumption);obtain ⟨ad278,e278,hx278_0⟩:=Kd.at_int (Kd.R_reads' HO_26.out).2.2 x28_2 p278 q278;cases e278
                  replace p278:=eq_true p278;replace q278:=eq_true q278;have hcz24_0:wr.cell? ⟨gb269,0,none⟩=some (.slice (some ad274) l0_0.length c0_0):=(qC BK269.out 0).trans rfl;have hcz24_1:wr.cell? ⟨gb269,1,none⟩=some (.slice A0_1 l0_1.length c0_1):=(qC BK269.out 1).trans rfl;have hfz24_0:=qF BK269.out 0;have hfz24_1:=qF BK269.out 1;have p279:0≤((rd t270 x14_1):Int):=of_decide_eq_true (by first|(with_reducible assumption)|assumption);have q279:(rd t270 x14_1) < (l0_1.length:Int):=of_decide_eq_true (by first|(with_reducible assumption)|assumption);obtain ⟨ad279,A279_0,c279_0,e279,hx279_0,hl279_0,hi279_0⟩:=at_L1 HR0_1.out (rd t270 x14_1) p279 q279;cases e279
                  replace hx279_0:=(HB.out.cell (World.block_lt_of_cell? w _ hx279_0)).trans hx279_0;have HR279_0:=qK hi279_0;have HC279_0:=qK hl279_0;clear hi279_0 hl279_0;replace p279:=eq_true p279;replace q279:=eq_true q279;have p280:0≤((rd t275 x28_2):Int):=of_decide_eq_true (by first|(with_reducible assumption)|assumption);have q280:(rd t275 x28_2) < ((rd_L1 l0_1 (rd t270 x14_1)).length:Int):=of_decide_eq_true (by first|(with_reducible assumption)|assumption);obtain ⟨ad280,e280,hx280_0⟩:=Kd.at_int HR279_0.out (rd t275 x28_2) p280 q280;cases e280
                  replace hx280_0:=(HB.out.cell (World.block_lt_of_cell? w _ hx280_0)).trans hx280_0;replace p280:=eq_true p280;replace q280:=eq_true q280;go_wp2
                  go_roundg k2
                  case measure=>have:=HK1.out;have:=HK2.out;omega
                  case rel=>exact ⟨(wrap64 (x6_2 * (rd (rd_L1 l0_1 (rd t270 x14_1)) (rd t275 x28_2)))),(wrap64 (x28_2 + 1)),(by first|rfl|(simp;done)|(simp [*];done)),(by first|rfl|(simp;done)|(simp [*];done)),H',⟨by have:=HK1.out;have:=HK2.out;omega⟩,⟨by (with_reducible repeat (first|apply rL|apply rN|apply rW));exact HO_12.out⟩,⟨by (with_reducible repeat (first|apply rL|apply rN|apply rW));exact HO_26.out⟩,⟨by (with_reducible repeat (first|refine qN ?_ _|refine qW ?_|refine qL ?_ _));exact BK269.out⟩,⟨by repeat (first|(with_reducible first|exact HB.out|apply qA|apply qD|apply qO|refine qS ?_ GE269.out)|exact HB.out)⟩⟩
                 ·rw [if_neg c23] at H;exact absurd H (by simp)
                ·rw [if_neg c22] at H;exact absurd H (by simp)
               ·rw [if_neg c21] at H;exact absurd H (by simp)
              ·rw [if_neg c20] at H;exact absurd H (by simp)
             ·rw [if_neg c19] at H;have c19b0:decide ((rd t275 x28_2) < (rd t270 x14_1))=false:=decide_eq_false c19;clear c19;have H':=qK H;clear H;have p278:0≤(x28_2:Int):=of_decide_eq_true (by first|(with_reducible assumption)|assumption);have q278:x28_2 < (t275.length:Int):=of_decide_eq_true (by first|(with_reducible assumption)|assumption);obtain ⟨ad278,e278,hx278_0⟩:=Kd.at_int (Kd.R_reads' HO_26.out).2.2 x28_2 p278 q278;cases e278
              replace p278:=eq_true p278;replace q278:=eq_true q278;go_wp2
              go_roundg k2
              case measure=>have:=HK1.out;have:=HK2.out;omega
              case rel=>exact ⟨(x6_2),(wrap64 (x28_2 + 1)),(by first|rfl|(simp;done)|(simp [*];done)),(by first|rfl|(simp;done)|(simp [*];done)),H',⟨by have:=HK1.out;have:=HK2.out;omega⟩,⟨by (with_reducible repeat (first|apply rL|apply rN|apply rW));exact HO_12.out⟩,⟨by (with_reducible repeat (first|apply rL|apply rN|apply rW));exact HO_26.out⟩,⟨by (with_reducible repeat (first|refine qN ?_ _|refine qW ?_|refine qL ?_ _));exact BK269.out⟩,⟨by repeat (first|(with_reducible first|exact HB.out|apply qA|apply qD|apply qO|refine qS ?_ GE269.out)|exact HB.out)⟩⟩
            ·rw [if_neg c18] at H;exact absurd H (by simp)
           ·rw [if_neg c17] at H;exact absurd H (by simp)
          ·rw [if_neg c16] at H;have c16b0:decide (x28_2 < (t275.length:Int))=false:=decide_eq_false c16;clear c16;have H':=qK H;clear H;go_wp2
           go_roundg k2
           case measure=>have:=HK1.out;have:=HK2.out;omega
           case rel=>exact ⟨((wrap64 (x5_1 * (rd l0_0 (rd t270 x14_1))))),(x6_2),(wrap64 (x14_1 + 1)),(by first|rfl|(simp;done)|(simp [*];done)),(by first|rfl|(simp;done)|(simp [*];done)),(by first|rfl|(simp;done)|(simp [*];done)),H',⟨by have:=HK1.out;have:=HK2.out;omega⟩,⟨by (with_reducible repeat (first|apply rL|apply rN|apply rW));exact Kd.R_mono HO_12.out (fun _ hk=>trivial)⟩,⟨by (with_reducible repeat (first|refine qN ?_ _|refine qW ?_|refine qL ?_ _));exact BK269.out⟩,⟨by repeat (first|(with_reducible first|exact HB.out|apply qA|apply qD|apply qO|refine qS ?_ GE269.out)|exact HB.out)⟩⟩
       ·rw [if_neg c11] at H;exact absurd H (by simp)
      ·rw [if_neg c10] at H;exact absurd H (by simp)
     ·rw [if_neg c9] at H;exact absurd H (by simp)
    ·rw [if_neg c8] at H;exact absurd H (by simp)
   ·rw [if_neg c7] at H;have c7b0:decide (x14_1 < (t270.length:Int))=false:=decide_eq_false c7;clear c7;by_cases c25:x6_1=0
    ·rw [if_pos c25] at H;exact absurd H (by simp)
    ·rw [if_neg c25] at H;have c25b0:(x6_1 == 0)=false:=beq_eq_false_iff_ne.mpr c25;have c25b1:(x6_1 != 0)=true:=bne_iff_ne.mpr c25;obtain rfl:=Option.some.inj H;go_wp2
     go_ret
     exact ⟨by first|rfl|(simp [errW_none,errW_some] <;> rfl)|(simp [*,errW_none,errW_some] <;> rfl),by repeat (first|(with_reducible first|exact HB.out|apply qA|apply qD|apply qO|refine qS ?_ GE269.out)|exact HB.out)⟩

/-! ### clone_Int: function 57 -/
def cloneL_ren : Go.Shelf.Ren := ⟨fun | 15 => 57 | n => n, fun | 22 => 22 | 3 => 3 | 4 => 4 | n => n, fun | n => n⟩
theorem cloneL : Go.Proofs.Lays2.n15 Try.prog cloneL_ren := {
  mixed := by kernel_rfl
  f15 := Try.func57.trans (congrArg some (by kernel_rfl))
  t3 := Try.underlying3
  a3 := Try.isAgg3
  z3 := Try.sizeOf3
  v3 := Try.zeroValue3
  t4 := Try.underlying4
  a4 := Try.isAgg4
  z4 := Try.sizeOf4
  v4 := Try.zeroValue4
  t22 := Try.underlying22
  a22 := Try.isAgg22
  z22 := Try.sizeOf22
  v22 := Try.zeroValue22
  i3 := by kernel_rfl }
def clone_Int.f (l0 : List Int) : Option (List Int) := if l0.length ≤ 17592186044416 then some l0 else none
theorem clone_Int.calls (A0 : Option Addr) (c0 : Nat) (l0 : List Int) (r : List Int) (w : World) (hr0 : Kd.C (Kd.int .i64) w A0 l0.length l0) (hc0 : l0.length ≤ c0) (h : clone_Int.f l0 = some r) :
    Calls Try.prog 57 #[.slice A0 l0.length c0] w fun e w' => ∃ v0_ : Value, e = .returned (v0_) ∧ Kd.R (Kd.int .i64) 3 w' w.heap.size (fun _ => True) v0_ r ∧ Below w.heap.size w w' := by
  unfold clone_Int.f at h
  by_cases hl : l0.length ≤ 17592186044416
  · rw [if_pos hl] at h
    obtain rfl := Option.some.inj h
    exact clone_C cloneL hr0 hl
  · rw [if_neg hl] at h
    cases h

/-! ### cmp_isNaN_int: function 72 -/
def cmp_isNaN_int.f (a0:Int):Option (Bool):=some (a0 != a0)
set_option maxHeartbeats 8000000 in
set_option maxRecDepth 100000 in
theorem cmp_isNaN_int.calls (a0:Int) (r:Bool) (w:World) (h:cmp_isNaN_int.f a0=some r) :
  Calls Try.prog 72 #[.int .i64 a0] w fun e w'=>e=.returned (.bool r)∧Drawn0 w w':=by
 have H:(some (a0 != a0))=some r:=h;clear h;obtain rfl:=Option.some.inj H;go_enter Try.func72,Try.ntmps72
 go_wp2
 go_ret
 exact ⟨by first|rfl|(simp;done)|(simp [*];done),by repeat (first|exact Drawn0.refl _|apply Drawn0.step)⟩

/-! ### cmp_Compare_int: function 68 -/
def cmp_Compare_int.f (a0:Int) (a1:Int):Option (Int):=(cmp_isNaN_int.f a0).bind fun t281=>((cmp_isNaN_int.f a1).bind fun t282=>(if t281=true then (if t282=true then (some 0) else (some (-1))) else (if t282=true then (some 1) else (if a0 < a1 then (some (-1)) else (if a0 > a1 then (some 1) else (some 0))))))
set_option maxHeartbeats 8000000 in
set_option maxRecDepth 100000 in
theorem cmp_Compare_int.calls (a0:Int) (a1:Int) (r:Int) (w:World) (h:cmp_Compare_int.f a0 a1=some r) :
  Calls Try.prog 68 #[.int .i64 a0,.int .i64 a1] w fun e w'=>e=.returned (.int .i64 r)∧Drawn0 w w':=by
 have H:((cmp_isNaN_int.f a0).bind fun t281=>((cmp_isNaN_int.f a1).bind fun t282=>(if t281=true then (if t282=true then (some 0) else (some (-1))) else (if t282=true then (some 1) else (if a0 < a1 then (some (-1)) else (if a0 > a1 then (some 1) else (some 0)))))))=some r:=h;clear h;replace H:=Option.bind_eq_some_iff.mp H;obtain ⟨t281,A30,H⟩:=H;replace H:((cmp_isNaN_int.f a1).bind fun t282=>(if t281=true then (if t282=true then (some 0) else (some (-1))) else (if t282=true then (some 1) else (if a0 < a1 then (some (-1)) else (if a0 > a1 then (some 1) else (some 0))))))=some r:=H;have A3:=qK A30;clear A30;replace H:=Option.bind_eq_some_iff.mp H;obtain ⟨t282,A40,H⟩:=H;replace H:(if t281=true then (if t282=true then (some 0) else (some (-1))) else (if t282=true then (some 1) else (if a0 < a1 then (some (-1)) else (if a0 > a1 then (some 1) else (some 0)))))=some r:=H;have A4:=qK A40;clear A40;by_cases c5:t281=true
 ·subst c5;have H1:(if t282=true then (some 0) else (some (-1)))=some r:=by rw [if_pos rfl] at H;exact H
  clear H;have H:=H1;clear H1;by_cases c6:t282=true
  ·subst c6;have H1:(some 0)=some r:=by rw [if_pos rfl] at H;exact H
   clear H;have H:=H1;clear H1;obtain rfl:=Option.some.inj H;go_enter Try.func68,Try.ntmps68
   go_wp2_with (first|((with_reducible refine gate_callee (f:=72) rfl ?_);refine goesL_ (some 8) rfl rfl Try.func72 (by kernel_rfl) rfl #[.int .i64 a0] rfl (by (try simp only [mT,mC,mN]);first|done|rfl|(simp only [lD,lT];rfl)) ?_;(with_reducible refine (cmp_isNaN_int.calls a0 true _ A3.out).mono ?_);rintro e w' ⟨rfl,⟨nd,rfl⟩⟩;refine ⟨_,rfl,?_⟩)|((with_reducible refine gate_callee (f:=72) rfl ?_);refine goesL_ (some 10) rfl rfl Try.func72 (by kernel_rfl) rfl #[.int .i64 a1] rfl (by (try simp only [mT,mC,mN]);first|done|rfl|(simp only [lD,lT];rfl)) ?_;(with_reducible refine (cmp_isNaN_int.calls a1 true _ A4.out).mono ?_);rintro e w' ⟨rfl,⟨nd,rfl⟩⟩;refine ⟨_,rfl,?_⟩))
   go_ret
   exact ⟨by first|rfl|(simp;done)|(simp [*];done),by repeat (first|exact Drawn0.refl _|apply Drawn0.step)⟩
  ·replace c6:=Bool.eq_false_iff.mpr c6;subst c6;have H1:(some (-1))=some r:=by rw [if_neg (show ¬ (false=true) by decide)] at H;exact H
   clear H;have H:=H1;clear H1;obtain rfl:=Option.some.inj H;go_enter Try.func68,Try.ntmps68
   go_wp2_with (first|((with_reducible refine gate_callee (f:=72) rfl ?_);refine goesL_ (some 8) rfl rfl Try.func72 (by kernel_rfl) rfl #[.int .i64 a0] rfl (by (try simp only [mT,mC,mN]);first|done|rfl|(simp only [lD,lT];rfl)) ?_;(with_reducible refine (cmp_isNaN_int.calls a0 true _ A3.out).mono ?_);rintro e w' ⟨rfl,⟨nd,rfl⟩⟩;refine ⟨_,rfl,?_⟩)|((with_reducible refine gate_callee (f:=72) rfl ?_);refine goesL_ (some 10) rfl rfl Try.func72 (by kernel_rfl) rfl #[.int .i64 a1] rfl (by (try simp only [mT,mC,mN]);first|done|rfl|(simp only [lD,lT];rfl)) ?_;(with_reducible refine (cmp_isNaN_int.calls a1 false _ A4.out).mono ?_);rintro e w' ⟨rfl,⟨nd,rfl⟩⟩;refine ⟨_,rfl,?_⟩))
   go_ret
   exact ⟨by first|rfl|(simp;done)|(simp [*];done),by repeat (first|exact Drawn0.refl _|apply Drawn0.step)⟩
 ·replace c5:=Bool.eq_false_iff.mpr c5;subst c5;have H1:(if t282=true then (some 1) else (if a0 < a1 then (some (-1)) else (if a0 > a1 then (some 1) else (some 0))))=some r:=by rw [if_neg (show ¬ (false=true) by decide)] at H;exact H
  clear H;have H:=H1;clear H1;by_cases c7:t282=true
  ·subst c7;have H1:(some 1)=some r:=by rw [if_pos rfl] at H;exact H
   clear H;have H:=H1;clear H1;obtain rfl:=Option.some.inj H;go_enter Try.func68,Try.ntmps68
   go_wp2_with (first|((with_reducible refine gate_callee (f:=72) rfl ?_);refine goesL_ (some 8) rfl rfl Try.func72 (by kernel_rfl) rfl #[.int .i64 a0] rfl (by (try simp only [mT,mC,mN]);first|done|rfl|(simp only [lD,lT];rfl)) ?_;(with_reducible refine (cmp_isNaN_int.calls a0 false _ A3.out).mono ?_);rintro e w' ⟨rfl,⟨nd,rfl⟩⟩;refine ⟨_,rfl,?_⟩)|((with_reducible refine gate_callee (f:=72) rfl ?_);refine goesL_ (some 10) rfl rfl Try.func72 (by kernel_rfl) rfl #[.int .i64 a1] rfl (by (try simp only [mT,mC,mN]);first|done|rfl|(simp only [lD,lT];rfl)) ?_;(with_reducible refine (cmp_isNaN_int.calls a1 true _ A4.out).mono ?_);rintro e w' ⟨rfl,⟨nd,rfl⟩⟩;refine ⟨_,rfl,?_⟩))
   go_ret
   exact ⟨by first|rfl|(simp;done)|(simp [*];done),by repeat (first|exact Drawn0.refl _|apply Drawn0.step)⟩
  ·replace c7:=Bool.eq_false_iff.mpr c7;subst c7;have H1:(if a0 < a1 then (some (-1)) else (if a0 > a1 then (some 1) else (some 0)))=some r:=by rw [if_neg (show ¬ (false=true) by decide)] at H;exact H
   clear H;have H:=H1;clear H1;by_cases c8:a0 < a1
   ·rw [if_pos c8] at H;have c8b0:decide (a0 < a1)=true:=decide_eq_true c8;clear c8;obtain rfl:=Option.some.inj H;go_enter Try.func68,Try.ntmps68
    go_wp2_with (first|((with_reducible refine gate_callee (f:=72) rfl ?_);refine goesL_ (some 8) rfl rfl Try.func72 (by kernel_rfl) rfl #[.int .i64 a0] rfl (by (try simp only [mT,mC,mN]);first|done|rfl|(simp only [lD,lT];rfl)) ?_;(with_reducible refine (cmp_isNaN_int.calls a0 false _ A3.out).mono ?_);rintro e w' ⟨rfl,⟨nd,rfl⟩⟩;refine ⟨_,rfl,?_⟩)|((with_reducible refine gate_callee (f:=72) rfl ?_);refine goesL_ (some 10) rfl rfl Try.func72 (by kernel_rfl) rfl #[.int .i64 a1] rfl (by (try simp only [mT,mC,mN]);first|done|rfl|(simp only [lD,lT];rfl)) ?_;(with_reducible refine (cmp_isNaN_int.calls a1 false _ A4.out).mono ?_);rintro e w' ⟨rfl,⟨nd,rfl⟩⟩;refine ⟨_,rfl,?_⟩))
    go_ret
    exact ⟨by first|rfl|(simp;done)|(simp [*];done),by repeat (first|exact Drawn0.refl _|apply Drawn0.step)⟩
   ·rw [if_neg c8] at H;have c8b0:decide (a0 < a1)=false:=decide_eq_false c8;clear c8;by_cases c9:a0 > a1
    ·rw [if_pos c9] at H;have c9b0:decide (a1 < a0)=true:=decide_eq_true c9;clear c9;obtain rfl:=Option.some.inj H;go_enter Try.func68,Try.ntmps68
     go_wp2_with (first|((with_reducible refine gate_callee (f:=72) rfl ?_);refine goesL_ (some 8) rfl rfl Try.func72 (by kernel_rfl) rfl #[.int .i64 a0] rfl (by (try simp only [mT,mC,mN]);first|done|rfl|(simp only [lD,lT];rfl)) ?_;(with_reducible refine (cmp_isNaN_int.calls a0 false _ A3.out).mono ?_);rintro e w' ⟨rfl,⟨nd,rfl⟩⟩;refine ⟨_,rfl,?_⟩)|((with_reducible refine gate_callee (f:=72) rfl ?_);refine goesL_ (some 10) rfl rfl Try.func72 (by kernel_rfl) rfl #[.int .i64 a1] rfl (by (try simp only [mT,mC,mN]);first|done|rfl|(simp only [lD,lT];rfl)) ?_;(with_reducible refine (cmp_isNaN_int.calls a1 false _ A4.out).mono ?_);rintro e w' ⟨rfl,⟨nd,rfl⟩⟩;refine ⟨_,rfl,?_⟩))
     go_ret
     exact ⟨by first|rfl|(simp;done)|(simp [*];done),by repeat (first|exact Drawn0.refl _|apply Drawn0.step)⟩
    ·rw [if_neg c9] at H;have c9b0:decide (a1 < a0)=false:=decide_eq_false c9;clear c9;obtain rfl:=Option.some.inj H;go_enter Try.func68,Try.ntmps68
     go_wp2_with (first|((with_reducible refine gate_callee (f:=72) rfl ?_);refine goesL_ (some 8) rfl rfl Try.func72 (by kernel_rfl) rfl #[.int .i64 a0] rfl (by (try simp only [mT,mC,mN]);first|done|rfl|(simp only [lD,lT];rfl)) ?_;(with_reducible refine (cmp_isNaN_int.calls a0 false _ A3.out).mono ?_);rintro e w' ⟨rfl,⟨nd,rfl⟩⟩;refine ⟨_,rfl,?_⟩)|((with_reducible refine gate_callee (f:=72) rfl ?_);refine goesL_ (some 10) rfl rfl Try.func72 (by kernel_rfl) rfl #[.int .i64 a1] rfl (by (try simp only [mT,mC,mN]);first|done|rfl|(simp only [lD,lT];rfl)) ?_;(with_reducible refine (cmp_isNaN_int.calls a1 false _ A4.out).mono ?_);rintro e w' ⟨rfl,⟨nd,rfl⟩⟩;refine ⟨_,rfl,?_⟩))
     go_ret
     exact ⟨by first|rfl|(simp;done)|(simp [*];done),by repeat (first|exact Drawn0.refl _|apply Drawn0.step)⟩

/-! ### slices_Compare_int_int: function 58 -/
def slices_Compare_int_int.l0 : Nat→List Int→List Int→List Int→Int→Int→Option (Int)
 | 0,_,_,_,_,_=>none
 | k + 1,x0,x1,x9,x10,x11=>if x11 < x10 then (if 0≤x11 then (if x11 < (x9.length:Int) then (if x11 ≥ (x1.length:Int) then (some 1) else (if x11 < (x1.length:Int) then ((cmp_Compare_int.f (rd x9 x11) (rd x1 x11)).bind fun t285=>(if t285=0 then (slices_Compare_int_int.l0 k x0 x1 x9 x10 (wrap64 (x11 + 1))) else (some t285))) else (none))) else (none)) else (none)) else (if (x0.length:Int) < (x1.length:Int) then (some (-1)) else (some 0))
def slices_Compare_int_int.f (k:Nat) (l0:List Int) (l1:List Int):Option (Int):=slices_Compare_int_int.l0 k l0 l1 l0 (l0.length:Int) 0
theorem slices_Compare_int_int.mono_l : ∀ k,(∀ y0 y1 y2 y3 y4,LeO (slices_Compare_int_int.l0 k y0 y1 y2 y3 y4) (slices_Compare_int_int.l0 (k + 1) y0 y1 y2 y3 y4))
 | 0=>fun _ _ _ _ _ r h=>by simp [slices_Compare_int_int.l0] at h
 | k + 1=>by
  have ih0:=slices_Compare_int_int.mono_l k
  ·intro y0 y1 y2 y3 y4;unfold slices_Compare_int_int.l0
   repeat' first
   | (with_reducible exact ih0 _ _ _ _ _)
   | (with_reducible exact LeO.refl _)
   | (with_reducible exact LeO.none _)
   | (with_reducible refine LeO.ite ?_ ?_)
   | (with_reducible refine LeO.bind ?_ (fun _=>?_))
   | exact ih0 _ _ _ _ _
   | exact LeO.none _
   | refine LeO.ite ?_ ?_
   | refine LeO.bind ?_ (fun _=>?_)
theorem slices_Compare_int_int.mono : ∀ a0 a1 k,LeO (slices_Compare_int_int.f k a0 a1) (slices_Compare_int_int.f (k + 1) a0 a1):=by
 intro a0 a1 k;have ih0:=slices_Compare_int_int.mono_l k;unfold slices_Compare_int_int.f
 repeat' first
   | (with_reducible exact ih0 _ _ _ _ _)
   | (with_reducible exact LeO.refl _)
   | (with_reducible exact LeO.none _)
   | (with_reducible refine LeO.ite ?_ ?_)
   | (with_reducible refine LeO.bind ?_ (fun _=>?_))
   | exact ih0 _ _ _ _ _
   | exact LeO.none _
   | refine LeO.ite ?_ ?_
   | refine LeO.bind ?_ (fun _=>?_)
set_option maxHeartbeats 8000000 in
set_option maxRecDepth 100000 in
theorem slices_Compare_int_int.calls (k:Nat) (A0:Option Addr) (c0:Nat) (l0:List Int) (A1:Option Addr) (c1:Nat) (l1:List Int) (r:Int) (w:World) (hr0:Kd.C (Kd.int .i64) w A0 l0.length l0) (hc0:l0.length≤c0) (hr1:Kd.C (Kd.int .i64) w A1 l1.length l1) (hc1:l1.length≤c1) (h:slices_Compare_int_int.f k l0 l1=some r) :
  Calls Try.prog 58 #[.slice A0 l0.length c0,.slice A1 l1.length c1] w fun e w'=>e=.returned (.int .i64 r)∧Drawn0 w w':=by
 have HR0:=qK hr0;have HC0:=qK hc0;clear hr0 hc0;have HR1:=qK hr1;have HC1:=qK hc1;clear hr1 hc1;have H:(slices_Compare_int_int.l0 k l0 l1 l0 (l0.length:Int) 0)=some r:=h;clear h;have H':=qK H;clear H;go_enter Try.func58,Try.ntmps58
 go_wp2
 go_loopg [11] k (fun kq v11 w'=>∃ (x11_1:Int),v11=.int .i64 x11_1∧Aside0 (slices_Compare_int_int.l0 kq l0 l1 l0 (l0.length:Int) x11_1=some r)∧Aside0 (kq≤k)∧Drawn0 w w')
 case atStart=>exact ⟨(0),(by first|rfl|(simp;done)|(simp [*];done)),H',⟨Nat.le_refl _⟩,by repeat (first|exact Drawn0.refl _|apply Drawn0.step)⟩
 case round =>
  clear H';try clear c1
  try clear p2
  obtain ⟨x11_1,rfl,HA,HK1,⟨m1,rfl⟩⟩:=hrel;cases gk with
  | zero=>exact absurd HA.out (by simp [slices_Compare_int_int.l0])
  | succ k1 =>
   have H:=HA.out;clear HA;simp only [slices_Compare_int_int.l0] at H;by_cases c3:x11_1 < (l0.length:Int)
   ·rw [if_pos c3] at H;have c3b0:decide (x11_1 < (l0.length:Int))=true:=decide_eq_true c3;clear c3;by_cases c4:0≤x11_1
    ·rw [if_pos c4] at H;have c4b0:decide (0≤x11_1)=true:=decide_eq_true c4;clear c4;by_cases c5:x11_1 < (l0.length:Int)
     ·rw [if_pos c5] at H;have c5b0:decide (x11_1 < (l0.length:Int))=true:=decide_eq_true c5;clear c5;by_cases c6:x11_1 ≥ (l1.length:Int)
      ·rw [if_pos c6] at H;have c6b0:decide ((l1.length:Int)≤x11_1)=true:=decide_eq_true c6;clear c6;obtain rfl:=Option.some.inj H;have p283:0≤(x11_1:Int):=of_decide_eq_true (by first|(with_reducible assumption)|assumption);have q283:x11_1 < (l0.length:Int):=of_decide_eq_true (by first|(with_reducible assumption)|assumption);obtain ⟨ad283,e283,hx283_0⟩:=Kd.at_int HR0.out x11_1 p283 q283;cases e283
       replace p283:=eq_true p283;replace q283:=eq_true q283;go_wp2
       go_ret
       exact ⟨by first|rfl|(simp;done)|(simp [*];done),by repeat (first|exact Drawn0.refl _|apply Drawn0.step)⟩
      ·rw [if_neg c6] at H;have c6b0:decide ((l1.length:Int)≤x11_1)=false:=decide_eq_false c6;clear c6;by_cases c7:x11_1 < (l1.length:Int)
       ·rw [if_pos c7] at H;have c7b0:decide (x11_1 < (l1.length:Int))=true:=decide_eq_true c7;clear c7;replace H:=Option.bind_eq_some_iff.mp H;obtain ⟨t285,A80,H⟩:=H;replace H:(if t285=0 then (slices_Compare_int_int.l0 k1 l0 l1 l0 (l0.length:Int) (wrap64 (x11_1 + 1))) else (some t285))=some r:=H;have A8:=qK A80;clear A80;by_cases c9:t285=0
        ·rw [if_pos c9] at H;have c9b0:(t285 == 0)=true:=beq_iff_eq.mpr c9;have c9b1:(t285 != 0)=false:=bne_eq_false_iff_eq.mpr c9;clear c9;have H':=qK H;clear H;have p283:0≤(x11_1:Int):=of_decide_eq_true (by first|(with_reducible assumption)|assumption);have q283:x11_1 < (l0.length:Int):=of_decide_eq_true (by first|(with_reducible assumption)|assumption);obtain ⟨ad283,e283,hx283_0⟩:=Kd.at_int HR0.out x11_1 p283 q283;cases e283
         replace p283:=eq_true p283;replace q283:=eq_true q283;have p284:0≤(x11_1:Int):=of_decide_eq_true (by first|(with_reducible assumption)|assumption);have q284:x11_1 < (l1.length:Int):=of_decide_eq_true (by first|(with_reducible assumption)|assumption);obtain ⟨ad284,e284,hx284_0⟩:=Kd.at_int HR1.out x11_1 p284 q284;cases e284
         replace p284:=eq_true p284;replace q284:=eq_true q284;go_wp2_with (first|((with_reducible refine gate_callee (f:=68) rfl ?_);refine goesL_ (some 26) rfl rfl Try.func68 (by kernel_rfl) rfl #[.int .i64 (rd l0 x11_1),.int .i64 (rd l1 x11_1)] rfl (by (try simp only [mT,mC,mN]);first|done|rfl|(simp only [lD,lT];rfl)) ?_;(with_reducible refine (cmp_Compare_int.calls (rd l0 x11_1) (rd l1 x11_1) t285 _ A8.out).mono ?_);rintro e w' ⟨rfl,⟨nd,rfl⟩⟩;refine ⟨_,rfl,?_⟩))
         go_roundg k1
         case measure=>have:=HK1.out;omega
         case rel=>exact ⟨(wrap64 (x11_1 + 1)),(by first|rfl|(simp;done)|(simp [*];done)),H',⟨by have:=HK1.out;omega⟩,by repeat (first|exact Drawn0.refl _|apply Drawn0.step)⟩
        ·rw [if_neg c9] at H;have c9b0:(t285 == 0)=false:=beq_eq_false_iff_ne.mpr c9;have c9b1:(t285 != 0)=true:=bne_iff_ne.mpr c9;obtain rfl:=Option.some.inj H;have p283:0≤(x11_1:Int):=of_decide_eq_true (by first|(with_reducible assumption)|assumption);have q283:x11_1 < (l0.length:Int):=of_decide_eq_true (by first|(with_reducible assumption)|assumption);obtain ⟨ad283,e283,hx283_0⟩:=Kd.at_int HR0.out x11_1 p283 q283;cases e283
         replace p283:=eq_true p283;replace q283:=eq_true q283;have p284:0≤(x11_1:Int):=of_decide_eq_true (by first|(with_reducible assumption)|assumption);have q284:x11_1 < (l1.length:Int):=of_decide_eq_true (by first|(with_reducible assumption)|assumption);obtain ⟨ad284,e284,hx284_0⟩:=Kd.at_int HR1.out x11_1 p284 q284;cases e284
         replace p284:=eq_true p284;replace q284:=eq_true q284;go_wp2_with (first|((with_reducible refine gate_callee (f:=68) rfl ?_);refine goesL_ (some 26) rfl rfl Try.func68 (by kernel_rfl) rfl #[.int .i64 (rd l0 x11_1),.int .i64 (rd l1 x11_1)] rfl (by (try simp only [mT,mC,mN]);first|done|rfl|(simp only [lD,lT];rfl)) ?_;(with_reducible refine (cmp_Compare_int.calls (rd l0 x11_1) (rd l1 x11_1) t285 _ A8.out).mono ?_);rintro e w' ⟨rfl,⟨nd,rfl⟩⟩;refine ⟨_,rfl,?_⟩))
         go_ret
         exact ⟨by first|rfl|(simp;done)|(simp [*];done),by repeat (first|exact Drawn0.refl _|apply Drawn0.step)⟩
       ·rw [if_neg c7] at H;exact absurd H (by simp)
     ·rw [if_neg c5] at H;exact absurd H (by simp)
    ·rw [if_neg c4] at H;exact absurd H (by simp)
   ·rw [if_neg c3] at H;have c3b0:decide (x11_1 < (l0.length:Int))=false:=decide_eq_false c3;clear c3;by_cases c10:(l0.length:Int) < (l1.length:Int)
    ·rw [if_pos c10] at H;have c10b0:decide ((l0.length:Int) < (l1.length:Int))=true:=decide_eq_true c10;have c10b1:decide (l0.length < l1.length)=true:=decide_eq_true (Int.ofNat_lt.mp c10);clear c10;obtain rfl:=Option.some.inj H;go_wp2
     go_ret
     exact ⟨by first|rfl|(simp;done)|(simp [*];done),by repeat (first|exact Drawn0.refl _|apply Drawn0.step)⟩
    ·rw [if_neg c10] at H;have c10b0:decide ((l0.length:Int) < (l1.length:Int))=false:=decide_eq_false c10;have c10b1:decide (l0.length < l1.length)=false:=decide_eq_false (fun h=>c10 (Int.ofNat_lt.mpr h));clear c10;obtain rfl:=Option.some.inj H;go_wp2
     go_ret
     exact ⟨by first|rfl|(simp;done)|(simp [*];done),by repeat (first|exact Drawn0.refl _|apply Drawn0.step)⟩

/-! ### impl_Stats_best: function 35 -/
mutual
def impl_Stats_best.l0 : Nat → Int → List Int → Int → Int → List Int → List (List Int) → List Int → Int → Option (List Int × Int)
  | 0, _, _, _, _, _, _, _, _ => none
  | k + 1, x1, x30, x31, x32, x266000, x266001, x272000, x272001 => if x32 < x31 then (if 0 ≤ x32 then (if x32 < (x30.length : Int) then (if 0 ≤ (rd x30 x32) then ((impl_Stats_best.f k x266000 x266001 (Go.bits .andNot .i64 x1 (shl .i64 1 (rd x30 x32)))).bind fun bt273 => ((clone_Int.f bt273.1).bind fun t278 => ((some (([rd x30 x32] : List Int) : List Int)).bind fun y281 => (if t278.length + y281.length < 17592186044416 then ((some (t278 ++ y281 : List Int)).bind fun y284 => ((impl_Stats_size.f k x266000 x266001 x1).bind fun t287 => (if (x272000.length : Int) = 0 then (impl_Stats_best.l0 k x1 x30 x31 (wrap64 (x32 + 1)) x266000 x266001 y284 (wrap64 (bt273.2 + t287))) else (if (wrap64 (bt273.2 + t287)) < x272001 then (impl_Stats_best.l0 k x1 x30 x31 (wrap64 (x32 + 1)) x266000 x266001 y284 (wrap64 (bt273.2 + t287))) else (if (wrap64 (bt273.2 + t287)) = x272001 then ((slices_Compare_int_int.f k y284 x272000).bind fun t289 => (if t289 < 0 then (impl_Stats_best.l0 k x1 x30 x31 (wrap64 (x32 + 1)) x266000 x266001 y284 (wrap64 (bt273.2 + t287))) else (impl_Stats_best.l0 k x1 x30 x31 (wrap64 (x32 + 1)) x266000 x266001 x272000 x272001))) else (impl_Stats_best.l0 k x1 x30 x31 (wrap64 (x32 + 1)) x266000 x266001 x272000 x272001)))))) else (none))))) else (none)) else (none)) else (none)) else (some (x272000, x272001))
def impl_Stats_best.f : Nat → List Int → List (List Int) → Int → Option (List Int × Int)
  | 0, _, _, _ => none
  | k + 1, l0_0, l0_1, a1 => (impl_set_list.f k a1).bind fun t267 => (if (t267.length : Int) = 1 then (some (t267, 0)) else (impl_Stats_best.l0 k a1 t267 (t267.length : Int) 0 l0_0 l0_1 ([] : List Int) 0))
end
theorem impl_Stats_best.mono_l : ∀ k, (∀ y0 y1 y2, LeO (impl_Stats_best.f k y0 y1 y2) (impl_Stats_best.f (k + 1) y0 y1 y2)) ∧ (∀ y0 y1 y2 y3 y4 y5 y6 y7, LeO (impl_Stats_best.l0 k y0 y1 y2 y3 y4 y5 y6 y7) (impl_Stats_best.l0 (k + 1) y0 y1 y2 y3 y4 y5 y6 y7))
  | 0 => ⟨fun _ _ _ r h => by simp [impl_Stats_best.f] at h, fun _ _ _ _ _ _ _ _ r h => by simp [impl_Stats_best.l0] at h⟩
  | k + 1 => by
    obtain ⟨ih0, ih1⟩ := impl_Stats_best.mono_l k
    refine ⟨?_, ?_⟩
    · intro y0 y1 y2
      unfold impl_Stats_best.f
      repeat' first
      | (with_reducible exact ih0 _ _ _)
      | (with_reducible exact ih1 _ _ _ _ _ _ _ _)
      | (with_reducible exact impl_Stats_size.mono _ _ _ _)
      | (with_reducible exact impl_set_list.mono _ _)
      | (with_reducible exact slices_Compare_int_int.mono _ _ _)
      | (with_reducible exact LeO.refl _)
      | (with_reducible exact LeO.none _)
      | (with_reducible refine LeO.ite ?_ ?_)
      | (with_reducible refine LeO.bind ?_ (fun _ => ?_))
      | exact ih0 _ _ _
      | exact ih1 _ _ _ _ _ _ _ _
      | exact impl_Stats_size.mono _ _ _ _
      | exact impl_set_list.mono _ _
      | exact slices_Compare_int_int.mono _ _ _
      | exact LeO.none _
      | refine LeO.ite ?_ ?_
      | refine LeO.bind ?_ (fun _ => ?_)
    · intro y0 y1 y2 y3 y4 y5 y6 y7
      unfold impl_Stats_best.l0
      repeat' first
      | (with_reducible exact ih0 _ _ _)
      | (with_reducible exact ih1 _ _ _ _ _ _ _ _)
      | (with_reducible exact impl_Stats_size.mono _ _ _ _)
      | (with_reducible exact impl_set_list.mono _ _)
      | (with_reducible exact slices_Compare_int_int.mono _ _ _)
      | (with_reducible exact LeO.refl _)
      | (with_reducible exact LeO.none _)
      | (with_reducible refine LeO.ite ?_ ?_)
      | (with_reducible refine LeO.bind ?_ (fun _ => ?_))
      | exact ih0 _ _ _
      | exact ih1 _ _ _ _ _ _ _ _
      | exact impl_Stats_size.mono _ _ _ _
      | exact impl_set_list.mono _ _
      | exact slices_Compare_int_int.mono _ _ _
      | exact LeO.none _
      | refine LeO.ite ?_ ?_
      | refine LeO.bind ?_ (fun _ => ?_)
theorem impl_Stats_best.mono : ∀ a0 a1 a2 k, LeO (impl_Stats_best.f k a0 a1 a2) (impl_Stats_best.f (k + 1) a0 a1 a2) := by
  intro a0 a1 a2 k
  obtain ⟨ih0, ih1⟩ := impl_Stats_best.mono_l k
  exact ih0 a0 a1 a2
def impl_Stats_best.T11 : Bool × List (List Nat × List Nat) := (true, [([], []), ([], []), ([], []), ([2], [2]), ([1, 3], [1, 3]), ([], []), ([0, 4, 5], [0, 4, 5]), ([], []), ([7, 6, 6, 0, 1, 2, 3, 4, 5, 6, 7], [6, 7])])
def impl_Stats_best.B11 : List Nat := [0, 0, 0, 4, 14, 0, 63, 0, 255]
theorem impl_Stats_best.tab11 : rtab .any (opsOf Try.f35 11) = impl_Stats_best.T11 := by kernel_rfl
theorem impl_Stats_best.bits11 : waitsOk impl_Stats_best.T11.2 impl_Stats_best.B11 = true := by kernel_rfl
def impl_Stats_best.T12 : Bool × List (List Nat × List Nat) := (true, [([], []), ([0], [0]), ([1], [1]), ([], []), ([3], [3]), ([2, 4, 2], [2, 4]), ([], []), ([6], [6]), ([], []), ([], []), ([8, 9, 5], [8, 9]), ([7, 10], [7, 10]), ([5, 11], [5, 11]), ([], []), ([13, 12, 10, 0, 1, 2, 3, 4, 5, 6, 7, 8, 9, 10, 11, 12, 13], [12, 13])])
def impl_Stats_best.B12 : List Nat := [0, 1, 3, 0, 8, 31, 0, 64, 0, 0, 831, 2047, 4095, 0, 16383]
theorem impl_Stats_best.tab12 : rtab .any (opsOf Try.f35 12) = impl_Stats_best.T12 := by kernel_rfl
theorem impl_Stats_best.bits12 : waitsOk impl_Stats_best.T12.2 impl_Stats_best.B12 = true := by kernel_rfl
def BF (l0 : List Int) (l1 : List (List Int)) (x : Int) (o : List Int) (s : Int) : Prop := ∃ k, impl_Stats_best.f k l0 l1 x = some (o, s)
theorem best_le (l0 : List Int) (l1 : List (List Int)) (x : Int) (r : List Int × Int) (k : Nat) (h : impl_Stats_best.f k l0 l1 x = some r) : ∀ d, impl_Stats_best.f (k + d) l0 l1 x = some r
  | 0 => h
  | d + 1 => impl_Stats_best.mono _ _ _ _ _ (best_le l0 l1 x r k h d)
theorem best_one {l0 : List Int} {l1 : List (List Int)} {x : Int} {o o' : List Int} {s s' : Int} (h : BF l0 l1 x o s) (h' : BF l0 l1 x o' s') : o = o' ∧ s = s' := by
  obtain ⟨k, h⟩ := h
  obtain ⟨k', h'⟩ := h'
  have e1 := best_le l0 l1 x _ k h k'
  have e2 := best_le l0 l1 x _ k' h' k
  rw [Nat.add_comm] at e2
  rw [e1] at e2
  simpa using e2
set_option maxHeartbeats 8000000 in
set_option maxRecDepth 100000 in
theorem impl_Stats_best.calls (k:Nat):∀ (A0:Option Addr) (c0:Nat) (l0:List Int) (A1:Option Addr) (c1:Nat) (l1:List (List Int)) (a1:Int) (M:Nat) (r1:List Int) (r2:Int) (w0 w:World) (hM:w0.heap.size≤M) (hr0:Kd.C (Kd.int .i64) w0 A0 l0.length l0) (hc0:l0.length≤c0) (hr1:Kd.C (Kd.slice 3 (Kd.int .i64)) w0 A1 l1.length l1) (hc1:l1.length≤c1) (hm:FrM (BF l0 l1) 3 w0 M w) (h:impl_Stats_best.f k l0 l1 a1=some (r1,r2)),
  Calls Try.prog 35 #[.agg #[.slice A0 l0.length c0,.slice A1 l1.length c1],.int .i64 a1,.map (some M)] w fun e w'=>∃ v0_:Value,e=.returned (.agg #[v0_,.int .i64 r2])∧Kd.R (Kd.int .i64) 3 w' w0.heap.size (fun k_=>k_ ≠ M) v0_ r1∧FrM (BF l0 l1) 3 w0 M w'∧Kept w w' (fun k_=>k_=M):=by
 induction k using Nat.strongRecOn with
 | _ k ih =>
 intro A0 c0 l0 A1 c1 l1 a1 M r1 r2 w0 w hM hr0 hc0 hr1 hc1 hm h;cases k with
 | zero=>exact absurd h (by simp [impl_Stats_best.f])
 | succ k =>
 have HBF:=qK (show BF l0 l1 a1 r1 r2 from ⟨_,h⟩);simp only [impl_Stats_best.f] at h;have hu29:=Try.underlying29;have hu54:=Try.underlying54;have HM:=qK hM;have HR0:=qK hr0;have HC0:=qK hc0;have HR1:=qK hr1;have HC1:=qK hc1;have FR:=qK hm;have HK:=qK (Kept.refl w (fun k_=>k_=M));have HW0:=qK hm.below.size;clear hM hr0 hc0 hr1 hc1 hm;have H:=h;clear h;replace H:=Option.bind_eq_some_iff.mp H;obtain ⟨t267,A30,H⟩:=H;have A3:=qK A30;clear A30;by_cases c4:(t267.length:Int)=1
 ·rw [if_pos c4] at H;have c4b0:((t267.length:Int) == 1)=true:=beq_iff_eq.mpr c4;clear c4;simp only [Option.some.injEq,Prod.mk.injEq] at H;obtain ⟨rfl,rfl⟩:=H;go_enter Try.func35,Try.ntmps35
  go_wp2_with (first|((with_reducible refine gate_dst (N:=3) rfl ?_);refine box_event ?hg (N:=3) ?hd (cs:=#[.slice A0 l0.length c0,.slice A1 l1.length c1]) (t:=29) ?hr ?_;(case hd=>rfl);(case hg=>rfl);(case hr=>(go_simp;try rfl));intro gA hg wa hbox hb;have FRa:=qK (FR.out.below_ hb);have HKa:=qK (Kept.below HK.out hb);have BKA:=qK hbox;clear hg hbox hb FR HK)|((with_reducible refine gate_dst (N:=6) rfl ?_);refine box_event ?hg (N:=6) ?hd (cs:=#[.slice none 0 0,.int .i64 0]) (t:=54) ?hr ?_;(case hd=>rfl);(case hg=>rfl);(case hr=>(go_simp;try rfl));intro gB hg wb hbox hb;have FRb:=qK (FRa.out.below_ hb);have HKb:=qK (Kept.below HKa.out hb);have BKB:=qK hbox;have GEB:=qK (show w.heap.size≤gB from by rw [hg];exact HKa.out.1);clear hg hbox hb FRa HKa)|((with_reducible refine gate_callee (f:=40) rfl ?_);refine goesL_ (some 16) rfl rfl Try.func40 (by kernel_rfl) rfl #[.int .i64 a1] rfl (by (try simp only [mT,mC,mN]);first|done|rfl) ?_;(with_reducible refine (impl_set_list.calls k a1 t267 _ A3.out).mono ?_);rintro e wc ⟨vl,rfl,ho0,hb⟩;refine ⟨_,rfl,?_⟩;have FR:=qK (FRb.out.below_ hb);have HK:=qK (Kept.below HKb.out hb);have HO:=qK (Kd.R_lower (Kd.R_mono (Kd.R_bound ho0) (fun k_ hk_=>(show k_ ≠ M from by have:=FRb.out.lt;have:=hk_.2.1;omega))) FRb.out.below.size);have BK:=qK (qB BKB.out hb);clear hb ho0 FRb HKb BKB;obtain ⟨Ao,co,eo⟩:=Kd.R_slice HO.out;subst eo;have hcz0:wc.cell? ⟨gB,0,none⟩=some (.slice none 0 0):=(qC BK.out 0).trans rfl;have hcz1:wc.cell? ⟨gB,1,none⟩=some (.int .i64 0):=(qC BK.out 1).trans rfl;have hfz0:=qF BK.out 0;have hfz1:=qF BK.out 1))
  have hge:=Nat.le_trans HW0.out GEB.out;have hb1:=qP (cs:=#[.slice none 0 0,.int .i64 0]) BK.out 0 (.slice Ao t267.length co) rfl;have F2:=FR.out.set (i:=0) (v:=.slice Ao t267.length co) hge BK.out (by decide);have F3:=F2.set (i:=1) (v:=.int .i64 0) hge hb1 (by decide);refine bodyPost_ret (results_cell_row rfl _ _ gB 54 #[.slice Ao t267.length co,.int .i64 0] (0,0) _ rfl (qP (cs:=#[.slice Ao t267.length co,.int .i64 0]) hb1 1 _ rfl) Try.underlying54 rfl (by kernel_rfl)) rfl ?_;refine ⟨_,rfl,?_,F3,Kept.setCell (Kept.setCell HK.out (.inr GEB.out) _) (.inr GEB.out) _⟩;exact Kd.R_mono (Kd.R_far (p:=⟨gB,1,none⟩) (Kd.R_far (p:=⟨gB,0,none⟩) (Kd.R_types HO.out BK.out (by decide)) (fun _ hk=>hk.2) (.slice Ao t267.length co)) (fun _ hk=>hk.2) (.int .i64 0)) (fun _ hk=>hk.1)
 ·rw [if_neg c4] at H;have c4b0:((t267.length:Int) == 1)=false:=beq_eq_false_iff_ne.mpr c4;clear c4;have H':=qK H;clear H;go_enter Try.func35,Try.ntmps35
  go_upto_region 4 with (first|((with_reducible refine gate_dst (N:=3) rfl ?_);refine box_event ?hg (N:=3) ?hd (cs:=#[.slice A0 l0.length c0,.slice A1 l1.length c1]) (t:=29) ?hr ?_;(case hd=>rfl);(case hg=>rfl);(case hr=>(go_simp;try rfl));intro gA hg wa hbox hb;have FRa:=qK (FR.out.below_ hb);have HKa:=qK (Kept.below HK.out hb);have BKA:=qK hbox;have GEA:=qK (show w.heap.size≤gA from by rw [hg];exact HK.out.1);clear hg hbox hb FR HK)|((with_reducible refine gate_dst (N:=6) rfl ?_);refine box_event ?hg (N:=6) ?hd (cs:=#[.slice none 0 0,.int .i64 0]) (t:=54) ?hr ?_;(case hd=>rfl);(case hg=>rfl);(case hr=>(go_simp;try rfl));intro gB hg wb hbox hb;have FRb:=qK (FRa.out.below_ hb);have HKb:=qK (Kept.below HKa.out hb);have BKB:=qK hbox;have BKA2:=qK (qB BKA.out hb);have GEB:=qK (show w.heap.size≤gB from by rw [hg];exact HKa.out.1);clear hg hbox hb FRa HKa BKA)|((with_reducible refine gate_callee (f:=40) rfl ?_);refine goesL_ (some 16) rfl rfl Try.func40 (by kernel_rfl) rfl #[.int .i64 a1] rfl (by (try simp only [mT,mC,mN]);first|done|rfl) ?_;(with_reducible refine (impl_set_list.calls k a1 t267 _ A3.out).mono ?_);rintro e wc ⟨vl,rfl,ho0,hb⟩;refine ⟨_,rfl,?_⟩;have FR:=qK (FRb.out.below_ hb);have HK:=qK (Kept.below HKb.out hb);have HO:=qK (Kd.R_lower (Kd.R_mono (Kd.R_bound ho0) (fun k_ hk_=>(show k_ ≠ M from by have:=FRb.out.lt;have:=hk_.2.1;omega))) FRb.out.below.size);have BKB':=qK (qB BKB.out hb);have BKA:=qK (qB BKA2.out hb);clear hb ho0 FRb HKb BKB BKA2;have BKB:=BKB';clear BKB';obtain ⟨Ao,co,eo⟩:=Kd.R_slice HO.out;subst eo))
  obtain ⟨c,hmap,hent⟩:=FR.out.map;have hlk:=pk_run (P:=Try.prog) (t:=58) (x:=a1) Try.underlying58 Try.underlying56 (Try.zeroValue54 wc) hmap;cases hq:pget a1 c 0 with
  | some qv =>
   obtain ⟨q,v⟩:=qv;obtain ⟨d,_,hd⟩:=pget_at a1 c 0 q v hq;obtain ⟨u,o,s,e1,hu,hF⟩:=hent _ (List.mem_of_getElem? hd);obtain rfl:v=.agg #[u,.int .i64 s]:=e1;obtain ⟨rfl,rfl⟩:=best_one HBF.out hF;rw [hq] at hlk;have HU:=qK hu;clear hu hF hd hq hmap hent HO H';obtain ⟨Au,cu,eu⟩:=Kd.R_slice HU.out;subst eu;go_wp2_with (first|((with_reducible refine gate_dst (N:=8) rfl ?_);refine box_event ?hg (N:=8) ?hd (cs:=#[.slice none 0 0,.int .i64 0]) (t:=54) ?hr ?_;(case hd=>rfl);(case hg=>rfl);(case hr=>(go_simp;try rfl));intro gC hg wd hbox hb;have FR2:=qK (FR.out.below_ hb);have HK2:=qK (Kept.below HK.out hb);have BKA2:=qK (qB BKA.out hb);have BKB2:=qK (qB BKB.out hb);have HU2:=qK (rB HU.out hb);have BKC:=qK hbox;have GEC:=qK (show w.heap.size≤gC from by rw [hg];exact HK.out.1);have NBC:=qK (show gB ≠ gC from by rw [hg];exact Nat.ne_of_lt (blk_lt BKB.out));have NAC:=qK (show gA ≠ gC from by rw [hg];exact Nat.ne_of_lt (blk_lt BKA.out));clear FR HK BKA BKB HU;have hxC0:wd.cell? ⟨gC,0,none⟩=some (.slice none 0 0):=(qC BKC.out 0).trans rfl;have hfC0:=qF BKC.out 0;have hxC1:wd.cell? ⟨gC,1,none⟩=some (.int .i64 0):=(qC BKC.out 1).trans rfl;have hfC1:=qF BKC.out 1;clear hg hbox hb)|((with_reducible refine gate_store (t:=54) (p:=8) rfl ?_);refine store_event (t:=54) (p:=8) (v:=?vo1_) (w1:=((wd.setCell ⟨gC,0,none⟩ (.slice Au r1.length cu)).setCell ⟨gC,1,none⟩ (.int .i64 r2))) ?hg ?ho ?hn ?hr ?_;(case ho=>rfl);(case hg=>rfl);(case hn=>rfl);(case hr=>(go_simp;try rfl));intro we hw;have hge:=Nat.le_trans HW0.out GEC.out;have hb1:=qP (cs:=#[.slice none 0 0,.int .i64 0]) BKC.out 0 (.slice Au r1.length cu) rfl;have FR:=qK (show FrM (BF l0 l1) 3 w0 M we from by rw [hw];exact (FR2.out.set hge BKC.out (by decide)).set hge hb1 (by decide));have HK:=qK (show Kept w we (fun k_=>k_=M) from by rw [hw];exact Kept.setCell (Kept.setCell HK2.out (.inr GEC.out) _) (.inr GEC.out) _);have BKA:=qK (show we.heap[gA]?=some (.cells #[.slice A0 l0.length c0,.slice A1 l1.length c1] 29 (0,0)) from by rw [hw];exact qR (qR BKA2.out NAC.out _) NAC.out _);have BKB:=qK (show we.heap[gB]?=some (.cells #[.slice none 0 0,.int .i64 0] 54 (0,0)) from by rw [hw];exact qR (qR BKB2.out NBC.out _) NBC.out _);have HU:=qK (show Kd.R (Kd.int .i64) 3 we w0.heap.size (fun k_=>k_ ≠ M) (.slice Au r1.length cu) r1 from by rw [hw];exact Kd.R_mono (Kd.R_far (p:=⟨gC,1,none⟩) (Kd.R_far (p:=⟨gC,0,none⟩) (Kd.R_types HU2.out BKC.out (by decide)) (fun _ hk=>hk.2) _) (fun _ hk=>hk.2) _) (fun _ hk=>hk.1));have BKCe:=qK (show we.heap[gC]?=some (.cells #[.slice Au r1.length cu,.int .i64 r2] 54 (0,0)) from by rw [hw];exact qP (cs:=#[.slice Au r1.length cu,.int .i64 0]) hb1 1 _ rfl);clear hb1 hge hxC0 hxC1 hfC0 hfC1 BKC FR2 HK2 BKA2 BKB2 HU2;clear hw;have BKC:=BKCe;clear BKCe;have hxC0:we.cell? ⟨gC,0,none⟩=some (.slice Au r1.length cu):=(qC BKC.out 0).trans rfl;have hfC0:=qF BKC.out 0;have hxC1:we.cell? ⟨gC,1,none⟩=some (.int .i64 r2):=(qC BKC.out 1).trans rfl;have hfC1:=qF BKC.out 1;have hxB0:we.cell? ⟨gB,0,none⟩=some (.slice none 0 0):=(qC BKB.out 0).trans rfl;have hfB0:=qF BKB.out 0;have hxB1:we.cell? ⟨gB,1,none⟩=some (.int .i64 0):=(qC BKB.out 1).trans rfl;have hfB1:=qF BKB.out 1))
   have hge:=Nat.le_trans HW0.out GEB.out;have hb1:=qP (cs:=#[.slice none 0 0,.int .i64 0]) BKB.out 0 (.slice Au r1.length cu) rfl;have F2:=FR.out.set (i:=0) (v:=.slice Au r1.length cu) hge BKB.out (by decide);have F3:=F2.set (i:=1) (v:=.int .i64 r2) hge hb1 (by decide);refine bodyPost_ret (results_cell_row rfl _ _ gB 54 #[.slice Au r1.length cu,.int .i64 r2] (0,0) _ rfl (qP (cs:=#[.slice Au r1.length cu,.int .i64 0]) hb1 1 _ rfl) Try.underlying54 rfl (by kernel_rfl)) rfl ?_;refine ⟨_,rfl,?_,F3,Kept.setCell (Kept.setCell HK.out (.inr GEB.out) _) (.inr GEB.out) _⟩;exact Kd.R_mono (Kd.R_far (p:=⟨gB,1,none⟩) (Kd.R_far (p:=⟨gB,0,none⟩) (Kd.R_types HU.out BKB.out (by decide)) (fun _ hk=>hk.2) _) (fun _ hk=>hk.2) _) (fun _ hk=>hk.1)
  | none =>
   rw [hq] at hlk;clear hmap hent hq;go_wp2_with (first|((with_reducible refine gate_dst (N:=8) rfl ?_);refine box_event ?hg (N:=8) ?hd (cs:=#[.slice none 0 0,.int .i64 0]) (t:=54) ?hr ?_;(case hd=>rfl);(case hg=>rfl);(case hr=>(go_simp;try rfl));intro gC hg wd hbox hb;have FR2:=qK (FR.out.below_ hb);have HK2:=qK (Kept.below HK.out hb);have BKA2:=qK (qB BKA.out hb);have BKB2:=qK (qB BKB.out hb);have HU2:=qK (rB HO.out hb);have BKC:=qK hbox;have GEC:=qK (show w.heap.size≤gC from by rw [hg];exact HK.out.1);have NBC:=qK (show gB ≠ gC from by rw [hg];exact Nat.ne_of_lt (blk_lt BKB.out));have NAC:=qK (show gA ≠ gC from by rw [hg];exact Nat.ne_of_lt (blk_lt BKA.out));clear FR HK BKA BKB HO;have hxC0:wd.cell? ⟨gC,0,none⟩=some (.slice none 0 0):=(qC BKC.out 0).trans rfl;have hfC0:=qF BKC.out 0;have hxC1:wd.cell? ⟨gC,1,none⟩=some (.int .i64 0):=(qC BKC.out 1).trans rfl;have hfC1:=qF BKC.out 1;clear hg hbox hb)|((with_reducible refine gate_store (t:=54) (p:=8) rfl ?_);refine store_event (t:=54) (p:=8) (v:=?vo2_) (w1:=((wd.setCell ⟨gC,0,none⟩ (.slice none 0 0)).setCell ⟨gC,1,none⟩ (.int .i64 0))) ?hg ?ho ?hn ?hr ?_;(case ho=>rfl);(case hg=>rfl);(case hn=>rfl);(case hr=>(go_simp;try rfl));intro we hw;have hge:=Nat.le_trans HW0.out GEC.out;have hb1:=qP (cs:=#[.slice none 0 0,.int .i64 0]) BKC.out 0 (.slice none 0 0) rfl;have FR:=qK (show FrM (BF l0 l1) 3 w0 M we from by rw [hw];exact (FR2.out.set hge BKC.out (by decide)).set hge hb1 (by decide));have HK:=qK (show Kept w we (fun k_=>k_=M) from by rw [hw];exact Kept.setCell (Kept.setCell HK2.out (.inr GEC.out) _) (.inr GEC.out) _);have BKA:=qK (show we.heap[gA]?=some (.cells #[.slice A0 l0.length c0,.slice A1 l1.length c1] 29 (0,0)) from by rw [hw];exact qR (qR BKA2.out NAC.out _) NAC.out _);have BKB:=qK (show we.heap[gB]?=some (.cells #[.slice none 0 0,.int .i64 0] 54 (0,0)) from by rw [hw];exact qR (qR BKB2.out NBC.out _) NBC.out _);have HU:=qK (show Kd.R (Kd.int .i64) 3 we w0.heap.size (fun k_=>k_ ≠ M) (.slice Ao t267.length co) t267 from by rw [hw];exact Kd.R_mono (Kd.R_far (p:=⟨gC,1,none⟩) (Kd.R_far (p:=⟨gC,0,none⟩) (Kd.R_types HU2.out BKC.out (by decide)) (fun _ hk=>hk.2) _) (fun _ hk=>hk.2) _) (fun _ hk=>hk.1));have BKCe:=qK (show we.heap[gC]?=some (.cells #[.slice none 0 0,.int .i64 0] 54 (0,0)) from by rw [hw];exact qP (cs:=#[.slice none 0 0,.int .i64 0]) hb1 1 _ rfl);clear hb1 hge hxC0 hxC1 hfC0 hfC1 BKC FR2 HK2 BKA2 BKB2 HU2;clear hw BKCe;have HO:=HU;clear HU)|((with_reducible refine gate_dst (N:=10) rfl ?_);refine box_event ?hg (N:=10) ?hd (cs:=#[.slice none 0 0,.int .i64 0]) (t:=54) ?hr ?_;(case hd=>rfl);(case hg=>rfl);(case hr=>(go_simp;try rfl));intro gD hg wf hbox hb;have FRn:=qK (FR.out.below_ hb);have HKn:=qK (Kept.below HK.out hb);have BKAn:=qK (qB BKA.out hb);have BKBn:=qK (qB BKB.out hb);have HOn:=qK (rB HO.out hb);have BKD:=qK hbox;have GED:=qK (show w.heap.size≤gD from by rw [hg];exact HK.out.1);have NBD:=qK (show gB ≠ gD from by rw [hg];exact Nat.ne_of_lt (blk_lt BKB.out));have NAD:=qK (show gA ≠ gD from by rw [hg];exact Nat.ne_of_lt (blk_lt BKA.out));clear FR HK BKA BKB HO;have FR:=FRn;have HK:=HKn;have BKA:=BKAn;have BKB:=BKBn;have HO:=HOn;clear FRn HKn BKAn BKBn HOn;clear hg hbox hb))
   have q22:∀ (W:World) (A:Option Addr) (n c:Nat),(binOp .eql 22 (.slice A n c) (.slice none 0 0)).run Try.prog W=.ok (.bool A.isNone) W:=fun W A n c=>Lib.run_eql_slice_nil W _ _ A n c 0 0 Try.underlying22
   go_loopg [32] k (fun kq v32 w'=>∃ (x:Int) (o:List Int) (s:Int) (u:Value),v32=.int .i64 x∧Aside0 (impl_Stats_best.l0 kq a1 t267 (t267.length:Int) x l0 l1 o s=some (r1,r2))∧Aside0 (kq≤k)∧Aside0 (Kd.R (Kd.int .i64) 3 w' w0.heap.size (fun k_=>k_ ≠ M) (.slice Ao t267.length co) t267)∧Aside0 (Kd.R (Kd.int .i64) 3 w' w0.heap.size (fun k_=>k_ ≠ M) u o)∧Aside0 (o=[]→u=.slice none 0 0)∧Aside0 (w'.heap[gA]?=some (.cells #[.slice A0 l0.length c0,.slice A1 l1.length c1] 29 (0,0)))∧Aside0 (w'.heap[gB]?=some (.cells #[.slice none 0 0,.int .i64 0] 54 (0,0)))∧Aside0 (w'.heap[gD]?=some (.cells #[u,.int .i64 s] 54 (0,0)))∧Aside0 (FrM (BF l0 l1) 3 w0 M w')∧Aside0 (Kept w w' (fun k_=>k_=M)))
   case atStart=>exact ⟨0,[],0,.slice none 0 0,rfl,H',⟨Nat.le_refl _⟩,HO,⟨Kd.R_nil _ _ _ _ _⟩,⟨fun _=>rfl⟩,BKA,BKB,BKD,FR,HK⟩
   case round =>
    clear H' HO BKA BKB BKD FR HK hlk;obtain ⟨x,o,s,u,rfl,HA,HK1,HO,HU,HN,BKA,BKB,BKD,FR,HK⟩:=hrel;cases gk with
    | zero=>exact absurd HA.out (by simp [impl_Stats_best.l0])
    | succ k1 =>
     have H:=HA.out;clear HA;simp only [impl_Stats_best.l0] at H;by_cases c20:x < (t267.length:Int)
     ·rw [if_pos c20] at H;by_cases c21:0≤x
      case neg=>rw [if_neg c21] at H;exact absurd H (by simp)
      rw [if_pos c21,if_pos c20] at H;have c20b0:decide (x < (t267.length:Int))=true:=decide_eq_true c20;by_cases c23:0≤(rd t267 x)
      case neg=>rw [if_neg c23] at H;exact absurd H (by simp)
      rw [if_pos c23] at H;have c23b0:=eq_true c23;obtain ⟨ji24,hji24⟩:∃ j_:Int,(shl .i64 1 (rd t267 x))=j_:=⟨_,rfl⟩;rw [hji24] at H;have hji24_:(IntKind.i64.wrap (1 * 2 ^ min (rd t267 x).toNat 64))=ji24:=hji24;have hji24z:(rd t267 x)≤64→(IntKind.i64.wrap (1 * 2 ^ (rd t267 x).toNat))=ji24:=shl_small hji24;have hji24u:(IntKind.i64.wrap (2 ^ min (rd t267 x).toNat 64))=ji24:=by have h_:=hji24_;rw [Int.one_mul] at h_;exact h_
      have hji24v:(rd t267 x)≤64→(IntKind.i64.wrap (2 ^ (rd t267 x).toNat))=ji24:=fun hle_=>by have h_:=hji24z hle_;rw [Int.one_mul] at h_;exact h_
      have hji24y:(wrap64 (1 * 2 ^ min (rd t267 x).toNat 64))=ji24:=(i64_w _).symm.trans hji24_;have hji24x:(rd t267 x)≤64→(wrap64 (1 * 2 ^ (rd t267 x).toNat))=ji24:=fun h_=>(i64_w _).symm.trans (hji24z h_)
      replace H:=Option.bind_eq_some_iff.mp H;obtain ⟨⟨t273,t276⟩,A250,H⟩:=H;have A25:=qK A250;clear A250;replace H:=Option.bind_eq_some_iff.mp H;obtain ⟨t278,A260,H⟩:=H;have A26:=qK A260;clear A260;obtain ⟨y281,hy281⟩:∃ y_:List Int,y_=(([rd t267 x]:List Int)):=⟨_,rfl⟩;simp only [Option.bind_some,← hy281] at H;have Ny281:=qK hy281;clear hy281;by_cases c27:t278.length + y281.length < 17592186044416
      case neg=>rw [if_neg c27] at H;exact absurd H (by simp)
      rw [if_pos c27] at H;have LMc27:=qK c27;clear c27;obtain ⟨y284,hy284⟩:∃ y_:List Int,y_=(t278 ++ y281):=⟨_,rfl⟩;rw [← hy284] at H;have Ny284:=qK hy284;clear hy284;replace H:=Option.bind_eq_some_iff.mp H;obtain ⟨t287,A280,H⟩:=H;have A28:=qK A280;clear A280;have H':=qK H;clear H;obtain ⟨ad272,e272,hx272⟩:=Kd.at_int (Kd.R_reads' HO.out).2.2 x c21 c20;cases e272
      have p272:=eq_true c21;have q272:=eq_true c20;clear c20 c21 c23;go_upto_region 11 with (fail)
      have hbd:=below_drew (Below.refl wr.heap.size wr);have HOd:=qK (rW HO.out);have HUd:=qK (rW HU.out);have BKAd:=qK (qW BKA.out);have BKBd:=qK (qW BKB.out);have BKDd:=qK (qW BKD.out);have FRd:=qK (FR.out.below_ hbd);have HKd:=qK (Kept.below HK.out hbd);clear HO HU BKA BKB BKD FR HK hbd hx272;have HO:=HOd;have HU:=HUd;have BKA:=BKAd;have BKB:=BKBd;have BKD:=BKDd;have FR:=FRd;have HK:=HKd;clear HOd HUd BKAd BKBd BKDd FRd HKd;refine start_ (n:=9) (S:=fun w'=>True) (ds:=[]) #[Z,Z,Z,Z,Z,Z,Z,Z,Z] (by kernel_rfl) rfl rfl trivial (fun hHeld=>?_);refine with_tabW impl_Stats_best.tab11 impl_Stats_best.bits11 (fun HT_ HW_=>?_);generalize wr.drew=W1 at HO HU BKA BKB BKD FR HK hHeld ⊢
      refine pure_ (i:=1) (N:=some 37) (v:=?_) (a':=?_) #[Z,Y,Z,Z,Z,Z,Z,Z,Z] rfl rfl (any_of HT_.out (by kernel_rfl)) (fun _ _ _ h=>h) (Or.inl ⟨by rfl,?_⟩) ?_ ?_;rotate_left
      ·intro w';go_simp;with_reducible rfl
      rotate_left
      ·simp only [Act.put,sIb,sZ,sS,i64_w,i32_w];rfl
      refine pure_ (i:=2) (N:=some 38) (v:=?_) (a':=?_) #[Z,Y,Y,Z,Z,Z,Z,Z,Z] rfl rfl (any_of HT_.out (by kernel_rfl)) (fun _ _ _ h=>h) (Or.inl ⟨by rfl,?_⟩) ?_ ?_;rotate_left
      ·intro w';go_simp;with_reducible rfl
      rotate_left
      ·simp only [Act.put,sIb,sZ,sS,i64_w,i32_w];rfl
      refine pure_ (i:=5) (N:=some 41) (v:=?_) (a':=?_) #[Z,Y,Y,Z,Z,Y,Z,Z,Z] rfl rfl (any_of HT_.out (by kernel_rfl)) (fun _ _ _ h=>h) (Or.inl ⟨by rfl,?_⟩) ?_ ?_;rotate_left
      ·intro w';go_simp;with_reducible rfl
      rotate_left
      ·simp only [Act.put,sIb,sZ,sS,i64_w,i32_w];rfl
      have MLT:=qK FR.out.lt;have ANE:=qK (FR.out.ne BKA.out);refine inv_at [0,3,4,6,7,8] (fun a0_ b a w'=>∃ (v:Value) (g:Nat) (m6:Value) (m7:Value),a=putSel a0_ b [(0,36,.agg #[.slice A0 l0.length c0,.slice A1 l1.length c1]),(3,39,.int .i64 ji24),(4,40,.int .i64 (Go.bits .andNot .i64 a1 (ji24))),(6,42,m6),(7,13,m7)]∧FrM (BF l0 l1) 3 w0 M w'∧Kept W1 w' (fun k_=>k_=M)∧(b 6=true→m6=.agg #[v,.int .i64 t276]∧Kd.R (Kd.int .i64) 3 w' w0.heap.size (fun k_=>k_ ≠ M) v t273)∧(b 7=true→m7=.pointer (some ⟨g,0,none⟩)∧W1.heap.size≤g)∧(b 7=true→b 8=false→w'.heap[g]?=some (.cells #[.slice none 0 0,.int .i64 0] 54 (0,0)))∧(b 8=true→w'.heap[g]?=some (.cells #[v,.int .i64 t276] 54 (0,0)))) HT_.out HW_.out (by kernel_rfl) (by kernel_rfl) ?_ ?_ ?_
      ·exact ⟨.bool false,0,.bool false,.bool false,by simp only [putSel,Bool.false_eq_true,if_false],FR.out,Kept.refl _ _,fun h_=>absurd h_ (by decide),fun h_=>absurd h_ (by decide),fun h_=>absurd h_ (by decide),fun h_=>absurd h_ (by decide)⟩
      ·refine steps_cons ?_ ?_
       ·rintro b a w' ⟨v,g,m6,m7,ha,QF,QK,Q6,Q7,Q78,Q8⟩ hb_ hon hoff;refine ⟨_,rfl,fun K hK=>?_⟩;have e3:a.tmps[3]?=some (.pointer (some ⟨gA,0,none⟩)):=by rw [ha];exact (putSel_off rfl).trans rfl
        replace ha:=qK ha;have BA:=qK (blk_kept BKA.out QK ANE.out);have hc0_:w'.cell? ⟨gA,0,none⟩=some (.slice A0 l0.length c0):=(qC BA.out 0).trans rfl;have hc1_:w'.cell? ⟨gA,1,none⟩=some (.slice A1 l1.length c1):=(qC BA.out 1).trans rfl;refine value_ (w1:=w') (v:=.agg #[.slice A0 l0.length c0,.slice A1 l1.length c1]) (by rfl) rfl ?_ ?_
        ·go_simp;(try simp only [i64_w]);try rfl
        exact hK.out _ _ ⟨v,g,m6,m7,(by rw [ha.out];exact putSel_upk 0 hb_ rfl rfl rfl),QF,QK,Q6,Q7,Q78,Q8⟩
       refine steps_cons ?_ ?_
       ·rintro b a w' ⟨v,g,m6,m7,ha,QF,QK,Q6,Q7,Q78,Q8⟩ hb_ hon hoff;refine ⟨_,rfl,fun K hK=>?_⟩;have e38:a.tmps[38]?=some (.int .i64 (rd t267 x)):=by rw [ha];exact (putSel_off rfl).trans rfl
        replace ha:=qK ha;refine value_ (w1:=w') (v:=.int .i64 ji24) (by rfl) rfl ?_ ?_
        ·go_simp;(try simp only [i64_w]);try rfl
        exact hK.out _ _ ⟨v,g,m6,m7,(by rw [ha.out];exact putSel_upk 1 hb_ rfl rfl rfl),QF,QK,Q6,Q7,Q78,Q8⟩
       refine steps_cons ?_ ?_
       ·rintro b a w' ⟨v,g,m6,m7,ha,QF,QK,Q6,Q7,Q78,Q8⟩ hb_ hon hoff;refine ⟨_,rfl,fun K hK=>?_⟩;have e37:a.tmps[37]?=some (.int .i64 a1):=by rw [ha];exact (putSel_off rfl).trans rfl
        have e39:a.tmps[39]?=some (.int .i64 ji24):=by rw [ha];exact putSel_on (e:=(3,39,.int .i64 ji24)) 1 rfl rfl (hon 3 (by kernel_rfl)) rfl
        replace ha:=qK ha;refine value_ (w1:=w') (v:=.int .i64 (Go.bits .andNot .i64 a1 (ji24))) (by rfl) rfl ?_ ?_
        ·go_simp;(try simp only [i64_w]);try rfl
        exact hK.out _ _ ⟨v,g,m6,m7,(by rw [ha.out];exact putSel_upk 2 hb_ rfl rfl rfl),QF,QK,Q6,Q7,Q78,Q8⟩
       refine steps_cons ?_ ?_
       ·rintro b a w' ⟨v,g,m6,m7,ha,QF,QK,Q6,Q7,Q78,Q8⟩ hb_ hon hoff;refine ⟨_,rfl,fun K hK=>?_⟩;have e36:a.tmps[36]?=some (.agg #[.slice A0 l0.length c0,.slice A1 l1.length c1]):=by rw [ha];exact putSel_on (e:=(0,36,.agg #[.slice A0 l0.length c0,.slice A1 l1.length c1])) 0 rfl rfl (hon 0 (by kernel_rfl)) rfl
        have e40:a.tmps[40]?=some (.int .i64 (Go.bits .andNot .i64 a1 (ji24))):=by rw [ha];exact putSel_on (e:=(4,40,.int .i64 (Go.bits .andNot .i64 a1 (ji24)))) 2 rfl rfl (hon 4 (by kernel_rfl)) rfl
        have e41:a.tmps[41]?=some (.map (some M)):=by rw [ha];exact (putSel_off rfl).trans rfl
        replace ha:=qK ha;refine goes_ Try.func35 (by kernel_rfl) rfl #[.agg #[.slice A0 l0.length c0,.slice A1 l1.length c1],.int .i64 (Go.bits .andNot .i64 a1 (ji24)),.map (some M)] (by rfl) rfl rfl (by simp only [mT,mC,mN,Act.eval,e36,e40,e41,Array.getD_eq_getD_getElem?,Option.getD_some]) ?_;with_reducible refine (ih k1 (by have:=HK1.out;omega) _ _ l0 _ _ l1 (Go.bits .andNot .i64 a1 (ji24)) M t273 t276 w0 _ HM.out HR0.out HC0.out HR1.out HC1.out QF A25.out).mono ?_
        rintro e w31 ⟨v2,rfl,ho0,hf,hk⟩;refine ⟨_,rfl,?_⟩;exact hK.out _ _ ⟨v2,g,(.agg #[v2,.int .i64 t276]),m7,(by rw [ha.out];exact putSel_upk 3 hb_ rfl rfl rfl),hf,Kept.then_ QK hk (fun k_ h_=>.inl h_),fun _=>⟨rfl,ho0⟩,Q7,fun h7 h8=>blk_kept (Q78 h7 h8) hk (by have:=(Q7 h7).2;have:=MLT.out;omega),fun h8=>absurd ((hoff 8 (by kernel_rfl)).symm.trans h8) (by decide)⟩
       refine steps_cons ?_ ?_
       ·rintro b a w' ⟨v,g,m6,m7,ha,QF,QK,Q6,Q7,Q78,Q8⟩ hb_ hon hoff;refine ⟨_,rfl,fun K hK=>?_⟩;replace ha:=qK ha;refine box_step ?hg (N:=13) ?hd (cs:=#[.slice none 0 0,.int .i64 0]) (t:=54) ?hr ?_;(case hd=>rfl);(case hg=>rfl);(case hr=>(go_simp;try rfl));intro g2 hg w31 hbox hb;exact hK.out _ _ ⟨v,g2,m6,(.pointer (some ⟨g2,0,none⟩)),(by rw [ha.out];exact putSel_upk 4 hb_ rfl rfl rfl),QF.below_ hb,Kept.below QK hb,fun h6=>⟨(Q6 h6).1,rB (Q6 h6).2 hb⟩,fun _=>⟨rfl,by rw [hg];exact QK.1⟩,fun _ _=>hbox,fun h8=>absurd ((hoff 8 (by kernel_rfl)).symm.trans h8) (by decide)⟩
       refine steps_cons ?_ ?_
       ·rintro b a w' ⟨v,g,m6,m7,ha,QF,QK,Q6,Q7,Q78,Q8⟩ hb_ hon hoff;refine ⟨_,rfl,fun K hK=>?_⟩;have h6:=hon 6 (by kernel_rfl);have h7:=hon 7 (by kernel_rfl);have e13:a.tmps[13]?=some (m7):=by rw [ha];exact putSel_on (e:=(7,13,m7)) 4 rfl rfl h7 rfl
        rw [(Q7 h7).1] at e13;have e42:a.tmps[42]?=some (m6):=by rw [ha];exact putSel_on (e:=(6,42,m6)) 3 rfl rfl h6 rfl
        rw [(Q6 h6).1] at e42;replace ha:=qK ha;have BX:=qK (Q78 h7 hb_);have RV:=qK (Q6 h6).2;have GX:=qK (show w0.heap.size≤g from Nat.le_trans FR.out.below.size (Q7 h7).2);obtain ⟨Av,cv,ev⟩:=Kd.R_slice RV.out;subst ev;have hs0:w'.cell? ⟨g,0,none⟩=some (.slice none 0 0):=(qC BX.out 0).trans rfl;have hs1:w'.cell? ⟨g,1,none⟩=some (.int .i64 0):=(qC BX.out 1).trans rfl;have hf0:=qF BX.out 0;have hf1:=qF BX.out 1;have Q6':=qK Q6;have Q7':=qK Q7;clear Q6 Q7 Q78 Q8;refine skip_ (w1:=?_) (by rfl) rfl ?_ ?_;rotate_left
        ·go_simp;rfl
        have hb1:=qP (cs:=#[.slice none 0 0,.int .i64 0]) BX.out 0 (.slice Av t273.length cv) rfl;exact hK.out _ _ ⟨.slice Av t273.length cv,g,m6,m7,(by rw [ha.out];exact putSel_none (v:=undef) rfl),(QF.set GX.out BX.out (by decide)).set GX.out hb1 (by decide),Kept.setCell (Kept.setCell QK (.inr (Q7'.out h7).2) _) (.inr (Q7'.out h7).2) _,fun _=>⟨(Q6'.out h6).1,Kd.R_mono (Kd.R_far (p:=⟨g,1,none⟩) (Kd.R_far (p:=⟨g,0,none⟩) (Kd.R_types RV.out BX.out (by decide)) (fun _ hk=>hk.2) _) (fun _ hk=>hk.2) _) (fun _ hk=>hk.1)⟩,Q7'.out,fun _ h8=>absurd (show true=false from h8) (by decide),fun _=>qP (cs:=#[.slice Av t273.length cv,.int .i64 0]) hb1 1 _ rfl⟩
       exact steps_nil
      rintro b a w36 hall ⟨v,g,m6,m7,ha,QF,QK,Q6,Q7,Q78,Q8⟩;have hb0_:=hall 0 (by kernel_rfl);have hb3_:=hall 3 (by kernel_rfl);have hb4_:=hall 4 (by kernel_rfl);have hb6_:=hall 6 (by kernel_rfl);have hb7_:=hall 7 (by kernel_rfl);have hb8_:=hall 8 (by kernel_rfl);subst ha;obtain rfl:=(Q6 hb6_).1;obtain rfl:=(Q7 hb7_).1;simp only [putSel,hb0_,hb3_,hb4_,hb6_,hb7_,hb8_,if_true,Act.put,List.setIfInBounds_toArray,List.set_cons_zero,List.set_cons_succ];have hbd:=below_drew (Below.refl w36.heap.size w36);have HOd:=qK (rW (Kd.R_step HO.out (fun k ho hk=>QK.2 k hk ho)));have HUd:=qK (rW (Kd.R_step HU.out (fun k ho hk=>QK.2 k hk ho)));have BKAd:=qK (qW (blk_kept BKA.out QK ANE.out));have BKBd:=qK (qW (blk_kept BKB.out QK (FR.out.ne BKB.out)));have BKDd:=qK (qW (blk_kept BKD.out QK (FR.out.ne BKD.out)));have FRd:=qK (QF.below_ hbd);have HKd:=qK (Kept.below (Kept.then_ HK.out QK (fun k_ h_=>.inl h_)) hbd);have RV:=qK (rW (Q6 hb6_).2);have BKG:=qK (qW (Q8 hb8_));clear HO HU BKA BKB BKD FR HK hbd QF QK Q6 Q7 Q78 Q8 hall hb0_ hb3_ hb4_ hb6_ hb7_ hb8_ MLT ANE;have HO:=HOd;have HU:=HUd;have BKA:=BKAd;have BKB:=BKBd;have BKD:=BKDd;have FR:=FRd;have HK:=HKd;clear HOd HUd BKAd BKBd BKDd FRd HKd;obtain ⟨Av,cv,ev⟩:=Kd.R_slice RV.out;subst ev;try go_wp2
      refine start_ (n:=15) (S:=fun w'=>True) (ds:=[]) #[Z,Z,Z,Z,Z,Z,Z,Z,Z,Z,Z,Z,Z,Z,Z] (by kernel_rfl) rfl rfl trivial (fun hHeld=>?_);refine with_tabW impl_Stats_best.tab12 impl_Stats_best.bits12 (fun HT_ HW_=>?_);generalize w36.drew=W2 at HO HU BKA BKB BKD FR HK RV BKG hHeld ⊢
      refine pure_ (i:=0) (N:=some 43) (v:=?_) (a':=?_) #[Y,Z,Z,Z,Z,Z,Z,Z,Z,Z,Z,Z,Z,Z,Z] rfl rfl (any_of HT_.out (by kernel_rfl)) (fun _ _ _ h=>h) (Or.inl ⟨by rfl,?_⟩) ?_ ?_;rotate_left
      ·intro w';go_simp;with_reducible rfl
      rotate_left
      ·simp only [Act.put,sIb,sZ,sS,i64_w,i32_w];rfl
      refine pure_ (i:=3) (N:=some 46) (v:=?_) (a':=?_) #[Y,Z,Z,Y,Z,Z,Z,Z,Z,Z,Z,Z,Z,Z,Z] rfl rfl (any_of HT_.out (by kernel_rfl)) (fun _ _ _ h=>h) (Or.inl ⟨by rfl,?_⟩) ?_ ?_;rotate_left
      ·intro w';go_simp;with_reducible rfl
      rotate_left
      ·simp only [Act.put,sIb,sZ,sS,i64_w,i32_w];rfl
      refine pure_ (i:=6) (N:=some 49) (v:=?_) (a':=?_) #[Y,Z,Z,Y,Z,Z,Y,Z,Z,Z,Z,Z,Z,Z,Z] rfl rfl (any_of HT_.out (by kernel_rfl)) (fun _ _ _ h=>h) (Or.inl ⟨by rfl,?_⟩) ?_ ?_;rotate_left
      ·intro w';go_simp;with_reducible rfl
      rotate_left
      ·simp only [Act.put,sIb,sZ,sS,i64_w,i32_w];rfl
      refine pure_ (i:=9) (N:=some 52) (v:=?_) (a':=?_) #[Y,Z,Z,Y,Z,Z,Y,Z,Z,Y,Z,Z,Z,Z,Z] rfl rfl (any_of HT_.out (by kernel_rfl)) (fun _ _ _ h=>h) (Or.inl ⟨by rfl,?_⟩) ?_ ?_;rotate_left
      ·intro w';go_simp;with_reducible rfl
      rotate_left
      ·simp only [Act.put,sIb,sZ,sS,i64_w,i32_w];rfl
      refine inv_at [1,2,4,5,7,8,10,11,12,13,14] (fun a0_ b a w'=>∃ (m2 m4 m5 m12:Value) (g2:Nat) (m13:Value),a=putSel a0_ b [(1,44,.slice Av t273.length cv),(2,45,m2),(4,47,m4),(5,48,m5),(7,50,.int .i64 t276),(8,51,.agg #[.slice A0 l0.length c0,.slice A1 l1.length c1]),(10,53,.int .i64 t287),(11,54,.int .i64 (wrap64 (t276 + t287))),(12,55,m12),(13,14,m13)]∧Below W2.heap.size W2 w'∧(b 2=true→b 5=false→Kd.R (Kd.int .i64) 3 w' W2.heap.size (fun _=>True) m2 t278)∧(b 4=true→b 5=false→Kd.R (Kd.int .i64) 3 w' W2.heap.size (fun _=>True) m4 y281)∧(b 5=true→Kd.R (Kd.int .i64) 3 w' W2.heap.size (fun _=>True) m5 y284)∧(b 12=true→m12=.agg #[m5,.int .i64 (wrap64 (t276 + t287))])∧(b 13=true→m13=.pointer (some ⟨g2,0,none⟩)∧W2.heap.size≤g2)∧(b 13=true→b 14=false→w'.heap[g2]?=some (.cells #[.slice none 0 0,.int .i64 0] 54 (0,0)))∧(b 14=true→w'.heap[g2]?=some (.cells #[m5,.int .i64 (wrap64 (t276 + t287))] 54 (0,0)))) HT_.out HW_.out (by kernel_rfl) (by kernel_rfl) ?_ ?_ ?_
      ·exact ⟨.bool false,.bool false,.bool false,.bool false,0,.bool false,by simp only [putSel,Bool.false_eq_true,if_false],Below.refl _ _,fun h_=>absurd h_ (by decide),fun h_=>absurd h_ (by decide),fun h_=>absurd h_ (by decide),fun h_=>absurd h_ (by decide),fun h_=>absurd h_ (by decide),fun h_=>absurd h_ (by decide),fun h_=>absurd h_ (by decide)⟩
      ·skip
       refine steps_cons ?_ ?_
       ·rintro b a w' ⟨m2,m4,m5,m12,g2,m13,ha,QB,Q2,Q4,Q5,Q12,Q13,QZ,Q14⟩ hb_ hon hoff;refine ⟨_,rfl,fun K hK=>?_⟩;have e43:a.tmps[43]?=some (.pointer (some ⟨g,0,none⟩)):=by rw [ha];exact (putSel_off rfl).trans rfl
        replace ha:=qK ha;have BX:=qK (qB BKG.out QB);have hx0:w'.cell? ⟨g,0,none⟩=some (.slice Av t273.length cv):=(qC BX.out 0).trans rfl;refine value_ (w1:=w') (v:=.slice Av t273.length cv) (by rfl) rfl ?_ ?_
        ·go_simp;(try simp only [i64_w]);try rfl
        exact hK.out _ _ ⟨m2,m4,m5,m12,g2,m13,(by rw [ha.out];exact putSel_upk 0 hb_ rfl rfl rfl),QB,Q2,Q4,Q5,Q12,Q13,QZ,Q14⟩
       refine steps_cons ?_ ?_
       ·rintro b a w' ⟨m2,m4,m5,m12,g2,m13,ha,QB,Q2,Q4,Q5,Q12,Q13,QZ,Q14⟩ hb_ hon hoff;refine ⟨_,rfl,fun K hK=>?_⟩;have e44:a.tmps[44]?=some (.slice Av t273.length cv):=by rw [ha];exact putSel_on (e:=(1,44,.slice Av t273.length cv)) 0 rfl rfl (hon 1 (by kernel_rfl)) rfl
        replace ha:=qK ha;refine goes_ Try.func57 (by kernel_rfl) rfl #[.slice Av t273.length cv] (by rfl) rfl rfl (by simp only [mT,mC,mN,Act.eval,e44,Array.getD_eq_getD_getElem?,Option.getD_some]) ?_;have RV2:=rB RV.out QB;with_reducible refine (clone_Int.calls _ _ t273 t278 _ (Kd.R_reads' RV2).2.2 (Kd.R_reads' RV2).2.1 A26.out).mono ?_
        rintro e w31 ⟨v2,rfl,ho0,hb⟩;refine ⟨_,rfl,?_⟩;exact hK.out _ _ ⟨v2,m4,m5,m12,g2,m13,(by rw [ha.out];exact putSel_upk 1 hb_ rfl rfl rfl),qT QB hb,fun _ _=>Kd.R_lower ho0 QB.size,fun h4 h5=>rB (Q4 h4 h5) hb,fun h_=>absurd ((hoff 5 (by kernel_rfl)).symm.trans h_) (by decide),Q12,Q13,fun h13 h14=>qB (QZ h13 h14) hb,fun h14=>qB (Q14 h14) hb⟩
       refine steps_cons ?_ ?_
       ·rintro b a w' ⟨m2,m4,m5,m12,g2,m13,ha,QB,Q2,Q4,Q5,Q12,Q13,QZ,Q14⟩ hb_ hon hoff;refine ⟨_,rfl,fun K hK=>?_⟩;have e46:a.tmps[46]?=some (.int .i64 (rd t267 x)):=by rw [ha];exact (putSel_off rfl).trans rfl
        replace ha:=qK ha;refine Kd.R_lit_step (Kd.int .i64) _ 3 ?hg (N:=47) ?hd (xs:=([rd t267 x]:List Int)) (inner:=[.int .i64 (rd t267 x)]) (ok:=fun _=>True) (okp:=fun _=>True) ?hr ?hp (fun _ hk=>hk) trivial (Below.refl _ _) (Nat.le_refl _) (by simp) ?_;(case hd=>rfl);(case hg=>rfl);(case hr=>(go_simp;try rfl));(case hp=>exact (Reps.one (show Kd.M (Kd.int .i64) _ _ _ (rd t267 x) [.int .i64 (rd t267 x)] from rfl) (Reps.none _ _)));intro v2 w31 ho0 hb hg_ hnew_;rw [← Ny281.out] at ho0;exact hK.out _ _ ⟨m2,v2,m5,m12,g2,m13,(by rw [ha.out];exact putSel_upk 2 hb_ rfl rfl rfl),qT QB hb,fun h2 h5=>rB (Q2 h2 h5) hb,fun _ _=>Kd.R_lower ho0 QB.size,fun h_=>absurd ((hoff 5 (by kernel_rfl)).symm.trans h_) (by decide),Q12,Q13,fun h13 h14=>qB (QZ h13 h14) hb,fun h14=>qB (Q14 h14) hb⟩
       refine steps_cons ?_ ?_
       ·rintro b a w' ⟨m2,m4,m5,m12,g2,m13,ha,QB,Q2,Q4,Q5,Q12,Q13,QZ,Q14⟩ hb_ hon hoff;refine ⟨_,rfl,fun K hK=>?_⟩;have h2:=hon 2 (by kernel_rfl);have h4:=hon 4 (by kernel_rfl);have R2:=qK (Q2 h2 hb_);have R4:=qK (Q4 h4 hb_);obtain ⟨A4_,c4_,e4_⟩:=Kd.R_slice R4.out;subst e4_;have e45:a.tmps[45]?=some (m2):=by rw [ha];exact putSel_on (e:=(2,45,m2)) 1 rfl rfl (hon 2 (by kernel_rfl)) rfl
        have e47:a.tmps[47]?=some (.slice A4_ y281.length c4_):=by rw [ha];exact putSel_on (e:=(4,47,.slice A4_ y281.length c4_)) 2 rfl rfl (hon 4 (by kernel_rfl)) rfl
        replace ha:=qK ha;refine Kd.R_append_rows_step (Kd.int .i64) (w0:=W2) W2.heap.size (by rfl) (.tmp 45) (.tmp 47) 22 3 (.int .i64 0) 8 rfl Try.underlying22 info3 rfl (by decide) (by omega) m2 t278 y281 A4_ y281.length c4_ (fun _=>True) (fun _=>False) (by simp only [Act.eval,e45,Array.getD_eq_getD_getElem?,Option.getD_some]) (by simp only [Act.eval,e47,Array.getD_eq_getD_getElem?,Option.getD_some]) R2.out (Kd.R_reads' R4.out).2.2 (fun _ _ h=>h) (fun _ h=>h.elim) (fun _ _=>trivial) QB QB.size (by have:=LMc27.out;omega) ?_;intro v2 w31 ho hb hg hat;rw [← Ny284.out] at ho;exact hK.out _ _ ⟨m2,(.slice A4_ y281.length c4_),v2,m12,g2,m13,(by rw [ha.out];exact putSel_upk 3 hb_ rfl rfl rfl),hb,fun _ h_=>absurd (show true=false from h_) (by decide),fun _ h_=>absurd (show true=false from h_) (by decide),fun _=>ho,fun h_=>absurd ((hoff 12 (by kernel_rfl)).symm.trans h_) (by decide),Q13,fun h13 h14=>blk_grown (QZ h13 h14) hg (Kd.R_ne R2.out (QZ h13 h14) (by decide)),fun h_=>absurd ((hoff 14 (by kernel_rfl)).symm.trans h_) (by decide)⟩
       refine steps_cons ?_ ?_
       ·rintro b a w' ⟨m2,m4,m5,m12,g2,m13,ha,QB,Q2,Q4,Q5,Q12,Q13,QZ,Q14⟩ hb_ hon hoff;refine ⟨_,rfl,fun K hK=>?_⟩;have e49:a.tmps[49]?=some (.pointer (some ⟨g,1,none⟩)):=by rw [ha];exact (putSel_off rfl).trans rfl
        replace ha:=qK ha;have BX:=qK (qB BKG.out QB);have hx1:w'.cell? ⟨g,1,none⟩=some (.int .i64 t276):=(qC BX.out 1).trans rfl;refine value_ (w1:=w') (v:=.int .i64 t276) (by rfl) rfl ?_ ?_
        ·go_simp;(try simp only [i64_w]);try rfl
        exact hK.out _ _ ⟨m2,m4,m5,m12,g2,m13,(by rw [ha.out];exact putSel_upk 4 hb_ rfl rfl rfl),QB,Q2,Q4,Q5,Q12,Q13,QZ,Q14⟩
       refine steps_cons ?_ ?_
       ·rintro b a w' ⟨m2,m4,m5,m12,g2,m13,ha,QB,Q2,Q4,Q5,Q12,Q13,QZ,Q14⟩ hb_ hon hoff;refine ⟨_,rfl,fun K hK=>?_⟩;have e3:a.tmps[3]?=some (.pointer (some ⟨gA,0,none⟩)):=by rw [ha];exact (putSel_off rfl).trans rfl
        replace ha:=qK ha;have BX:=qK (qB BKA.out QB);have hx0:w'.cell? ⟨gA,0,none⟩=some (.slice A0 l0.length c0):=(qC BX.out 0).trans rfl;have hx1:w'.cell? ⟨gA,1,none⟩=some (.slice A1 l1.length c1):=(qC BX.out 1).trans rfl;refine value_ (w1:=w') (v:=.agg #[.slice A0 l0.length c0,.slice A1 l1.length c1]) (by rfl) rfl ?_ ?_
        ·go_simp;(try simp only [i64_w]);try rfl
        exact hK.out _ _ ⟨m2,m4,m5,m12,g2,m13,(by rw [ha.out];exact putSel_upk 5 hb_ rfl rfl rfl),QB,Q2,Q4,Q5,Q12,Q13,QZ,Q14⟩
       refine steps_cons ?_ ?_
       ·rintro b a w' ⟨m2,m4,m5,m12,g2,m13,ha,QB,Q2,Q4,Q5,Q12,Q13,QZ,Q14⟩ hb_ hon hoff;refine ⟨_,rfl,fun K hK=>?_⟩;have e51:a.tmps[51]?=some (.agg #[.slice A0 l0.length c0,.slice A1 l1.length c1]):=by rw [ha];exact putSel_on (e:=(8,51,.agg #[.slice A0 l0.length c0,.slice A1 l1.length c1])) 5 rfl rfl (hon 8 (by kernel_rfl)) rfl
        have e52:a.tmps[52]?=some (.int .i64 a1):=by rw [ha];exact (putSel_off rfl).trans rfl
        replace ha:=qK ha;refine goes_ Try.func43 (by kernel_rfl) rfl #[.agg #[.slice A0 l0.length c0,.slice A1 l1.length c1],.int .i64 a1] (by rfl) rfl rfl (by simp only [mT,mC,mN,Act.eval,e51,e52,Array.getD_eq_getD_getElem?,Option.getD_some]) ?_;have BW:=(FR.out.below_ QB).below;with_reducible refine (impl_Stats_size.calls k1 _ _ l0 _ _ l1 a1 t287 _ (cB HR0.out BW) HC0.out (cB HR1.out BW) HC1.out A28.out).mono ?_
        rintro e w31 ⟨rfl,hb⟩;refine ⟨_,rfl,?_⟩;exact hK.out _ _ ⟨m2,m4,m5,m12,g2,m13,(by rw [ha.out];exact putSel_upk 6 hb_ rfl rfl rfl),qT QB hb,fun h2 h5=>rB (Q2 h2 h5) hb,fun h4 h5=>rB (Q4 h4 h5) hb,fun h5=>rB (Q5 h5) hb,Q12,Q13,fun h13 h14=>qB (QZ h13 h14) hb,fun h14=>qB (Q14 h14) hb⟩
       refine steps_cons ?_ ?_
       ·rintro b a w' ⟨m2,m4,m5,m12,g2,m13,ha,QB,Q2,Q4,Q5,Q12,Q13,QZ,Q14⟩ hb_ hon hoff;refine ⟨_,rfl,fun K hK=>?_⟩;have e50:a.tmps[50]?=some (.int .i64 t276):=by rw [ha];exact putSel_on (e:=(7,50,.int .i64 t276)) 4 rfl rfl (hon 7 (by kernel_rfl)) rfl
        have e53:a.tmps[53]?=some (.int .i64 t287):=by rw [ha];exact putSel_on (e:=(10,53,.int .i64 t287)) 6 rfl rfl (hon 10 (by kernel_rfl)) rfl
        replace ha:=qK ha;refine value_ (w1:=w') (v:=.int .i64 (wrap64 (t276 + t287))) (by rfl) rfl ?_ ?_
        ·go_simp;(try simp only [i64_w]);try rfl
        exact hK.out _ _ ⟨m2,m4,m5,m12,g2,m13,(by rw [ha.out];exact putSel_upk 7 hb_ rfl rfl rfl),QB,Q2,Q4,Q5,Q12,Q13,QZ,Q14⟩
       refine steps_cons ?_ ?_
       ·rintro b a w' ⟨m2,m4,m5,m12,g2,m13,ha,QB,Q2,Q4,Q5,Q12,Q13,QZ,Q14⟩ hb_ hon hoff;refine ⟨_,rfl,fun K hK=>?_⟩;have R5:=Q5 (hon 5 (by kernel_rfl));obtain ⟨A5_,c5_,e5_⟩:=Kd.R_slice R5;subst e5_;have e48:a.tmps[48]?=some (.slice A5_ y284.length c5_):=by rw [ha];exact putSel_on (e:=(5,48,.slice A5_ y284.length c5_)) 3 rfl rfl (hon 5 (by kernel_rfl)) rfl
        have e54:a.tmps[54]?=some (.int .i64 (wrap64 (t276 + t287))):=by rw [ha];exact putSel_on (e:=(11,54,.int .i64 (wrap64 (t276 + t287)))) 7 rfl rfl (hon 11 (by kernel_rfl)) rfl
        replace ha:=qK ha;refine value_ (w1:=w') (v:=.agg #[.slice A5_ y284.length c5_,.int .i64 (wrap64 (t276 + t287))]) (by rfl) rfl ?_ ?_
        ·go_simp;(try simp only [i64_w]);try rfl
        exact hK.out _ _ ⟨m2,m4,.slice A5_ y284.length c5_,_,g2,m13,(by rw [ha.out];exact putSel_upk 8 hb_ rfl rfl rfl),QB,Q2,Q4,Q5,fun _=>rfl,Q13,QZ,Q14⟩
       refine steps_cons ?_ ?_
       ·rintro b a w' ⟨m2,m4,m5,m12,g2,m13,ha,QB,Q2,Q4,Q5,Q12,Q13,QZ,Q14⟩ hb_ hon hoff;refine ⟨_,rfl,fun K hK=>?_⟩;replace ha:=qK ha;refine box_step ?hg (N:=14) ?hd (cs:=#[.slice none 0 0,.int .i64 0]) (t:=54) ?hr ?_;(case hd=>rfl);(case hg=>rfl);(case hr=>(go_simp;try rfl));intro g3 hg w31 hbox hb;exact hK.out _ _ ⟨m2,m4,m5,m12,g3,(.pointer (some ⟨g3,0,none⟩)),(by rw [ha.out];exact putSel_upk 9 hb_ rfl rfl rfl),qT QB hb,fun h2 h5=>rB (Q2 h2 h5) hb,fun h4 h5=>rB (Q4 h4 h5) hb,fun h5=>rB (Q5 h5) hb,Q12,fun _=>⟨rfl,by rw [hg];exact QB.size⟩,fun _ _=>hbox,fun h_=>absurd ((hoff 14 (by kernel_rfl)).symm.trans h_) (by decide)⟩
       refine steps_cons ?_ ?_
       ·rintro b a w' ⟨m2,m4,m5,m12,g2,m13,ha,QB,Q2,Q4,Q5,Q12,Q13,QZ,Q14⟩ hb_ hon hoff;refine ⟨_,rfl,fun K hK=>?_⟩;have h5:=hon 5 (by kernel_rfl);have h12:=hon 12 (by kernel_rfl);have h13:=hon 13 (by kernel_rfl);have e14:a.tmps[14]?=some (m13):=by rw [ha];exact putSel_on (e:=(13,14,m13)) 9 rfl rfl (hon 13 (by kernel_rfl)) rfl
        rw [(Q13 h13).1] at e14;have e55:a.tmps[55]?=some (m12):=by rw [ha];exact putSel_on (e:=(12,55,m12)) 8 rfl rfl (hon 12 (by kernel_rfl)) rfl
        rw [Q12 h12] at e55;replace ha:=qK ha;have BX:=qK (QZ h13 hb_);have R5:=qK (Q5 h5);have GX:=qK (Q13 h13).2;obtain ⟨A5_,c5_,e5_⟩:=Kd.R_slice R5.out;subst e5_;have hs0:w'.cell? ⟨g2,0,none⟩=some (.slice none 0 0):=(qC BX.out 0).trans rfl;have hs1:w'.cell? ⟨g2,1,none⟩=some (.int .i64 0):=(qC BX.out 1).trans rfl;have hf0:=qF BX.out 0;have hf1:=qF BX.out 1;have Q12':=qK Q12;have Q13':=qK Q13;clear Q2 Q4 Q5 Q12 Q13 QZ Q14;refine skip_ (w1:=?_) (by rfl) rfl ?_ ?_;rotate_left
        ·go_simp;rfl
        have hb1:=qP (cs:=#[.slice none 0 0,.int .i64 0]) BX.out 0 (.slice A5_ y284.length c5_) rfl;exact hK.out _ _ ⟨m2,m4,.slice A5_ y284.length c5_,m12,g2,m13,(by rw [ha.out];exact putSel_none (v:=undef) rfl),(QB.setCell GX.out _).setCell GX.out _,fun _ h_=>absurd ((show b 5=true from h5).symm.trans h_) (by decide),fun _ h_=>absurd ((show b 5=true from h5).symm.trans h_) (by decide),fun _=>Kd.R_mono (Kd.R_far (p:=⟨g2,1,none⟩) (Kd.R_far (p:=⟨g2,0,none⟩) (Kd.R_types R5.out BX.out (by decide)) (fun _ hk=>hk.2) _) (fun _ hk=>hk.2) _) (fun _ hk=>hk.1),Q12'.out,Q13'.out,fun _ h_=>absurd (show true=false from h_) (by decide),fun _=>qP (cs:=#[.slice A5_ y284.length c5_,.int .i64 0]) hb1 1 _ rfl⟩
       exact steps_nil
      rintro b a w44 hall ⟨m2,m4,m5,m12,g2,m13,ha,QB,Q2,Q4,Q5,Q12,Q13,QZ,Q14⟩;have hb1_:=hall 1 (by kernel_rfl);have hb2_:=hall 2 (by kernel_rfl);have hb4_:=hall 4 (by kernel_rfl);have hb5_:=hall 5 (by kernel_rfl);have hb7_:=hall 7 (by kernel_rfl);have hb8_:=hall 8 (by kernel_rfl);have hb10_:=hall 10 (by kernel_rfl);have hb11_:=hall 11 (by kernel_rfl);have hb12_:=hall 12 (by kernel_rfl);have hb13_:=hall 13 (by kernel_rfl);have hb14_:=hall 14 (by kernel_rfl);subst ha;obtain rfl:=Q12 hb12_;obtain rfl:=(Q13 hb13_).1;simp only [putSel,hb1_,hb2_,hb4_,hb5_,hb7_,hb8_,hb10_,hb11_,hb12_,hb13_,hb14_,if_true,Act.put,List.setIfInBounds_toArray,List.set_cons_zero,List.set_cons_succ];have RN:=qK (Kd.R_lower (Kd.R_mono (Kd.R_bound (Q5 hb5_)) (fun k_ hk_=>(show k_ ≠ M from by have:=FR.out.lt;have:=hk_.2.1;omega))) FR.out.below.size);have BK2:=qK (Q14 hb14_);have GE2:=qK (show w0.heap.size≤g2 from Nat.le_trans FR.out.below.size (Q13 hb13_).2);have N2D:=qK (show gD ≠ g2 from by have:=blk_lt BKD.out;have:=(Q13 hb13_).2;omega);have HOd:=qK (rB HO.out QB);have HUd:=qK (rB HU.out QB);have BKAd:=qK (qB BKA.out QB);have BKBd:=qK (qB BKB.out QB);have BKDd:=qK (qB BKD.out QB);have HKd:=qK (Kept.below HK.out QB);have FRd:=qK (FR.out.below_ QB);clear HO HU BKA BKB BKD FR HK RV BKG QB Q2 Q4 Q5 Q12 Q13 QZ Q14 hall hb1_ hb2_ hb4_ hb5_ hb7_ hb8_ hb10_ hb11_ hb12_ hb13_ hb14_;have HO:=HOd;have HU:=HUd;have BKA:=BKAd;have BKB:=BKBd;have BKD:=BKDd;have FR:=FRd;have HK:=HKd;clear HOd HUd BKAd BKBd BKDd FRd HKd;obtain ⟨A5,c5,e5⟩:=Kd.R_slice RN.out;subst e5;obtain ⟨S,hS⟩:∃ S,S=wrap64 (t276 + t287):=⟨_,rfl⟩;rw [← hS] at H' BK2 ⊢;clear hS;have hz0:w44.cell? ⟨g2,0,none⟩=some (.slice A5 y284.length c5):=(qC BK2.out 0).trans rfl;have hz1:w44.cell? ⟨g2,1,none⟩=some (.int .i64 S):=(qC BK2.out 1).trans rfl;have hfz0:=qF BK2.out 0;have hfz1:=qF BK2.out 1;have hNe:=qK (show y284 ≠ [] from by rw [Ny284.out,Ny281.out];simp);by_cases c29:(o.length:Int)=0
      ·have H2:=H'.out;rw [if_pos c29] at H2;have H':=qK H2;clear H2;have ho0:o=[]:=List.eq_nil_of_length_eq_zero (by omega);obtain rfl:=HN.out ho0;clear ho0 c29 HN;have hx0:w44.cell? ⟨gD,0,none⟩=some (.slice none 0 0):=(qC BKD.out 0).trans rfl;have hx1:w44.cell? ⟨gD,1,none⟩=some (.int .i64 s):=(qC BKD.out 1).trans rfl;have hfx0:=qF BKD.out 0;have hfx1:=qF BKD.out 1;have hnd:=N2D.out;have hnd':=N2D.out.symm;go_wp2_with (first|((with_reducible refine gate_store (t:=54) (p:=10) rfl ?_);refine store_event (t:=54) (p:=10) (v:=?vo3_) (w1:=((w44.setCell ⟨gD,0,none⟩ (.slice A5 y284.length c5)).setCell ⟨gD,1,none⟩ (.int .i64 S))) ?hg ?ho ?hn ?hr ?_;(case ho=>rfl);(case hg=>rfl);(case hn=>rfl);(case hr=>(go_simp;try rfl));intro w6 hw;have hge:=Nat.le_trans HW0.out GED.out;have hb1:=qP (cs:=#[.slice none 0 0,.int .i64 s]) BKD.out 0 (.slice A5 y284.length c5) rfl;have FR6:=qK (show FrM (BF l0 l1) 3 w0 M w6 from by rw [hw];exact (FR.out.set hge BKD.out (by decide)).set hge hb1 (by decide));have HK6:=qK (show Kept w w6 (fun k_=>k_=M) from by rw [hw];exact Kept.setCell (Kept.setCell HK.out (.inr GED.out) _) (.inr GED.out) _);have BKA6:=qK (show w6.heap[gA]?=some (.cells #[.slice A0 l0.length c0,.slice A1 l1.length c1] 29 (0,0)) from by rw [hw];exact qR (qR BKA.out NAD.out _) NAD.out _);have BKB6:=qK (show w6.heap[gB]?=some (.cells #[.slice none 0 0,.int .i64 0] 54 (0,0)) from by rw [hw];exact qR (qR BKB.out NBD.out _) NBD.out _);have BKD6:=qK (show w6.heap[gD]?=some (.cells #[.slice A5 y284.length c5,.int .i64 S] 54 (0,0)) from by rw [hw];exact qP (cs:=#[.slice A5 y284.length c5,.int .i64 s]) hb1 1 _ rfl);have HO6:=qK (show Kd.R (Kd.int .i64) 3 w6 w0.heap.size (fun k_=>k_ ≠ M) (.slice (some ad272) t267.length co) t267 from by rw [hw];exact Kd.R_mono (Kd.R_far (p:=⟨gD,1,none⟩) (Kd.R_far (p:=⟨gD,0,none⟩) (Kd.R_types HO.out BKD.out (by decide)) (fun _ hk=>hk.2) _) (fun _ hk=>hk.2) _) (fun _ hk=>hk.1));have RN6:=qK (show Kd.R (Kd.int .i64) 3 w6 w0.heap.size (fun k_=>k_ ≠ M) (.slice A5 y284.length c5) y284 from by rw [hw];exact Kd.R_mono (Kd.R_far (p:=⟨gD,1,none⟩) (Kd.R_far (p:=⟨gD,0,none⟩) (Kd.R_types RN.out BKD.out (by decide)) (fun _ hk=>hk.2) _) (fun _ hk=>hk.2) _) (fun _ hk=>hk.1));clear hw hb1 hge))
       go_roundg k1
       case measure=>have:=HK1.out;omega
       case rel=>exact ⟨wrap64 (x + 1),y284,S,.slice A5 y284.length c5,(by first|rfl|(simp;done)|(simp [*];done)),H',⟨by have:=HK1.out;omega⟩,HO6,RN6,⟨fun e_=>absurd e_ hNe.out⟩,BKA6,BKB6,BKD6,FR6,HK6⟩
      ·have H2:=H'.out;rw [if_neg c29] at H2;obtain ⟨gU,cU,eU,_,_,_⟩:=Kd.R_form HU.out (by omega);subst eU;clear c29;have hx0:w44.cell? ⟨gD,0,none⟩=some (.slice (some ⟨gU,0,none⟩) o.length cU):=(qC BKD.out 0).trans rfl;have hx1:w44.cell? ⟨gD,1,none⟩=some (.int .i64 s):=(qC BKD.out 1).trans rfl;have hfx0:=qF BKD.out 0;have hfx1:=qF BKD.out 1;have hnd:=N2D.out;have hnd':=N2D.out.symm;by_cases c30:S < s
       ·have H':=qK (show impl_Stats_best.l0 k1 a1 t267 (t267.length:Int) (wrap64 (x + 1)) l0 l1 y284 S=some (r1,r2) from by rw [if_pos c30] at H2;exact H2);clear H2;have c30b0:decide (S < s)=true:=decide_eq_true c30;clear c30;go_wp2_with (first|((with_reducible refine gate_store (t:=54) (p:=10) rfl ?_);refine store_event (t:=54) (p:=10) (v:=?vo4_) (w1:=((w44.setCell ⟨gD,0,none⟩ (.slice A5 y284.length c5)).setCell ⟨gD,1,none⟩ (.int .i64 S))) ?hg ?ho ?hn ?hr ?_;(case ho=>rfl);(case hg=>rfl);(case hn=>rfl);(case hr=>(go_simp;try rfl));intro w6 hw;have hge:=Nat.le_trans HW0.out GED.out;have hb1:=qP (cs:=#[.slice (some ⟨gU,0,none⟩) o.length cU,.int .i64 s]) BKD.out 0 (.slice A5 y284.length c5) rfl;have FR6:=qK (show FrM (BF l0 l1) 3 w0 M w6 from by rw [hw];exact (FR.out.set hge BKD.out (by decide)).set hge hb1 (by decide));have HK6:=qK (show Kept w w6 (fun k_=>k_=M) from by rw [hw];exact Kept.setCell (Kept.setCell HK.out (.inr GED.out) _) (.inr GED.out) _);have BKA6:=qK (show w6.heap[gA]?=some (.cells #[.slice A0 l0.length c0,.slice A1 l1.length c1] 29 (0,0)) from by rw [hw];exact qR (qR BKA.out NAD.out _) NAD.out _);have BKB6:=qK (show w6.heap[gB]?=some (.cells #[.slice none 0 0,.int .i64 0] 54 (0,0)) from by rw [hw];exact qR (qR BKB.out NBD.out _) NBD.out _);have BKD6:=qK (show w6.heap[gD]?=some (.cells #[.slice A5 y284.length c5,.int .i64 S] 54 (0,0)) from by rw [hw];exact qP (cs:=#[.slice A5 y284.length c5,.int .i64 s]) hb1 1 _ rfl);have HO6:=qK (show Kd.R (Kd.int .i64) 3 w6 w0.heap.size (fun k_=>k_ ≠ M) (.slice (some ad272) t267.length co) t267 from by rw [hw];exact Kd.R_mono (Kd.R_far (p:=⟨gD,1,none⟩) (Kd.R_far (p:=⟨gD,0,none⟩) (Kd.R_types HO.out BKD.out (by decide)) (fun _ hk=>hk.2) _) (fun _ hk=>hk.2) _) (fun _ hk=>hk.1));have RN6:=qK (show Kd.R (Kd.int .i64) 3 w6 w0.heap.size (fun k_=>k_ ≠ M) (.slice A5 y284.length c5) y284 from by rw [hw];exact Kd.R_mono (Kd.R_far (p:=⟨gD,1,none⟩) (Kd.R_far (p:=⟨gD,0,none⟩) (Kd.R_types RN.out BKD.out (by decide)) (fun _ hk=>hk.2) _) (fun _ hk=>hk.2) _) (fun _ hk=>hk.1));clear hw hb1 hge))
        go_roundg k1
        case measure=>have:=HK1.out;omega
        case rel=>exact ⟨wrap64 (x + 1),y284,S,.slice A5 y284.length c5,(by first|rfl|(simp;done)|(simp [*];done)),H',⟨by have:=HK1.out;omega⟩,HO6,RN6,⟨fun e_=>absurd e_ hNe.out⟩,BKA6,BKB6,BKD6,FR6,HK6⟩
       ·rw [if_neg c30] at H2;have c30b0:decide (S < s)=false:=decide_eq_false c30;clear c30;by_cases c31:S=s
        ·rw [if_pos c31] at H2;have c31b0:(S == s)=true:=beq_iff_eq.mpr c31;replace H2:=Option.bind_eq_some_iff.mp H2;obtain ⟨t289,A980,H2⟩:=H2;have A98:=qK A980;clear A980;by_cases c32:t289 < 0
         ·have H':=qK (show impl_Stats_best.l0 k1 a1 t267 (t267.length:Int) (wrap64 (x + 1)) l0 l1 y284 S=some (r1,r2) from by rw [if_pos c32] at H2;exact H2);clear H2;have c32b0:decide (t289 < 0)=true:=decide_eq_true c32;clear c32 c31;go_wp2_with (first|(go_at_call 58;(with_reducible refine (slices_Compare_int_int.calls k1 _ _ y284 _ _ o t289 _ (Kd.R_reads' RN.out).2.2 (Kd.R_reads' RN.out).2.1 (Kd.R_reads' HU.out).2.2 (Kd.R_reads' HU.out).2.1 A98.out).mono ?_);rintro e w5 ⟨rfl,hdr⟩;have hb5:=hdr.below;have HO5:=qK (rB HO.out hb5);have HU5:=qK (rB HU.out hb5);have RN5:=qK (rB RN.out hb5);have BKA5:=qK (qB BKA.out hb5);have BKB5:=qK (qB BKB.out hb5);have BKD5:=qK (qB BKD.out hb5);have BK25:=qK (qB BK2.out hb5);have HK5:=qK (Kept.below HK.out hb5);have FR5:=qK (FR.out.below_ hb5);clear HO HU RN BKA BKB BKD BK2 HK FR hb5 hdr hx0 hx1 hfx0 hfx1 hz0 hz1 hfz0 hfz1;have HO:=HO5;have HU:=HU5;have RN:=RN5;have BKA:=BKA5;have BKB:=BKB5;have BKD:=BKD5;have BK2:=BK25;have HK:=HK5;have FR:=FR5;clear HO5 HU5 RN5 BKA5 BKB5 BKD5 BK25 HK5 FR5;have hz0:w5.cell? ⟨g2,0,none⟩=some (.slice A5 y284.length c5):=(qC BK2.out 0).trans rfl;have hz1:w5.cell? ⟨g2,1,none⟩=some (.int .i64 S):=(qC BK2.out 1).trans rfl;have hfz0:=qF BK2.out 0;have hfz1:=qF BK2.out 1;have hx0:w5.cell? ⟨gD,0,none⟩=some (.slice (some ⟨gU,0,none⟩) o.length cU):=(qC BKD.out 0).trans rfl;have hx1:w5.cell? ⟨gD,1,none⟩=some (.int .i64 s):=(qC BKD.out 1).trans rfl;have hfx0:=qF BKD.out 0;have hfx1:=qF BKD.out 1)|((with_reducible refine gate_store (t:=54) (p:=10) rfl ?_);refine store_event (t:=54) (p:=10) (v:=?vo5_) (w1:=((w5.setCell ⟨gD,0,none⟩ (.slice A5 y284.length c5)).setCell ⟨gD,1,none⟩ (.int .i64 S))) ?hg ?ho ?hn ?hr ?_;(case ho=>rfl);(case hg=>rfl);(case hn=>rfl);(case hr=>(go_simp;try rfl));intro w6 hw;have hge:=Nat.le_trans HW0.out GED.out;have hb1:=qP (cs:=#[.slice (some ⟨gU,0,none⟩) o.length cU,.int .i64 s]) BKD.out 0 (.slice A5 y284.length c5) rfl;have FR6:=qK (show FrM (BF l0 l1) 3 w0 M w6 from by rw [hw];exact (FR.out.set hge BKD.out (by decide)).set hge hb1 (by decide));have HK6:=qK (show Kept w w6 (fun k_=>k_=M) from by rw [hw];exact Kept.setCell (Kept.setCell HK.out (.inr GED.out) _) (.inr GED.out) _);have BKA6:=qK (show w6.heap[gA]?=some (.cells #[.slice A0 l0.length c0,.slice A1 l1.length c1] 29 (0,0)) from by rw [hw];exact qR (qR BKA.out NAD.out _) NAD.out _);have BKB6:=qK (show w6.heap[gB]?=some (.cells #[.slice none 0 0,.int .i64 0] 54 (0,0)) from by rw [hw];exact qR (qR BKB.out NBD.out _) NBD.out _);have BKD6:=qK (show w6.heap[gD]?=some (.cells #[.slice A5 y284.length c5,.int .i64 S] 54 (0,0)) from by rw [hw];exact qP (cs:=#[.slice A5 y284.length c5,.int .i64 s]) hb1 1 _ rfl);have HO6:=qK (show Kd.R (Kd.int .i64) 3 w6 w0.heap.size (fun k_=>k_ ≠ M) (.slice (some ad272) t267.length co) t267 from by rw [hw];exact Kd.R_mono (Kd.R_far (p:=⟨gD,1,none⟩) (Kd.R_far (p:=⟨gD,0,none⟩) (Kd.R_types HO.out BKD.out (by decide)) (fun _ hk=>hk.2) _) (fun _ hk=>hk.2) _) (fun _ hk=>hk.1));have RN6:=qK (show Kd.R (Kd.int .i64) 3 w6 w0.heap.size (fun k_=>k_ ≠ M) (.slice A5 y284.length c5) y284 from by rw [hw];exact Kd.R_mono (Kd.R_far (p:=⟨gD,1,none⟩) (Kd.R_far (p:=⟨gD,0,none⟩) (Kd.R_types RN.out BKD.out (by decide)) (fun _ hk=>hk.2) _) (fun _ hk=>hk.2) _) (fun _ hk=>hk.1));clear hw hb1 hge))
          go_roundg k1
          case measure=>have:=HK1.out;omega
          case rel=>exact ⟨wrap64 (x + 1),y284,S,.slice A5 y284.length c5,(by first|rfl|(simp;done)|(simp [*];done)),H',⟨by have:=HK1.out;omega⟩,HO6,RN6,⟨fun e_=>absurd e_ hNe.out⟩,BKA6,BKB6,BKD6,FR6,HK6⟩
         ·have H':=qK (show impl_Stats_best.l0 k1 a1 t267 (t267.length:Int) (wrap64 (x + 1)) l0 l1 o s=some (r1,r2) from by rw [if_neg c32] at H2;exact H2);clear H2;have c32b0:decide (t289 < 0)=false:=decide_eq_false c32;clear c32 c31;go_wp2_with (first|(go_at_call 58;(with_reducible refine (slices_Compare_int_int.calls k1 _ _ y284 _ _ o t289 _ (Kd.R_reads' RN.out).2.2 (Kd.R_reads' RN.out).2.1 (Kd.R_reads' HU.out).2.2 (Kd.R_reads' HU.out).2.1 A98.out).mono ?_);rintro e w5 ⟨rfl,hdr⟩;have hb5:=hdr.below;have HO5:=qK (rB HO.out hb5);have HU5:=qK (rB HU.out hb5);have RN5:=qK (rB RN.out hb5);have BKA5:=qK (qB BKA.out hb5);have BKB5:=qK (qB BKB.out hb5);have BKD5:=qK (qB BKD.out hb5);have BK25:=qK (qB BK2.out hb5);have HK5:=qK (Kept.below HK.out hb5);have FR5:=qK (FR.out.below_ hb5);clear HO HU RN BKA BKB BKD BK2 HK FR hb5 hdr hx0 hx1 hfx0 hfx1 hz0 hz1 hfz0 hfz1;have HO:=HO5;have HU:=HU5;have RN:=RN5;have BKA:=BKA5;have BKB:=BKB5;have BKD:=BKD5;have BK2:=BK25;have HK:=HK5;have FR:=FR5;clear HO5 HU5 RN5 BKA5 BKB5 BKD5 BK25 HK5 FR5;have hz0:w5.cell? ⟨g2,0,none⟩=some (.slice A5 y284.length c5):=(qC BK2.out 0).trans rfl;have hz1:w5.cell? ⟨g2,1,none⟩=some (.int .i64 S):=(qC BK2.out 1).trans rfl;have hfz0:=qF BK2.out 0;have hfz1:=qF BK2.out 1;have hx0:w5.cell? ⟨gD,0,none⟩=some (.slice (some ⟨gU,0,none⟩) o.length cU):=(qC BKD.out 0).trans rfl;have hx1:w5.cell? ⟨gD,1,none⟩=some (.int .i64 s):=(qC BKD.out 1).trans rfl;have hfx0:=qF BKD.out 0;have hfx1:=qF BKD.out 1))
          go_roundg k1
          case measure=>have:=HK1.out;omega
          case rel=>exact ⟨wrap64 (x + 1),o,s,.slice (some ⟨gU,0,none⟩) o.length cU,(by first|rfl|(simp;done)|(simp [*];done)),H',⟨by have:=HK1.out;omega⟩,HO,HU,HN,BKA,BKB,BKD,FR,HK⟩
        ·have H':=qK (show impl_Stats_best.l0 k1 a1 t267 (t267.length:Int) (wrap64 (x + 1)) l0 l1 o s=some (r1,r2) from by rw [if_neg c31] at H2;exact H2);clear H2;have c31b0:(S == s)=false:=beq_eq_false_iff_ne.mpr c31;clear c31;go_wp2
         go_roundg k1
         case measure=>have:=HK1.out;omega
         case rel=>exact ⟨wrap64 (x + 1),o,s,.slice (some ⟨gU,0,none⟩) o.length cU,(by first|rfl|(simp;done)|(simp [*];done)),H',⟨by have:=HK1.out;omega⟩,HO,HU,HN,BKA,BKB,BKD,FR,HK⟩
     ·rw [if_neg c20] at H;have c20b0:decide (x < (t267.length:Int))=false:=decide_eq_false c20;clear c20;simp only [Option.some.injEq,Prod.mk.injEq] at H;obtain ⟨rfl,rfl⟩:=H;obtain ⟨Au,cu,eu⟩:=Kd.R_slice HU.out;subst eu;obtain ⟨c,hmap,hent⟩:=FR.out.map;have HMAP:=qK hmap;have HENT:=qK hent;clear hmap hent;have hx0:wr.cell? ⟨gD,0,none⟩=some (.slice Au o.length cu):=(qC BKD.out 0).trans rfl;have hx1:wr.cell? ⟨gD,1,none⟩=some (.int .i64 s):=(qC BKD.out 1).trans rfl;go_wp2_with (first|((with_reducible refine gate_pput (t:=58) rfl ?_);refine pput_event (t:=58) (g:=M) (c:=c) (y:=a1) (u:=.agg #[.slice Au o.length cu,.int .i64 s]) rfl rfl rfl (by rfl) (by rfl) (by rfl) Try.underlying58 Try.underlying56 HMAP.out ?_;intro w5 hw;have FR5:=qK (show FrM (BF l0 l1) 3 w0 M w5 from by rw [hw];exact FR.out.put HM.out HMAP.out HENT.out HU.out HBF.out);have HK5:=qK (show Kept w w5 (fun k_=>k_=M) from by rw [hw];exact Kept.then_ HK.out (pobj_kept HMAP.out) (fun k_ h_=>.inl h_));have BKB5:=qK (show w5.heap[gB]?=some (.cells #[.slice none 0 0,.int .i64 0] 54 (0,0)) from by rw [hw];exact (pobj_other HMAP.out (FR.out.ne BKB.out)).trans BKB.out);have BKD5:=qK (show w5.heap[gD]?=some (.cells #[.slice Au o.length cu,.int .i64 s] 54 (0,0)) from by rw [hw];exact (pobj_other HMAP.out (FR.out.ne BKD.out)).trans BKD.out);have HU5:=qK (show Kd.R (Kd.int .i64) 3 w5 w0.heap.size (fun k_=>k_ ≠ M) (.slice Au o.length cu) o from by rw [hw];exact Kd.R_step HU.out (fun k_ ho hk=>pobj_other HMAP.out ho));clear hw hx0 hx1 FR HK BKB BKD HU;have hx0:w5.cell? ⟨gD,0,none⟩=some (.slice Au o.length cu):=(qC BKD5.out 0).trans rfl;have hx1:w5.cell? ⟨gD,1,none⟩=some (.int .i64 s):=(qC BKD5.out 1).trans rfl;have hy0:w5.cell? ⟨gB,0,none⟩=some (.slice none 0 0):=(qC BKB5.out 0).trans rfl;have hy1:w5.cell? ⟨gB,1,none⟩=some (.int .i64 0):=(qC BKB5.out 1).trans rfl;have hfy0:=qF BKB5.out 0;have hfy1:=qF BKB5.out 1))
      have hge:=Nat.le_trans HW0.out GEB.out;have hb1:=qP (cs:=#[.slice none 0 0,.int .i64 0]) BKB5.out 0 (.slice Au o.length cu) rfl;have F2:=FR5.out.set (i:=0) (v:=.slice Au o.length cu) hge BKB5.out (by decide);have F3:=F2.set (i:=1) (v:=.int .i64 s) hge hb1 (by decide);refine bodyPost_ret (results_cell_row rfl _ _ gB 54 #[.slice Au o.length cu,.int .i64 s] (0,0) _ rfl (qP (cs:=#[.slice Au o.length cu,.int .i64 0]) hb1 1 _ rfl) Try.underlying54 rfl (by kernel_rfl)) rfl ?_;refine ⟨_,rfl,?_,F3,Kept.setCell (Kept.setCell HK5.out (.inr GEB.out) _) (.inr GEB.out) _⟩;exact Kd.R_mono (Kd.R_far (p:=⟨gB,1,none⟩) (Kd.R_far (p:=⟨gB,0,none⟩) (Kd.R_types HU5.out BKB5.out (by decide)) (fun _ hk=>hk.2) _) (fun _ hk=>hk.2) _) (fun _ hk=>hk.1)

/-! ### impl_setOf: function 36 -/
def impl_setOf.l0 : Nat→Int→List Int→Int→Int→Option (Int)
 | 0,_,_,_,_=>none
 | k + 1,x3,x6,x7,x8=>if x8 < x7 then (if 0≤x8 then (if x8 < (x6.length:Int) then (if 0≤(rd x6 x8) then (impl_setOf.l0 k (Go.bits .or .i64 x3 (shl .i64 1 (rd x6 x8))) x6 x7 (wrap64 (x8 + 1))) else (none)) else (none)) else (none)) else (some x3)
def impl_setOf.f (k:Nat) (l0:List Int):Option (Int):=impl_setOf.l0 k 0 l0 (l0.length:Int) 0
theorem impl_setOf.mono_l : ∀ k,(∀ y0 y1 y2 y3,LeO (impl_setOf.l0 k y0 y1 y2 y3) (impl_setOf.l0 (k + 1) y0 y1 y2 y3))
 | 0=>fun _ _ _ _ r h=>by simp [impl_setOf.l0] at h
 | k + 1=>by
  have ih0:=impl_setOf.mono_l k
  ·intro y0 y1 y2 y3;unfold impl_setOf.l0
   repeat' first
   | (with_reducible exact ih0 _ _ _ _)
   | (with_reducible exact LeO.refl _)
   | (with_reducible exact LeO.none _)
   | (with_reducible refine LeO.ite ?_ ?_)
   | (with_reducible refine LeO.bind ?_ (fun _=>?_))
   | exact ih0 _ _ _ _
   | exact LeO.none _
   | refine LeO.ite ?_ ?_
   | refine LeO.bind ?_ (fun _=>?_)
theorem impl_setOf.mono : ∀ a0 k,LeO (impl_setOf.f k a0) (impl_setOf.f (k + 1) a0):=by
 intro a0 k;have ih0:=impl_setOf.mono_l k;unfold impl_setOf.f
 repeat' first
   | (with_reducible exact ih0 _ _ _ _)
   | (with_reducible exact LeO.refl _)
   | (with_reducible exact LeO.none _)
   | (with_reducible refine LeO.ite ?_ ?_)
   | (with_reducible refine LeO.bind ?_ (fun _=>?_))
   | exact ih0 _ _ _ _
   | exact LeO.none _
   | refine LeO.ite ?_ ?_
   | refine LeO.bind ?_ (fun _=>?_)
set_option maxHeartbeats 8000000 in
set_option maxRecDepth 100000 in
theorem impl_setOf.calls (k:Nat) (A0:Option Addr) (c0:Nat) (l0:List Int) (r:Int) (w:World) (hr0:Kd.C (Kd.int .i64) w A0 l0.length l0) (hc0:l0.length≤c0) (h:impl_setOf.f k l0=some r) :
  Calls Try.prog 36 #[.slice A0 l0.length c0] w fun e w'=>e=.returned (.int .i64 r)∧Drawn0 w w':=by
 have HR0:=qK hr0;have HC0:=qK hc0;clear hr0 hc0;have H:(impl_setOf.l0 k 0 l0 (l0.length:Int) 0)=some r:=h;clear h;have H':=qK H;clear H;go_enter Try.func36,Try.ntmps36
 go_wp2
 go_loopg [3,8] k (fun kq v3 v8 w'=>∃ (x3_1:Int) (x8_1:Int),v3=.int .i64 x3_1∧v8=.int .i64 x8_1∧Aside0 (impl_setOf.l0 kq x3_1 l0 (l0.length:Int) x8_1=some r)∧Aside0 (kq≤k)∧Drawn0 w w')
 case atStart=>exact ⟨(0),(0),(by first|rfl|(simp;done)|(simp [*];done)),(by first|rfl|(simp;done)|(simp [*];done)),H',⟨Nat.le_refl _⟩,by repeat (first|exact Drawn0.refl _|apply Drawn0.step)⟩
 case round =>
  clear H';obtain ⟨x3_1,x8_1,rfl,rfl,HA,HK1,⟨m1,rfl⟩⟩:=hrel;cases gk with
  | zero=>exact absurd HA.out (by simp [impl_setOf.l0])
  | succ k1 =>
   have H:=HA.out;clear HA;simp only [impl_setOf.l0] at H;by_cases c2:x8_1 < (l0.length:Int)
   ·rw [if_pos c2] at H;have c2b0:decide (x8_1 < (l0.length:Int))=true:=decide_eq_true c2;clear c2;by_cases c3:0≤x8_1
    ·rw [if_pos c3] at H;have c3b0:decide (0≤x8_1)=true:=decide_eq_true c3;clear c3;by_cases c4:x8_1 < (l0.length:Int)
     ·rw [if_pos c4] at H;have c4b0:decide (x8_1 < (l0.length:Int))=true:=decide_eq_true c4;clear c4;by_cases c5:0≤(rd l0 x8_1)
      ·rw [if_pos c5] at H;have c5b0:=eq_true c5;have c5b1:decide (0≤(rd l0 x8_1))=true:=decide_eq_true c5;clear c5;obtain ⟨ji6,hji6⟩:∃ j_:Int,(shl .i64 1 (rd l0 x8_1))=j_:=⟨_,rfl⟩;replace H:(impl_setOf.l0 k1 (Go.bits .or .i64 x3_1 (ji6)) l0 (l0.length:Int) (wrap64 (x8_1 + 1)))=some r:=by first|(rw [hji6] at H;exact H)|(simp only [hji6] at H ⊢;exact H)
       have hji6_:(IntKind.i64.wrap (1 * 2 ^ min (rd l0 x8_1).toNat 64))=ji6:=hji6;have hji6z:(rd l0 x8_1)≤64→(IntKind.i64.wrap (1 * 2 ^ (rd l0 x8_1).toNat))=ji6:=shl_small hji6;have hji6u:(IntKind.i64.wrap (2 ^ min (rd l0 x8_1).toNat 64))=ji6:=by have h_:=hji6_;rw [Int.one_mul] at h_;exact h_
       have hji6v:(rd l0 x8_1)≤64→(IntKind.i64.wrap (2 ^ (rd l0 x8_1).toNat))=ji6:=fun hle_=>by have h_:=hji6z hle_;rw [Int.one_mul] at h_;exact h_
       have hji6y:(wrap64 (1 * 2 ^ min (rd l0 x8_1).toNat 64))=ji6:=(i64_w _).symm.trans hji6_;have hji6x:(rd l0 x8_1)≤64→(wrap64 (1 * 2 ^ (rd l0 x8_1).toNat))=ji6:=fun h_=>(i64_w _).symm.trans (hji6z h_)
       have H':=qK H;clear H;have p286:0≤(x8_1:Int):=of_decide_eq_true (by first|(with_reducible assumption)|assumption);have q286:x8_1 < (l0.length:Int):=of_decide_eq_true (by first|(with_reducible assumption)|assumption);obtain ⟨ad286,e286,hx286_0⟩:=Kd.at_int HR0.out x8_1 p286 q286;cases e286
       replace p286:=eq_true p286;replace q286:=eq_true q286;go_wp2
       go_roundg k1
       case measure=>have:=HK1.out;omega
       case rel=>exact ⟨(Go.bits .or .i64 x3_1 (ji6)),(wrap64 (x8_1 + 1)),(by first|rfl|(simp;done)|(simp only [← hji6] <;> (first|rfl|simp))|(simp [*];done)),(by first|rfl|(simp;done)|(simp [*];done)),H',⟨by have:=HK1.out;omega⟩,by repeat (first|exact Drawn0.refl _|apply Drawn0.step)⟩
      ·rw [if_neg c5] at H;exact absurd H (by simp)
     ·rw [if_neg c4] at H;exact absurd H (by simp)
    ·rw [if_neg c3] at H;exact absurd H (by simp)
   ·rw [if_neg c2] at H;have c2b0:decide (x8_1 < (l0.length:Int))=false:=decide_eq_false c2;clear c2;obtain rfl:=Option.some.inj H;go_wp2
    go_ret
    exact ⟨by first|rfl|(simp;done)|(simp [*];done),by repeat (first|exact Drawn0.refl _|apply Drawn0.step)⟩

/-! ### impl_BestOf: function 10 -/
def impl_BestOf.j0 : Nat→List Int→Bool→List Int→List (List Int)→Option (List Int × Int × Bool)
 | 0,_,_,_,_=>none
 | k + 1,x1,x16,x288000,x288001=>if x16=true then (some (([]:List Int),0,false)) else ((impl_setOf.f k x1).bind fun t290=>((impl_Stats_best.f k x288000 x288001 t290).bind fun bt291=>(some (bt291.1,bt291.2,true))))
def impl_BestOf.f (k:Nat) (l0_0:List Int) (l0_1:List (List Int)) (l1:List Int):Option (List Int × Int × Bool):=(impl_GoodStats.f k l0_0 l0_1).bind fun t288=>(if t288=true then ((impl_Stats_areSome.f k l0_0 l0_1 l1).bind fun t289=>(impl_BestOf.j0 k l1 (!t289) l0_0 l0_1)) else (impl_BestOf.j0 k l1 true l0_0 l0_1))
theorem impl_BestOf.mono_l : ∀ k,(∀ y0 y1 y2 y3,LeO (impl_BestOf.j0 k y0 y1 y2 y3) (impl_BestOf.j0 (k + 1) y0 y1 y2 y3))
 | 0=>fun _ _ _ _ r h=>by simp [impl_BestOf.j0] at h
 | k + 1=>by
  have ih0:=impl_BestOf.mono_l k
  ·intro y0 y1 y2 y3;unfold impl_BestOf.j0
   repeat' first
   | (with_reducible exact ih0 _ _ _ _)
   | (with_reducible exact impl_GoodStats.mono _ _ _)
   | (with_reducible exact impl_Stats_areSome.mono _ _ _ _)
   | (with_reducible exact impl_Stats_best.mono _ _ _ _)
   | (with_reducible exact impl_setOf.mono _ _)
   | (with_reducible exact LeO.refl _)
   | (with_reducible exact LeO.none _)
   | (with_reducible refine LeO.ite ?_ ?_)
   | (with_reducible refine LeO.bind ?_ (fun _=>?_))
   | exact ih0 _ _ _ _
   | exact impl_GoodStats.mono _ _ _
   | exact impl_Stats_areSome.mono _ _ _ _
   | exact impl_Stats_best.mono _ _ _ _
   | exact impl_setOf.mono _ _
   | exact LeO.none _
   | refine LeO.ite ?_ ?_
   | refine LeO.bind ?_ (fun _=>?_)
theorem impl_BestOf.mono : ∀ a0 a1 a2 k,LeO (impl_BestOf.f k a0 a1 a2) (impl_BestOf.f (k + 1) a0 a1 a2):=by
 intro a0 a1 a2 k;have ih0:=impl_BestOf.mono_l k;unfold impl_BestOf.f
 repeat' first
   | (with_reducible exact ih0 _ _ _ _)
   | (with_reducible exact impl_GoodStats.mono _ _ _)
   | (with_reducible exact impl_Stats_areSome.mono _ _ _ _)
   | (with_reducible exact impl_Stats_best.mono _ _ _ _)
   | (with_reducible exact impl_setOf.mono _ _)
   | (with_reducible exact LeO.refl _)
   | (with_reducible exact LeO.none _)
   | (with_reducible refine LeO.ite ?_ ?_)
   | (with_reducible refine LeO.bind ?_ (fun _=>?_))
   | exact ih0 _ _ _ _
   | exact impl_GoodStats.mono _ _ _
   | exact impl_Stats_areSome.mono _ _ _ _
   | exact impl_Stats_best.mono _ _ _ _
   | exact impl_setOf.mono _ _
   | exact LeO.none _
   | refine LeO.ite ?_ ?_
   | refine LeO.bind ?_ (fun _=>?_)
set_option maxHeartbeats 8000000 in
set_option maxRecDepth 100000 in
theorem impl_BestOf.calls (k:Nat) (A0_0:Option Addr) (c0_0:Nat) (l0_0:List Int) (A0_1:Option Addr) (c0_1:Nat) (l0_1:List (List Int)) (A1:Option Addr) (c1:Nat) (l1:List Int) (r1:List Int) (r2:Int) (r3:Bool) (w:World) (hr0_0:Kd.C (Kd.int .i64) w A0_0 l0_0.length l0_0) (hc0_0:l0_0.length≤c0_0) (hr0_1:Kd.C (Kd.slice 3 (Kd.int .i64)) w A0_1 l0_1.length l0_1) (hc0_1:l0_1.length≤c0_1) (hr1:Kd.C (Kd.int .i64) w A1 l1.length l1) (hc1:l1.length≤c1) (h:impl_BestOf.f k l0_0 l0_1 l1=some (r1,r2,r3)) :
  Calls Try.prog 10 #[.agg #[.slice A0_0 l0_0.length c0_0,.slice A0_1 l0_1.length c0_1],.slice A1 l1.length c1] w fun e w'=>∃ v0_:Value,e=.returned (.tuple #[v0_,.int .i64 r2,.bool r3])∧Kd.R (Kd.int .i64) 3 w' w.heap.size (fun _=>True) v0_ r1∧Below w.heap.size w w':=by
 have hu29:=Try.underlying29;have hu54:=Try.underlying54;have HR0_0:=qK hr0_0;have HC0_0:=qK hc0_0;clear hr0_0 hc0_0;have HR0_1:=qK hr0_1;have HC0_1:=qK hc0_1;clear hr0_1 hc0_1;have HR1:=qK hr1;have HC1:=qK hc1;clear hr1 hc1;have HB:=qK (Below.refl w.heap.size w);have H:((impl_GoodStats.f k l0_0 l0_1).bind fun t288=>(if t288=true then ((impl_Stats_areSome.f k l0_0 l0_1 l1).bind fun t289=>(impl_BestOf.j0 k l1 (!t289) l0_0 l0_1)) else (impl_BestOf.j0 k l1 true l0_0 l0_1)))=some (r1,r2,r3):=h;clear h;have HC3:=qK H;clear H;go_enter Try.func10,Try.ntmps10
 go_upto_region 1 with (first|((with_reducible refine gate_dst (N:=2) rfl ?_);refine box_event ?hg (N:=2) ?hd (cs:=#[.slice A0_0 l0_0.length c0_0,.slice A0_1 l0_1.length c0_1]) (t:=29) ?hr ?_;(case hd=>rfl);(case hg=>rfl);(case hr=>(go_simp;try rfl));intro gb287 hg w4 hbox hb;have n0_:=qK (qT (by repeat (with_reducible first|exact HB.out|apply qA|apply qD|apply qO)) hb);have n1_:=qK (hbox);have n2_:=qK ((by rw [hg];exact (qZ (by repeat (with_reducible first|exact HB.out|apply qA|apply qD|apply qO))):w.heap.size≤gb287));have n3_:=qK ((by rw [hg];exact (qZ (by repeat (with_reducible first|exact HB.out|apply qA|apply qD|apply qO))):w.heap.size≤gb287));clear HB;have HB:=n0_;have BK287:=n1_;have GW287:=n2_;have GE287:=n3_;clear n0_ n1_ n2_ n3_;clear hb hbox hg))
 (try simp only [Act.put,List.setIfInBounds_toArray,List.set_cons_zero,List.set_cons_succ]);go_cut [16] (fun v16 wc=>∃ (kq:Nat) (x16_2:Bool),v16=.bool x16_2∧Aside0 (impl_BestOf.j0 kq l1 x16_2 l0_0 l0_1=some (r1,r2,r3))∧Aside0 (kq≤k)∧Aside0 (wc.heap[gb287]?=some (.cells #[(.slice A0_0 l0_0.length c0_0),(.slice A0_1 l0_1.length c0_1)] 29 (0,0)))∧Aside0 (Below w.heap.size w wc))
 case first =>
  have H:=HC3.out;clear HC3;replace H:=Option.bind_eq_some_iff.mp H;obtain ⟨t288,A50,H⟩:=H;replace H:(if t288=true then ((impl_Stats_areSome.f k l0_0 l0_1 l1).bind fun t289=>(impl_BestOf.j0 k l1 (!t289) l0_0 l0_1)) else (impl_BestOf.j0 k l1 true l0_0 l0_1))=some (r1,r2,r3):=H;have A5:=qK A50;clear A50;by_cases c6:t288=true
  ·subst c6;have H1:((impl_Stats_areSome.f k l0_0 l0_1 l1).bind fun t289=>(impl_BestOf.j0 k l1 (!t289) l0_0 l0_1))=some (r1,r2,r3):=by rw [if_pos rfl] at H;exact H
   clear H;have H:=H1;clear H1;replace H:=Option.bind_eq_some_iff.mp H;obtain ⟨t289,A70,H⟩:=H;replace H:(impl_BestOf.j0 k l1 (!t289) l0_0 l0_1)=some (r1,r2,r3):=H;have A7:=qK A70;clear A70;have H':=qK H;clear H;have hcz8_0:w4.cell? ⟨gb287,0,none⟩=some (.slice A0_0 l0_0.length c0_0):=(qC BK287.out 0).trans rfl;have hcz8_1:w4.cell? ⟨gb287,1,none⟩=some (.slice A0_1 l0_1.length c0_1):=(qC BK287.out 1).trans rfl;have hfz8_0:=qF BK287.out 0;have hfz8_1:=qF BK287.out 1;go_wp2_with (first|((with_reducible refine gate_callee (f:=22) rfl ?_);refine goesL_ (some 9) rfl rfl Try.func22 (by kernel_rfl) rfl #[.agg #[.slice A0_0 l0_0.length c0_0,.slice A0_1 l0_1.length c0_1]] rfl (by (try simp only [mT,mC,mN]);first|done|rfl|(simp only [lD,lT];rfl)) ?_;(with_reducible refine (impl_GoodStats.calls k _ _ l0_0 _ _ l0_1 true _ ?side1 ?side2 ?side3 ?side4 A5.out).mono ?_);(case side1=>repeat (first|exact (cB HR0_0.out (by repeat (with_reducible first|exact HB.out|apply qA|apply qD|apply qO|refine qS ?_ GE287.out)))|(with_reducible first|refine cL ?_ _|refine cN ?_ _|refine cW ?_)));(case side2=>exact HC0_0.out);(case side3=>repeat (first|exact (cB HR0_1.out (by repeat (with_reducible first|exact HB.out|apply qA|apply qD|apply qO|refine qS ?_ GE287.out)))|(with_reducible first|refine cL ?_ _|refine cN ?_ _|refine cW ?_)));(case side4=>exact HC0_1.out);rintro e w9 ⟨rfl,hb⟩;refine ⟨_,rfl,?_⟩;have n0_:=qK (qB (g:=gb287) (o:=_) (by (with_reducible repeat (first|refine qN ?_ _|refine qW ?_|refine qL ?_ _));exact BK287.out) hb);have n1_:=qK (qT (by repeat (with_reducible first|exact HB.out|apply qA|apply qD|apply qO|refine qS ?_ GE287.out)) hb);clear BK287;clear HB;have BK287:=n0_;have HB:=n1_;clear n0_ n1_;(try clear hb);have hcz10_0:w9.cell? ⟨gb287,0,none⟩=some (.slice A0_0 l0_0.length c0_0):=(qC BK287.out 0).trans rfl;have hcz10_1:w9.cell? ⟨gb287,1,none⟩=some (.slice A0_1 l0_1.length c0_1):=(qC BK287.out 1).trans rfl;have hfz10_0:=qF BK287.out 0;have hfz10_1:=qF BK287.out 1)|(go_at_call 34;(with_reducible refine (impl_Stats_areSome.calls k _ _ l0_0 _ _ l0_1 _ _ l1 t289 _ ?side1 ?side2 ?side3 ?side4 ?side5 ?side6 A7.out).mono ?_);(case side1=>repeat (first|exact (cB HR0_0.out HB.out)|(with_reducible first|refine cL ?_ _|refine cN ?_ _|refine cW ?_)));(case side2=>exact HC0_0.out);(case side3=>repeat (first|exact (cB HR0_1.out HB.out)|(with_reducible first|refine cL ?_ _|refine cN ?_ _|refine cW ?_)));(case side4=>exact HC0_1.out);(case side5=>repeat (first|exact (cB HR1.out HB.out)|(with_reducible first|refine cL ?_ _|refine cN ?_ _|refine cW ?_)));(case side6=>exact HC1.out);rintro e w11 ⟨rfl,hb⟩;have n0_:=qK (qB (g:=gb287) (o:=_) (by (with_reducible repeat (first|refine qN ?_ _|refine qW ?_|refine qL ?_ _));exact BK287.out) hb);have n1_:=qK (qT (by repeat (with_reducible first|exact HB.out|apply qA|apply qD|apply qO|refine qS ?_ GE287.out)) hb);clear BK287;clear HB;have BK287:=n0_;have HB:=n1_;clear n0_ n1_;(try clear hb)))
   go_meet
   case rel=>exact ⟨_,(!t289),(by first|rfl|(simp;done)|(simp [*];done)),H',⟨by first|omega|exact Nat.le_refl _⟩,⟨by (with_reducible repeat (first|refine qN ?_ _|refine qW ?_|refine qL ?_ _));exact BK287.out⟩,⟨by repeat (first|(with_reducible first|exact HB.out|apply qA|apply qD|apply qO|refine qS ?_ GE287.out)|exact HB.out)⟩⟩
  ·replace c6:=Bool.eq_false_iff.mpr c6;subst c6;have H1:(impl_BestOf.j0 k l1 true l0_0 l0_1)=some (r1,r2,r3):=by rw [if_neg (show ¬ (false=true) by decide)] at H;exact H
   clear H;have H:=H1;clear H1;have H':=qK H;clear H;have hcz12_0:w4.cell? ⟨gb287,0,none⟩=some (.slice A0_0 l0_0.length c0_0):=(qC BK287.out 0).trans rfl;have hcz12_1:w4.cell? ⟨gb287,1,none⟩=some (.slice A0_1 l0_1.length c0_1):=(qC BK287.out 1).trans rfl;have hfz12_0:=qF BK287.out 0;have hfz12_1:=qF BK287.out 1;go_wp2_with (first|((with_reducible refine gate_callee (f:=22) rfl ?_);refine goesL_ (some 9) rfl rfl Try.func22 (by kernel_rfl) rfl #[.agg #[.slice A0_0 l0_0.length c0_0,.slice A0_1 l0_1.length c0_1]] rfl (by (try simp only [mT,mC,mN]);first|done|rfl|(simp only [lD,lT];rfl)) ?_;(with_reducible refine (impl_GoodStats.calls k _ _ l0_0 _ _ l0_1 false _ ?side1 ?side2 ?side3 ?side4 A5.out).mono ?_);(case side1=>repeat (first|exact (cB HR0_0.out (by repeat (with_reducible first|exact HB.out|apply qA|apply qD|apply qO|refine qS ?_ GE287.out)))|(with_reducible first|refine cL ?_ _|refine cN ?_ _|refine cW ?_)));(case side2=>exact HC0_0.out);(case side3=>repeat (first|exact (cB HR0_1.out (by repeat (with_reducible first|exact HB.out|apply qA|apply qD|apply qO|refine qS ?_ GE287.out)))|(with_reducible first|refine cL ?_ _|refine cN ?_ _|refine cW ?_)));(case side4=>exact HC0_1.out);rintro e w13 ⟨rfl,hb⟩;refine ⟨_,rfl,?_⟩;have n0_:=qK (qB (g:=gb287) (o:=_) (by (with_reducible repeat (first|refine qN ?_ _|refine qW ?_|refine qL ?_ _));exact BK287.out) hb);have n1_:=qK (qT (by repeat (with_reducible first|exact HB.out|apply qA|apply qD|apply qO|refine qS ?_ GE287.out)) hb);clear BK287;clear HB;have BK287:=n0_;have HB:=n1_;clear n0_ n1_;(try clear hb)))
   go_meet
   case rel=>exact ⟨_,(true),(by first|rfl|(simp;done)|(simp [*];done)),H',⟨by first|omega|exact Nat.le_refl _⟩,⟨by (with_reducible repeat (first|refine qN ?_ _|refine qW ?_|refine qL ?_ _));exact BK287.out⟩,⟨by repeat (first|(with_reducible first|exact HB.out|apply qA|apply qD|apply qO|refine qS ?_ GE287.out)|exact HB.out)⟩⟩
 case rest =>
  clear HC3;try clear c1
  try clear c2
  try clear p2
  try clear c6
  try clear c10
  try clear hcz10_0
  try clear hcz10_1
  try clear hcz12_0
  try clear hcz12_1
  try clear hcz8_0
  try clear hcz8_1
  try clear hfz10_0
  try clear hfz10_1
  try clear hfz12_0
  try clear hfz12_1
  try clear hfz8_0
  try clear hfz8_1
  obtain ⟨kq,x16_2,rfl,HA,HJ2,BK287,HB⟩:=hcut;cases kq with
  | zero=>exact absurd HA.out (by simp [impl_BestOf.j0])
  | succ kj2 =>
   have H:=HA.out;clear HA;simp only [impl_BestOf.j0] at H;by_cases c14:x16_2=true
   ·subst c14;have H1:(some (([]:List Int),0,false))=some (r1,r2,r3):=by rw [if_pos rfl] at H;exact H
    clear H;have H:=H1;clear H1;simp only [Option.some.injEq,Prod.mk.injEq] at H;obtain ⟨rfl,rfl,rfl⟩:=H;go_wp2
    go_ret3
    exact ⟨_,by first|rfl|(simp [errW_none,errW_some] <;> rfl)|(simp [*,errW_none,errW_some] <;> rfl),by first|exact Kd.R_nil _ _ _ _ _|exact Kd.N_nil _ _ _ _ _|exact Kd.V_nil _ _ _ _ _|exact Kd.Q_nil _ _ _ _ _|exact Kd.S_nil _ _ _ _ _,by repeat (first|(with_reducible first|exact HB.out|apply qA|apply qD|apply qO|refine qS ?_ GE287.out)|exact HB.out)⟩
   ·replace c14:=Bool.eq_false_iff.mpr c14;subst c14;have H1:((impl_setOf.f kj2 l1).bind fun t290=>((impl_Stats_best.f kj2 l0_0 l0_1 t290).bind fun bt291=>(some (bt291.1,bt291.2,true))))=some (r1,r2,r3):=by rw [if_neg (show ¬ (false=true) by decide)] at H;exact H
    clear H;have H:=H1;clear H1;replace H:=Option.bind_eq_some_iff.mp H;obtain ⟨t290,A150,H⟩:=H;replace H:((impl_Stats_best.f kj2 l0_0 l0_1 t290).bind fun bt291=>(some (bt291.1,bt291.2,true)))=some (r1,r2,r3):=H;have A15:=qK A150;clear A150;replace H:=Option.bind_eq_some_iff.mp H;obtain ⟨⟨t291,t294⟩,A160,H⟩:=H;replace H:(some (t291,t294,true))=some (r1,r2,r3):=H;have A16:=qK A160;clear A160;simp only [Option.some.injEq,Prod.mk.injEq] at H;obtain ⟨rfl,rfl,rfl⟩:=H
    try go_wp2
    have BK287d := Aside0.mk (blk_drew BK287.out)
    have HBd := Aside0.mk (below_drew1 HB.out)
    clear BK287 HB
    have BK287 := BK287d
    have HB := HBd
    clear BK287d HBd
    refine start_ (n := 7) (S := fun w' => True) (ds := []) #[false, false, false, false, false, false, false] (by kernel_rfl) rfl rfl trivial (fun hHeld => ?_)
    generalize wc.drew = W1 at BK287 HB hHeld ⊢
    refine pure_ (i := 1) (N := some 18) (v := ?_) (a' := ?_) #[false, true, false, false, false, false, false] rfl rfl (by kernel_rfl) (fun _ _ _ h => h) (Or.inl ⟨by rfl, ?_⟩) ?_ ?_
    rotate_left
    · intro w'
      go_simp
      with_reducible rfl
    rotate_left
    · simp only [Act.put, List.setIfInBounds_toArray, List.set_cons_zero, List.set_cons_succ, i64_w, i32_w]
      rfl
    refine inv_at (B := [0, 0, 2, 0, 15, 0, 63]) [0, 2, 3, 4, 5, 6] (fun a0_ b a w' => ∃ (g M : Nat) (v m4 : Value), a = putSel a0_ b [(0, 17, .agg #[.slice A0_0 l0_0.length c0_0, .slice A0_1 l0_1.length c0_1]), (2, 19, .int .i64 t290), (3, 20, .map (some M)), (4, 21, m4), (5, 7, .pointer (some ⟨g, 0, none⟩))] ∧ Below W1.heap.size W1 w' ∧ (b 3 = true → b 4 = false → W1.heap.size ≤ M ∧ FrM (BF l0_0 l0_1) 3 W1 M w') ∧ (b 4 = true → m4 = .agg #[v, .int .i64 t294] ∧ Kd.R (Kd.int .i64) 3 w' W1.heap.size (fun _ => True) v t291) ∧ (b 5 = true → W1.heap.size ≤ g) ∧ (b 5 = true → b 6 = false → w'.heap[g]? = some (.cells #[.slice none 0 0, .int .i64 0] 54 (0, 0))) ∧ (b 6 = true → w'.heap[g]? = some (.cells #[v, .int .i64 t294] 54 (0, 0)))) rfl (by kernel_rfl) (by kernel_rfl) (by kernel_rfl) ?_ ?_ ?_
    · exact ⟨0, 0, .bool false, .bool false, by simp only [putSel, Bool.false_eq_true, if_false], Below.refl _ _, fun h_ => absurd h_ (by decide), fun h_ => absurd h_ (by decide), fun h_ => absurd h_ (by decide), fun h_ => absurd h_ (by decide), fun h_ => absurd h_ (by decide)⟩
    · refine steps_cons ?_ ?_
      · rintro b a w' ⟨g, M, v, m4, ha, QB, Q3, Q4, Q5, QZ, Q6⟩ hb_ hon hoff
        refine ⟨_, rfl, fun K hK => ?_⟩
        have e2 : a.tmps[2]? = some (.pointer (some ⟨gb287, 0, none⟩)) := by rw [ha]; exact (putSel_off rfl).trans rfl
        replace ha := Aside0.mk ha
        have BX := Aside0.mk (blk_below BK287.out QB)
        have hx0 : w'.cell? ⟨gb287, 0, none⟩ = some (.slice A0_0 l0_0.length c0_0) := (blk_cell BX.out 0).trans rfl
        have hx1 : w'.cell? ⟨gb287, 1, none⟩ = some (.slice A0_1 l0_1.length c0_1) := (blk_cell BX.out 1).trans rfl
        refine value_ (w1 := w') (v := .agg #[.slice A0_0 l0_0.length c0_0, .slice A0_1 l0_1.length c0_1]) (by rfl) rfl ?_ ?_
        · go_simp
          (try simp only [i64_w])
          try rfl
        exact hK.out _ _ ⟨g, M, v, m4, (by rw [ha.out]; exact putSel_upk 0 hb_ rfl rfl rfl), QB, Q3, Q4, Q5, QZ, Q6⟩
      refine steps_cons ?_ ?_
      · rintro b a w' ⟨g, M, v, m4, ha, QB, Q3, Q4, Q5, QZ, Q6⟩ hb_ hon hoff
        refine ⟨_, rfl, fun K hK => ?_⟩
        have e18 : a.tmps[18]? = some (.slice A1 l1.length c1) := by rw [ha]; exact (putSel_off rfl).trans rfl
        replace ha := Aside0.mk ha
        refine goes_ Try.func36 (by kernel_rfl) rfl #[.slice A1 l1.length c1] (by rfl) rfl rfl (by simp only [List.map_toArray, List.map_cons, List.map_nil, Act.eval, e18, Array.getD_eq_getD_getElem?, Option.getD_some]) ?_
        with_reducible refine (impl_setOf.calls kj2 _ _ l1 t290 _ (Kd.C_below HR1.out (below_then HB.out HB.out.size QB)) HC1.out A15.out).mono ?_
        rintro e w31 ⟨rfl, hdr⟩
        have hb := hdr.below
        refine ⟨_, rfl, ?_⟩
        exact hK.out _ _ ⟨g, M, v, m4, (by rw [ha.out]; exact putSel_upk 1 hb_ rfl rfl rfl), below_step QB hb, fun h3 h4 => ⟨(Q3 h3 h4).1, (Q3 h3 h4).2.below_ hb⟩, fun h_ => absurd ((hoff 4 (by kernel_rfl)).symm.trans h_) (by decide), Q5, fun h5 h6 => blk_below (QZ h5 h6) hb, fun h_ => absurd ((hoff 6 (by kernel_rfl)).symm.trans h_) (by decide)⟩
      refine steps_cons ?_ ?_
      · rintro b a w' ⟨g, M, v, m4, ha, QB, Q3, Q4, Q5, QZ, Q6⟩ hb_ hon hoff
        refine ⟨_, rfl, fun K hK => ?_⟩
        replace ha := Aside0.mk ha
        refine value_ (w1 := w'.alloc (.map #[] 0)) (v := .map (some w'.heap.size)) (by rfl) rfl (by rfl) ?_
        have hb : Below w'.heap.size w' (w'.alloc (.map #[] 0)) := below_alloc (Below.refl _ _) _
        exact hK.out _ _ ⟨g, w'.heap.size, v, m4, (by rw [ha.out]; exact putSel_upk 2 hb_ rfl rfl rfl), below_step QB hb, fun _ _ => ⟨QB.size, ⟨below_step QB hb, [], blk_new w' _, fun p hp => by cases hp⟩⟩, fun h_ => absurd ((hoff 4 (by kernel_rfl)).symm.trans h_) (by decide), Q5, fun h5 h6 => blk_below (QZ h5 h6) hb, fun h_ => absurd ((hoff 6 (by kernel_rfl)).symm.trans h_) (by decide)⟩
      refine steps_cons ?_ ?_
      · rintro b a w' ⟨g, M, v, m4, ha, QB, Q3, Q4, Q5, QZ, Q6⟩ hb_ hon hoff
        refine ⟨_, rfl, fun K hK => ?_⟩
        have h3 := hon 3 (by kernel_rfl)
        have e17 : a.tmps[17]? = some (.agg #[.slice A0_0 l0_0.length c0_0, .slice A0_1 l0_1.length c0_1]) := by rw [ha]; exact putSel_on (e := (0, 17, .agg #[.slice A0_0 l0_0.length c0_0, .slice A0_1 l0_1.length c0_1])) 0 rfl rfl (hon 0 (by kernel_rfl)) rfl
        have e19 : a.tmps[19]? = some (.int .i64 t290) := by rw [ha]; exact putSel_on (e := (2, 19, .int .i64 t290)) 1 rfl rfl (hon 2 (by kernel_rfl)) rfl
        have e20 : a.tmps[20]? = some (.map (some M)) := by rw [ha]; exact putSel_on (e := (3, 20, .map (some M))) 2 rfl rfl h3 rfl
        replace ha := Aside0.mk ha
        refine goes_ Try.func35 (by kernel_rfl) rfl #[.agg #[.slice A0_0 l0_0.length c0_0, .slice A0_1 l0_1.length c0_1], .int .i64 t290, .map (some M)] (by rfl) rfl rfl (by simp only [List.map_toArray, List.map_cons, List.map_nil, Act.eval, e17, e19, e20, Array.getD_eq_getD_getElem?, Option.getD_some]) ?_
        with_reducible refine (impl_Stats_best.calls kj2 _ _ l0_0 _ _ l0_1 t290 M t291 t294 W1 _ (Q3 h3 hb_).1 (Kd.C_below HR0_0.out HB.out) HC0_0.out (Kd.C_below HR0_1.out HB.out) HC0_1.out (Q3 h3 hb_).2 A16.out).mono ?_
        rintro e w31 ⟨v2, rfl, ho0, hf, hk⟩
        refine ⟨_, rfl, ?_⟩
        exact hK.out _ _ ⟨g, M, v2, (.agg #[v2, .int .i64 t294]), (by rw [ha.out]; exact putSel_upk 3 hb_ rfl rfl rfl), hf.below, fun _ h_ => absurd (show true = false from h_) (by decide), fun _ => ⟨rfl, Kd.R_mono ho0 (fun _ _ => trivial)⟩, Q5, fun h5 h6 => blk_kept (QZ h5 h6) hk ((Q3 h3 hb_).2.ne (QZ h5 h6)), fun h_ => absurd ((hoff 6 (by kernel_rfl)).symm.trans h_) (by decide)⟩
      refine steps_cons ?_ ?_
      · rintro b a w' ⟨g, M, v, m4, ha, QB, Q3, Q4, Q5, QZ, Q6⟩ hb_ hon hoff
        refine ⟨_, rfl, fun K hK => ?_⟩
        replace ha := Aside0.mk ha
        refine box_step ?hg (N := 7) ?hd (cs := #[.slice none 0 0, .int .i64 0]) (t := 54) ?hr ?_; (case hd => rfl); (case hg => rfl); (case hr => first | (go_simp; done) | (go_simp; rfl))
        intro g2 hg w31 hbox hb
        exact hK.out _ _ ⟨g2, M, v, m4, (by rw [ha.out]; exact putSel_upk 4 hb_ rfl rfl rfl), below_step QB hb, fun h3 h4 => ⟨(Q3 h3 h4).1, (Q3 h3 h4).2.below_ hb⟩, fun h4 => ⟨(Q4 h4).1, Kd.R_below (Q4 h4).2 hb⟩, fun _ => by rw [hg]; exact QB.size, fun _ _ => hbox, fun h_ => absurd ((hoff 6 (by kernel_rfl)).symm.trans h_) (by decide)⟩
      refine steps_cons ?_ ?_
      · rintro b a w' ⟨g, M, v, m4, ha, QB, Q3, Q4, Q5, QZ, Q6⟩ hb_ hon hoff
        refine ⟨_, rfl, fun K hK => ?_⟩
        have h4 := hon 4 (by kernel_rfl)
        have h5 := hon 5 (by kernel_rfl)
        have e7 : a.tmps[7]? = some (.pointer (some ⟨g, 0, none⟩)) := by rw [ha]; exact putSel_on (e := (5, 7, .pointer (some ⟨g, 0, none⟩))) 4 rfl rfl h5 rfl
        have e21 : a.tmps[21]? = some m4 := by rw [ha]; exact putSel_on (e := (4, 21, m4)) 3 rfl rfl h4 rfl
        rw [(Q4 h4).1] at e21
        replace ha := Aside0.mk ha
        have BX := Aside0.mk (QZ h5 hb_)
        have RV := Aside0.mk (Q4 h4).2
        have GX := Aside0.mk (Q5 h5)
        obtain ⟨Av, cv, ev⟩ := Kd.R_slice RV.out
        subst ev
        have hs0 : w'.cell? ⟨g, 0, none⟩ = some (.slice none 0 0) := (blk_cell BX.out 0).trans rfl
        have hs1 : w'.cell? ⟨g, 1, none⟩ = some (.int .i64 0) := (blk_cell BX.out 1).trans rfl
        have hf0 := blk_frozen BX.out 0
        have hf1 := blk_frozen BX.out 1
        have Q4' := Aside0.mk Q4
        have Q5' := Aside0.mk Q5
        have H4 := Aside0.mk (show b 4 = true from h4)
        clear Q3 Q4 Q5 QZ Q6
        refine skip_ (w1 := ?_) (by rfl) rfl ?_ ?_
        rotate_left
        · go_simp
          rfl
        have hb1 := blk_put (cs := #[.slice none 0 0, .int .i64 0]) BX.out 0 (.slice Av t291.length cv) rfl
        exact hK.out _ _ ⟨g, M, .slice Av t291.length cv, m4, (by rw [ha.out]; exact putSel_none (v := undef) rfl), (QB.setCell GX.out _).setCell GX.out _, fun _ h_ => absurd (H4.out.symm.trans h_) (by decide), fun _ => ⟨(Q4'.out h4).1, Kd.R_mono (Kd.R_far (p := ⟨g, 1, none⟩) (Kd.R_far (p := ⟨g, 0, none⟩) (Kd.R_types RV.out BX.out (by decide)) (fun _ hk => hk.2) _) (fun _ hk => hk.2) _) (fun _ hk => hk.1)⟩, Q5'.out, fun _ h_ => absurd (show true = false from h_) (by decide), fun _ => blk_put (cs := #[.slice Av t291.length cv, .int .i64 0]) hb1 1 _ rfl⟩
      exact steps_nil
    rintro b a w44 hall ⟨g, M, v, m4, ha, QB, Q3, Q4, Q5, QZ, Q6⟩
    have hb0_ := hall 0 (by kernel_rfl)
    have hb2_ := hall 2 (by kernel_rfl)
    have hb3_ := hall 3 (by kernel_rfl)
    have hb4_ := hall 4 (by kernel_rfl)
    have hb5_ := hall 5 (by kernel_rfl)
    have hb6_ := hall 6 (by kernel_rfl)
    subst ha
    obtain rfl := (Q4 hb4_).1
    simp only [putSel, hb0_, hb2_, hb3_, hb4_, hb5_, hb6_, if_true, Act.put, List.setIfInBounds_toArray, List.set_cons_zero, List.set_cons_succ]
    have HO297 := Aside0.mk (Kd.R_drew (Kd.R_lower (Q4 hb4_).2 HB.out.size))
    have BK299 := Aside0.mk (blk_drew (Q6 hb6_))
    have HBd := Aside0.mk (below_drew1 (below_then HB.out HB.out.size QB))
    clear HB QB Q3 Q4 Q5 QZ Q6 BK287 hall hb0_ hb2_ hb3_ hb4_ hb5_ hb6_
    have HB := HBd
    clear HBd
    obtain ⟨Ao21, co21, eo21⟩ := Kd.R_slice HO297.out
    subst eo21
    try go_wp2
    refine start_ (n := 7) (S := fun w' => w'.cell? ⟨g, 0, none⟩ = some (.slice Ao21 t291.length co21) ∧ w'.cell? ⟨g, 1, none⟩ = some (.int .i64 t294)) (ds := []) #[false, false, false, false, false, false, false] (by kernel_rfl) rfl rfl ⟨(blk_cell BK299.out 0).trans rfl, (blk_cell BK299.out 1).trans rfl⟩ (fun hHeld => ?_)
    generalize w44.drew = w25 at HO297 BK299 HB hHeld ⊢
    refine pure_ (i := 0) (N := some 22) (v := ?_) (a' := ?_) #[true, false, false, false, false, false, false] rfl rfl (by kernel_rfl) (fun _ _ _ h => h) (Or.inl ⟨by rfl, ?_⟩) ?_ ?_
    rotate_left
    · intro w'
      go_simp
      with_reducible rfl
    rotate_left
    · simp only [Act.put, List.setIfInBounds_toArray, List.set_cons_zero, List.set_cons_succ, i64_w, i32_w]
      rfl
    refine pure_ (i := 2) (N := some 24) (v := ?_) (a' := ?_) #[true, false, true, false, false, false, false] rfl rfl (by kernel_rfl) (fun _ _ _ h => h) (Or.inl ⟨by rfl, ?_⟩) ?_ ?_
    rotate_left
    · intro w'
      go_simp
      with_reducible rfl
    rotate_left
    · simp only [Act.put, List.setIfInBounds_toArray, List.set_cons_zero, List.set_cons_succ, i64_w, i32_w]
      rfl
    refine take_ (i := 1) (N := some 23) (v := ?_) (a' := ?_) #[true, true, true, false, false, false, false] rfl rfl (by kernel_rfl) (fun _ _ _ h => h) (Or.inl ⟨by rfl, ?_⟩) hHeld ?_ ?_
    rotate_left
    · rintro w' ⟨s0, s1⟩
      go_simp
      with_reducible rfl
    rotate_left
    · simp only [Act.put, List.setIfInBounds_toArray, List.set_cons_zero, List.set_cons_succ, i64_w, i32_w]
      rfl
    refine pure_ (i := 4) (N := some 4) (v := ?_) (a' := ?_) #[true, true, true, false, true, false, false] rfl rfl (by kernel_rfl) (fun _ _ _ h => h) (Or.inl ⟨by rfl, ?_⟩) ?_ ?_
    rotate_left
    · intro w'
      go_simp
      with_reducible rfl
    rotate_left
    · simp only [Act.put, List.setIfInBounds_toArray, List.set_cons_zero, List.set_cons_succ, i64_w, i32_w]
      rfl
    refine take_ (i := 3) (N := some 25) (v := ?_) (a' := ?_) #[true, true, true, true, true, false, false] rfl rfl (by kernel_rfl) (fun _ _ _ h => h) (Or.inl ⟨by rfl, ?_⟩) hHeld ?_ ?_
    rotate_left
    · rintro w' ⟨s0, s1⟩
      go_simp
      with_reducible rfl
    rotate_left
    · simp only [Act.put, List.setIfInBounds_toArray, List.set_cons_zero, List.set_cons_succ, i64_w, i32_w]
      rfl
    refine pure_ (i := 5) (N := some 5) (v := ?_) (a' := ?_) #[true, true, true, true, true, true, false] rfl rfl (by kernel_rfl) (fun _ _ _ h => h) (Or.inl ⟨by rfl, ?_⟩) ?_ ?_
    rotate_left
    · intro w'
      go_simp
      with_reducible rfl
    rotate_left
    · simp only [Act.put, List.setIfInBounds_toArray, List.set_cons_zero, List.set_cons_succ, i64_w, i32_w]
      rfl
    refine pure_ (i := 6) (N := some 6) (v := ?_) (a' := ?_) #[true, true, true, true, true, true, true] rfl rfl (by kernel_rfl) (fun _ _ _ h => h) (Or.inl ⟨by rfl, ?_⟩) ?_ ?_
    rotate_left
    · intro w'
      go_simp
      with_reducible rfl
    rotate_left
    · simp only [Act.put, List.setIfInBounds_toArray, List.set_cons_zero, List.set_cons_succ, i64_w, i32_w]
      rfl
    refine done_ (by kernel_rfl) ?_
    try go_wp2
    go_ret3
    exact ⟨_, by first | rfl | (simp; done), HO297.out, HB.out⟩

/-! ### impl_whole: function 39 -/
def impl_whole.f (a0:Int):Option (Int):=if 0≤a0 then (some (wrap64 ((shl .i64 1 a0) - 1))) else (none)
set_option maxHeartbeats 8000000 in
set_option maxRecDepth 100000 in
theorem impl_whole.calls (a0:Int) (r:Int) (w:World) (h:impl_whole.f a0=some r) :
  Calls Try.prog 39 #[.int .i64 a0] w fun e w'=>e=.returned (.int .i64 r)∧Drawn0 w w':=by
 have H:(if 0≤a0 then (some (wrap64 ((shl .i64 1 a0) - 1))) else (none))=some r:=h;clear h;by_cases c2:0≤a0
 ·rw [if_pos c2] at H;have c2b0:=eq_true c2;have c2b1:decide (0≤a0)=true:=decide_eq_true c2;clear c2;obtain ⟨ji3,hji3⟩:∃ j_:Int,(shl .i64 1 a0)=j_:=⟨_,rfl⟩;replace H:(some (wrap64 ((ji3) - 1)))=some r:=by first|(rw [hji3] at H;exact H)|(simp only [hji3] at H ⊢;exact H)
  have hji3_:(IntKind.i64.wrap (1 * 2 ^ min a0.toNat 64))=ji3:=hji3;have hji3z:a0≤64→(IntKind.i64.wrap (1 * 2 ^ a0.toNat))=ji3:=shl_small hji3;have hji3u:(IntKind.i64.wrap (2 ^ min a0.toNat 64))=ji3:=by have h_:=hji3_;rw [Int.one_mul] at h_;exact h_
  have hji3v:a0≤64→(IntKind.i64.wrap (2 ^ a0.toNat))=ji3:=fun hle_=>by have h_:=hji3z hle_;rw [Int.one_mul] at h_;exact h_
  have hji3y:(wrap64 (1 * 2 ^ min a0.toNat 64))=ji3:=(i64_w _).symm.trans hji3_;have hji3x:a0≤64→(wrap64 (1 * 2 ^ a0.toNat))=ji3:=fun h_=>(i64_w _).symm.trans (hji3z h_)
  obtain rfl:=Option.some.inj H;go_enter Try.func39,Try.ntmps39
  go_wp2
  go_ret
  exact ⟨by first|rfl|(simp;done)|(simp only [← hji3] <;> (first|rfl|simp))|(simp [*];done),by repeat (first|exact Drawn0.refl _|apply Drawn0.step)⟩
 ·rw [if_neg c2] at H;exact absurd H (by simp)

end Go.Proofs.Ytecebaeifmddnaa.PFnExactBestOrder
