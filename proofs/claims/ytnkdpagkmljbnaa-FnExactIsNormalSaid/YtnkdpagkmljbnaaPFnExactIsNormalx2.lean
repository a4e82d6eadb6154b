/-
  A text of this claim's own, printed by a program of the session (wip/tools/xprint.py): functions of the program as Lean functions, each with what its call comes to.
-/
import Derived.Test.YtnkdpagkmljbnaaPFnExactIsNormalx0
import Derived.Test.YtnkdpagkmljbnaaPFnExactIsNormalx1
namespace Go.Proofs.Ytnkdpagkmljbnaa.PFnExactIsNormal
open Go.Proofs.YtnkdpagkmljbnaaW.PrintWords renaming pw_below_drewN → qD, blk_cell → qC, below_drew1 → qO, below_alloc → qA, blk_frozen → qF, below_set → qS, blk_drewN → qN, blk_alloc → qL, blk_drew → qW, below_size → qZ, below_step → qT, blk_below → qB, blk_far → qR, blk_put → qP
open Go.Proofs.YtnkdpagkmljbnaaW.PrintWords.Aside0 renaming mk → qK
open Bool renaming true → Y, false → Z
open List renaming setIfInBounds_toArray → sIb, set_cons_zero → sZ, set_cons_succ → sS, map_toArray → mT, map_cons → mC, map_nil → mN, length_drop → lD, length_take → lT
open Go.Proofs.YtnkdpagkmljbnaaW.PrintWords.Kd renaming C_alloc → cL, C_drewN → cN, C_drew → cW, C_below → cB, R_alloc → rL, R_drewN → rN, R_drew → rW, R_below → rB
open Go.RowKit Go.Proofs.YtnkdpagkmljbnaaW.PrintWords Go.Proofs.YtnkdpagkmljbnaaW.PrintLast Go.Proofs.YtnkdpagkmljbnaaW.PrintMore
attribute [local go_sem] max2_int min2_int max_two min_two max_three min_three max_four min_four   -- for this text's walks alone
set_option linter.unusedVariables false
set_option linter.unusedSimpArgs false

/-! ### spec_l7Closure: function 52 -/
mutual
def spec_l7Closure.l0 : Nat→List (S45)→List Int→Option (List Int)
 | 0,_,_=>none
 | k + 1,x0,x5=>spec_l7Closure.l1 k x0 x5 (x5.length:Int) x0 (x0.length:Int) 0
def spec_l7Closure.l1 : Nat→List (S45)→List Int→Int→List (S45)→Int→Int→Option (List Int)
 | 0,_,_,_,_,_,_=>none
 | k + 1,x0,x5,x6,x16,x17,x18=>if x18 < x17 then (if 0≤x18 then (if x18 < (x16.length:Int) then ((spec_l7All.f k x5 ((rd_T45 x16 x18).f0)).bind fun t184=>(if t184=true then (spec_l7Closure.l2 k x0 x5 x6 x16 x17 x18 ((rd_T45 x16 x18).f1) (((rd_T45 x16 x18).f1).length:Int) 0) else (spec_l7Closure.l1 k x0 x5 x6 x16 x17 (wrap64 (x18 + 1))))) else (none)) else (none)) else (if (x5.length:Int)=x6 then (some x5) else (spec_l7Closure.l0 k x0 x5))
def spec_l7Closure.l2 : Nat→List (S45)→List Int→Int→List (S45)→Int→Int→List Int→Int→Int→Option (List Int)
 | 0,_,_,_,_,_,_,_,_,_=>none
 | k + 1,x0,x5,x6,x16,x17,x18,x27,x28,x29=>if x29 < x28 then (if 0≤x29 then (if x29 < (x27.length:Int) then ((spec_l7Put.f k x5 (rd x27 x29)).bind fun t186=>(spec_l7Closure.l2 k x0 t186 x6 x16 x17 x18 x27 x28 (wrap64 (x29 + 1)))) else (none)) else (none)) else (spec_l7Closure.l1 k x0 x5 x6 x16 x17 (wrap64 (x18 + 1)))
end
def spec_l7Closure.f (k:Nat) (l0:List (S45)) (l1:List Int):Option (List Int):=(some (([]:List Int):List Int)).bind fun y176=>(if y176.length + l1.length < 17592186044416 then (spec_l7Closure.l0 k l0 (y176 ++ l1)) else (none))
theorem spec_l7Closure.mono_l : ∀ k,(∀ y0 y1,LeO (spec_l7Closure.l0 k y0 y1) (spec_l7Closure.l0 (k + 1) y0 y1))∧(∀ y0 y1 y2 y3 y4 y5,LeO (spec_l7Closure.l1 k y0 y1 y2 y3 y4 y5) (spec_l7Closure.l1 (k + 1) y0 y1 y2 y3 y4 y5))∧(∀ y0 y1 y2 y3 y4 y5 y6 y7 y8,LeO (spec_l7Closure.l2 k y0 y1 y2 y3 y4 y5 y6 y7 y8) (spec_l7Closure.l2 (k + 1) y0 y1 y2 y3 y4 y5 y6 y7 y8))
 | 0=>⟨fun _ _ r h=>by simp [spec_l7Closure.l0] at h,fun _ _ _ _ _ _ r h=>by simp [spec_l7Closure.l1] at h,fun _ _ _ _ _ _ _ _ _ r h=>by simp [spec_l7Closure.l2] at h⟩
 | k + 1=>by
  obtain ⟨ih0,ih1,ih2⟩:=spec_l7Closure.mono_l k;refine ⟨?_,?_,?_⟩
  ·intro y0 y1;unfold spec_l7Closure.l0
   repeat' first
   | (with_reducible exact ih0 _ _)
   | (with_reducible exact ih1 _ _ _ _ _ _)
   | (with_reducible exact ih2 _ _ _ _ _ _ _ _ _)
   | (with_reducible exact spec_l7All.mono _ _ _)
   | (with_reducible exact spec_l7Put.mono _ _ _)
   | (with_reducible exact LeO.refl _)
   | (with_reducible exact LeO.none _)
   | (with_reducible refine LeO.ite ?_ ?_)
   | (with_reducible refine LeO.bind ?_ (fun _=>?_))
   | exact ih0 _ _
   | exact ih1 _ _ _ _ _ _
   | exact ih2 _ _ _ _ _ _ _ _ _
   | exact spec_l7All.mono _ _ _
   | exact spec_l7Put.mono _ _ _
   | exact LeO.none _
   | refine LeO.ite ?_ ?_
   | refine LeO.bind ?_ (fun _=>?_)
  ·intro y0 y1 y2 y3 y4 y5;unfold spec_l7Closure.l1
   repeat' first
   | (with_reducible exact ih0 _ _)
   | (with_reducible exact ih1 _ _ _ _ _ _)
   | (with_reducible exact ih2 _ _ _ _ _ _ _ _ _)
   | (with_reducible exact spec_l7All.mono _ _ _)
   | (with_reducible exact spec_l7Put.mono _ _ _)
   | (with_reducible exact LeO.refl _)
   | (with_reducible exact LeO.none _)
   | (with_reducible refine LeO.ite ?_ ?_)
   | (with_reducible refine LeO.bind ?_ (fun _=>?_))
   | exact ih0 _ _
   | exact ih1 _ _ _ _ _ _
   | exact ih2 _ _ _ _ _ _ _ _ _
   | exact spec_l7All.mono _ _ _
   | exact spec_l7Put.mono _ _ _
   | exact LeO.none _
   | refine LeO.ite ?_ ?_
   | refine LeO.bind ?_ (fun _=>?_)
  ·intro y0 y1 y2 y3 y4 y5 y6 y7 y8;unfold spec_l7Closure.l2
   repeat' first
   | (with_reducible exact ih0 _ _)
   | (with_reducible exact ih1 _ _ _ _ _ _)
   | (with_reducible exact ih2 _ _ _ _ _ _ _ _ _)
   | (with_reducible exact spec_l7All.mono _ _ _)
   | (with_reducible exact spec_l7Put.mono _ _ _)
   | (with_reducible exact LeO.refl _)
   | (with_reducible exact LeO.none _)
   | (with_reducible refine LeO.ite ?_ ?_)
   | (with_reducible refine LeO.bind ?_ (fun _=>?_))
   | exact ih0 _ _
   | exact ih1 _ _ _ _ _ _
   | exact ih2 _ _ _ _ _ _ _ _ _
   | exact spec_l7All.mono _ _ _
   | exact spec_l7Put.mono _ _ _
   | exact LeO.none _
   | refine LeO.ite ?_ ?_
   | refine LeO.bind ?_ (fun _=>?_)
theorem spec_l7Closure.mono : ∀ a0 a1 k,LeO (spec_l7Closure.f k a0 a1) (spec_l7Closure.f (k + 1) a0 a1):=by
 intro a0 a1 k;obtain ⟨ih0,ih1,ih2⟩:=spec_l7Closure.mono_l k;unfold spec_l7Closure.f
 repeat' first
   | (with_reducible exact ih0 _ _)
   | (with_reducible exact ih1 _ _ _ _ _ _)
   | (with_reducible exact ih2 _ _ _ _ _ _ _ _ _)
   | (with_reducible exact spec_l7All.mono _ _ _)
   | (with_reducible exact spec_l7Put.mono _ _ _)
   | (with_reducible exact LeO.refl _)
   | (with_reducible exact LeO.none _)
   | (with_reducible refine LeO.ite ?_ ?_)
   | (with_reducible refine LeO.bind ?_ (fun _=>?_))
   | exact ih0 _ _
   | exact ih1 _ _ _ _ _ _
   | exact ih2 _ _ _ _ _ _ _ _ _
   | exact spec_l7All.mono _ _ _
   | exact spec_l7Put.mono _ _ _
   | exact LeO.none _
   | refine LeO.ite ?_ ?_
   | refine LeO.bind ?_ (fun _=>?_)
set_option maxHeartbeats 8000000 in
set_option maxRecDepth 100000 in
theorem spec_l7Closure.calls (k:Nat) (A0:Option Addr) (c0:Nat) (l0:List (S45)) (A1:Option Addr) (c1:Nat) (l1:List Int) (r:List Int) (w:World) (hr0:Kd.C k45 w A0 l0.length l0) (hc0:l0.length≤c0) (hr1:Kd.C (Kd.int .i64) w A1 l1.length l1) (hc1:l1.length≤c1) (h:spec_l7Closure.f k l0 l1=some r) :
  Calls Try.prog 52 #[.slice A0 l0.length c0,.slice A1 l1.length c1] w fun e w'=>∃ v0_:Value,e=.returned (v0_)∧Kd.V (Kd.int .i64) 3 w' w.heap.size (fun k_=>(w.heap.size≤k_)) v0_ r∧Below w.heap.size w w':=by
 have hu45:=Try.underlying45;have HR0:=qK hr0;have HC0:=qK hc0;clear hr0 hc0;have HR1:=qK hr1;have HC1:=qK hc1;clear hr1 hc1;have HB:=qK (Below.refl w.heap.size w);have H:((some (([]:List Int):List Int)).bind fun y176=>(if y176.length + l1.length < 17592186044416 then (spec_l7Closure.l0 k l0 (y176 ++ l1)) else (none)))=some r:=h;clear h;obtain ⟨y176,hy176⟩:∃ y_:List Int,y_=(([]:List Int)):=⟨_,rfl⟩;replace H:(if y176.length + l1.length < 17592186044416 then (spec_l7Closure.l0 k l0 (y176 ++ l1)) else (none))=some r:=by first|(rw [hy176];with_reducible exact H)|(have H2_:=(Option.bind_some _ _).symm.trans H;rw [hy176];with_reducible exact H2_)|(have H2_:=(Option.bind_some _ _).symm.trans H;with_reducible exact H2_)|with_reducible exact H|(rw [hy176];exact H)|exact H
 have Ny176:=qK hy176;clear hy176;by_cases c3:y176.length + l1.length < 17592186044416
 ·rw [if_pos c3] at H;have LMc3:=qK c3;clear c3;obtain ⟨y179,hy179⟩:∃ y_:List Int,y_=(y176 ++ l1):=⟨_,rfl⟩;replace H:(spec_l7Closure.l0 k l0 y179)=some r:=by first|(rw [hy179];with_reducible exact H)|(have H2_:=(Option.bind_some _ _).symm.trans H;rw [hy179];with_reducible exact H2_)|(have H2_:=(Option.bind_some _ _).symm.trans H;with_reducible exact H2_)|with_reducible exact H|(rw [hy179];exact H)|exact H
  have Ny179:=qK hy179;clear hy179;have H':=qK H;clear H;go_enter Try.func52,Try.ntmps52
  go_wp2_with (first|((with_reducible refine gate_dst (N:=11) rfl ?_);refine Kd.R_lit (Kd.int .i64) _ 3 ?hg (N:=11) ?hd (xs:=([]:List Int)) (inner:=[]) (ok:=fun _=>True) (okp:=fun _=>True) ?hr ?hp (fun _ hk=>hk) trivial (Below.refl _ _) (Nat.le_refl _) (by simp) ?_;(case hd=>rfl);(case hg=>rfl);(case hr=>(go_simp;try rfl));(case hp=>exact (Reps.none _ _));intro v177 w4 ho5 hb hg_ hnew_;clear hg_ hnew_;(first|rw [← Ny176.out] at ho5|(simp only [Int.reduceToNat] at ho5;rw [← Ny176.out] at ho5));have n0_:=qK (Kd.R_lower (Kd.R_newM (M:=fun k_=>(w.heap.size≤k_)) ho5 (qZ (by repeat (with_reducible first|exact HB.out|apply qA|apply qD|apply qO))) (fun k_ h_=>h_)) (qZ (by repeat (with_reducible first|exact HB.out|apply qA|apply qD|apply qO))));have n1_:=qK (qT (by repeat (with_reducible first|exact HB.out|apply qA|apply qD|apply qO)) hb);clear HB;have HO178:=n0_;have HB:=n1_;clear n0_ n1_;clear hb ho5)|((with_reducible refine gate_builtin (b:=.append) (xs:=#[.tmp 11,.tmp 12]) rfl ?_);at_builtin;refine Kd.R_append_rows (Kd.int .i64) (w0:=w) w.heap.size rfl (.tmp 11) (.tmp 12) 23 3 (.int .i64 0) 8 rfl Try.underlying23 info3 rfl (by decide) (by omega) v177 y176 l1 _ _ _ (fun k_=>(w.heap.size≤k_)) (fun _=>False) rfl rfl ?aO ?aR (fun _ _ h=>h) (fun _ h=>h.elim) ?aF ?aB ?aS ?aL ?_;(case aR=>repeat (first|exact (cB HR1.out HB.out)|(with_reducible first|refine cL ?_ _|refine cN ?_ _|refine cW ?_)));(case aB=>exact (by repeat (with_reducible first|exact HB.out|apply qA|apply qD|apply qO)));(case aF=>exact (fun k_ hk=>(Nat.le_trans (qZ (by repeat (with_reducible first|exact HB.out|apply qA|apply qD|apply qO))) hk)));(case aO=>exact (by (with_reducible repeat (first|apply rL|apply rN|apply rW));exact Kd.R_mono HO178.out (fun _ hk=>hk.1)));(case aS=>exact (qZ (by repeat (with_reducible first|exact HB.out|apply qA|apply qD|apply qO))));(case aL=>have:=LMc3.out;omega);intro v180 w6 ho hb hg hat;rw [← Ny179.out] at ho;have n0_:=qK (hb);have n1_:=qK (ho);clear HB;clear HO178;have HB:=n0_;have HO181:=n1_;clear n0_ n1_;clear ho hb hg hat))
  go_loopg [5] k (fun kq v5 w'=>∃ (x5_1:List Int),Aside0 (spec_l7Closure.l0 kq l0 x5_1=some r)∧Aside0 (kq≤k)∧Aside0 (Kd.V (Kd.int .i64) 3 w' w.heap.size (fun k_=>(w.heap.size≤k_)) v5 x5_1)∧Aside0 (Below w.heap.size w w'))
  case atStart=>exact ⟨(y179),H',⟨Nat.le_refl _⟩,⟨Kd.R_V (by (with_reducible repeat (first|apply rL|apply rN|apply rW));exact HO181.out)⟩,⟨by repeat (first|(with_reducible first|exact HB.out|apply qA|apply qD|apply qO)|exact HB.out)⟩⟩
  case round =>
   clear H';try clear c1
   try clear p2
   try clear c3
   try clear c5
   obtain ⟨x5_1,HA,HK1,HO_5,HB⟩:=hrel;cases gk with
   | zero=>exact absurd HA.out (by simp [spec_l7Closure.l0])
   | succ k1 =>
    have H:=HA.out;clear HA;simp only [spec_l7Closure.l0] at H;have H':=qK H;clear H;obtain ⟨Ao7,co7,eo7⟩:=Kd.V_slice HO_5.out;subst eo7;go_wp2
    go_loopg [5,18] k1 (fun kq v5 v18 w'=>∃ (x5_2:List Int) (x18_2:Int),v18=.int .i64 x18_2∧Aside0 (spec_l7Closure.l1 kq l0 x5_2 (x5_1.length:Int) l0 (l0.length:Int) x18_2=some r)∧Aside0 (kq≤k1)∧Aside0 (Kd.V (Kd.int .i64) 3 w' w.heap.size (fun k_=>(w.heap.size≤k_)) v5 x5_2)∧Aside0 (Below w.heap.size w w'))
    case atStart=>exact ⟨(x5_1),(0),(by first|rfl|(simp;done)|(simp [*];done)),H',⟨Nat.le_refl _⟩,⟨by (with_reducible repeat (first|apply Kd.V_alloc|apply Kd.V_drewN|apply Kd.V_drew));exact HO_5.out⟩,⟨by repeat (first|(with_reducible first|exact HB.out|apply qA|apply qD|apply qO)|exact HB.out)⟩⟩
    case round =>
     clear H';try clear c1
     try clear p2
     try clear c3
     try clear c5
     try clear p2
     obtain ⟨x5_2,x18_2,rfl,HA,HK2,HO_5,HB⟩:=hrel;cases gk with
     | zero=>exact absurd HA.out (by simp [spec_l7Closure.l1])
     | succ k2 =>
      have H:=HA.out;clear HA;simp only [spec_l7Closure.l1] at H;by_cases c8:x18_2 < (l0.length:Int)
      ·rw [if_pos c8] at H;have c8b0:decide (x18_2 < (l0.length:Int))=true:=decide_eq_true c8;clear c8;by_cases c9:0≤x18_2
       ·rw [if_pos c9] at H;have c9b0:decide (0≤x18_2)=true:=decide_eq_true c9;clear c9;by_cases c10:x18_2 < (l0.length:Int)
        ·rw [if_pos c10] at H;have c10b0:decide (x18_2 < (l0.length:Int))=true:=decide_eq_true c10;clear c10;replace H:=Option.bind_eq_some_iff.mp H;obtain ⟨t184,A110,H⟩:=H;replace H:(if t184=true then (spec_l7Closure.l2 k2 l0 x5_2 (x5_1.length:Int) l0 (l0.length:Int) x18_2 ((rd_T45 l0 x18_2).f1) (((rd_T45 l0 x18_2).f1).length:Int) 0) else (spec_l7Closure.l1 k2 l0 x5_2 (x5_1.length:Int) l0 (l0.length:Int) (wrap64 (x18_2 + 1))))=some r:=H;have A11:=qK A110;clear A110;by_cases c12:t184=true
         ·subst c12;have H1:(spec_l7Closure.l2 k2 l0 x5_2 (x5_1.length:Int) l0 (l0.length:Int) x18_2 ((rd_T45 l0 x18_2).f1) (((rd_T45 l0 x18_2).f1).length:Int) 0)=some r:=by rw [if_pos rfl] at H;exact H
          clear H;have H:=H1;clear H1;have H':=qK H;clear H;have p182:0≤(x18_2:Int):=of_decide_eq_true (by first|(with_reducible assumption)|assumption);have q182:x18_2 < (l0.length:Int):=of_decide_eq_true (by first|(with_reducible assumption)|assumption);obtain ⟨ad182,A182_0,c182_0,A182_1,c182_1,e182,hx182_0,hx182_1,hl182_0,hi182_0,hl182_1,hi182_1⟩:=at_T45 HR0.out x18_2 p182 q182;cases e182
          replace hx182_0:=(HB.out.cell (World.block_lt_of_cell? w _ hx182_0)).trans hx182_0;replace hx182_1:=(HB.out.cell (World.block_lt_of_cell? w _ hx182_1)).trans hx182_1;have HR182_0:=qK hi182_0;have HC182_0:=qK hl182_0;clear hi182_0 hl182_0;have HR182_1:=qK hi182_1;have HC182_1:=qK hl182_1;clear hi182_1 hl182_1;replace p182:=eq_true p182;replace q182:=eq_true q182;go_wp2_with (first|((with_reducible refine gate_dst (N:=8) rfl ?_);refine box_event ?hg (N:=8) ?hd (cs:=#[.slice none 0 0,.slice none 0 0]) (t:=45) ?hr ?_;(case hd=>rfl);(case hg=>rfl);(case hr=>(go_simp;try rfl));intro gb183 hg w13 hbox hb;have n0_:=qK (Kd.V_below (Kd.V_elderB (by (with_reducible repeat (first|apply Kd.V_alloc|apply Kd.V_drewN|apply Kd.V_drew));exact HO_5.out) gb183 (Nat.le_of_eq hg.symm)) hb);have n1_:=qK (qT (by repeat (with_reducible first|exact HB.out|apply qA|apply qD|apply qO)) hb);have n2_:=qK (hbox);have n3_:=qK ((by rw [hg];exact (qZ (by repeat (with_reducible first|exact HB.out|apply qA|apply qD|apply qO))):w.heap.size≤gb183));have n4_:=qK ((by rw [hg];exact (qZ (by repeat (with_reducible first|exact HB.out|apply qA|apply qD|apply qO))):w.heap.size≤gb183));clear HO_5;clear HB;have HO_5:=n0_;have HB:=n1_;have BK183:=n2_;have GW183:=n3_;have GE183:=n4_;clear n0_ n1_ n2_ n3_ n4_;clear hb hbox hg;have hcz14_0:w13.cell? ⟨gb183,0,none⟩=some (.slice none 0 0):=(qC BK183.out 0).trans rfl;have hcz14_1:w13.cell? ⟨gb183,1,none⟩=some (.slice none 0 0):=(qC BK183.out 1).trans rfl;have hfz14_0:=qF BK183.out 0;have hfz14_1:=qF BK183.out 1;obtain ⟨Ao15,co15,eo15⟩:=Kd.V_slice HO_5.out;subst eo15)|((with_reducible refine gate_callee (f:=53) rfl ?_);refine goesL_ (some 25) rfl rfl Try.func53 (by kernel_rfl) rfl #[.slice Ao15 x5_2.length co15,.slice A182_0 ((rd_T45 l0 x18_2).f0).length c182_0] rfl (by (try simp only [mT,mC,mN]);first|done|rfl|(simp only [lD,lT];rfl)) ?_;(with_reducible refine (spec_l7All.calls k2 _ _ x5_2 _ _ ((rd_T45 l0 x18_2).f0) true _ ?side1 ?side2 ?side3 ?side4 A11.out).mono ?_);(case side1=>refine (Kd.V_reads' (e:=3) (base:=w.heap.size) (ok:=fun k_=>((w.heap.size≤k_)∧k_ ≠ gb183)) (n:=x5_2.length) (c:=co15) ?_).2.2;exact (by (with_reducible repeat (first|apply Kd.V_alloc|apply Kd.V_drewN|apply Kd.V_drew));exact (Kd.V_mono (Kd.V_far (p:=⟨gb183,1,none⟩) (Kd.V_far (p:=⟨gb183,0,none⟩) (Kd.V_mono HO_5.out (fun k_ hk=>(⟨hk,hk.2⟩:_∧k_ ≠ gb183))) (fun _ hk=>hk.2) (.slice A182_0 ((rd_T45 l0 x18_2).f0).length c182_0)) (fun _ hk=>hk.2) (.slice A182_1 ((rd_T45 l0 x18_2).f1).length c182_1)) (fun _ h_=>h_.1))));(case side2=>exact (Kd.V_reads' HO_5.out).2.1);(case side3=>exact cB HR182_0.out (by repeat (with_reducible first|exact HB.out|apply qA|apply qD|apply qO|refine qS ?_ GE183.out)));(case side4=>exact HC182_0.out);rintro e w' ⟨rfl,⟨nd,rfl⟩⟩;refine ⟨_,rfl,?_⟩))
          go_loopg [5,29] k2 (fun kq v5 v29 w'=>∃ (x5_3:List Int) (x29_3:Int),v29=.int .i64 x29_3∧Aside0 (spec_l7Closure.l2 kq l0 x5_3 (x5_1.length:Int) l0 (l0.length:Int) x18_2 ((rd_T45 l0 x18_2).f1) (((rd_T45 l0 x18_2).f1).length:Int) x29_3=some r)∧Aside0 (kq≤k2)∧Aside0 (Kd.V (Kd.int .i64) 3 w' w.heap.size (fun k_=>(w.heap.size≤k_)∧k_ ≠ gb183) v5 x5_3)∧Aside0 (w'.heap[gb183]?=some (.cells #[(.slice A182_0 ((rd_T45 l0 x18_2).f0).length c182_0),(.slice A182_1 ((rd_T45 l0 x18_2).f1).length c182_1)] 45 (0,0)))∧Aside0 (Below w.heap.size w w'))
          case atStart=>exact ⟨(x5_2),(0),(by first|rfl|(simp;done)|(simp [*];done)),H',⟨Nat.le_refl _⟩,⟨by (with_reducible repeat (first|apply Kd.V_alloc|apply Kd.V_drewN|apply Kd.V_drew));exact Kd.V_mono (Kd.V_far (p:=⟨gb183,1,none⟩) (Kd.V_far (p:=⟨gb183,0,none⟩) (Kd.V_mono HO_5.out (fun k_ hk=>(⟨hk,hk.2⟩:_∧k_ ≠ gb183))) (fun _ hk=>hk.2) (.slice A182_0 ((rd_T45 l0 x18_2).f0).length c182_0)) (fun _ hk=>hk.2) (.slice A182_1 ((rd_T45 l0 x18_2).f1).length c182_1)) (fun _ hk=>⟨hk.1.1,hk.1.2⟩)⟩,⟨by (with_reducible repeat (first|refine qN ?_ _|refine qW ?_|refine qL ?_ _));refine qP (cs:=#[.slice A182_0 ((rd_T45 l0 x18_2).f0).length c182_0,.slice none 0 0]) ?_ 1 _ rfl;(with_reducible repeat (first|refine qN ?_ _|refine qW ?_|refine qL ?_ _));refine qP (cs:=#[.slice none 0 0,.slice none 0 0]) ?_ 0 _ rfl;(with_reducible repeat (first|refine qN ?_ _|refine qW ?_|refine qL ?_ _));exact BK183.out⟩,⟨by repeat (first|(with_reducible first|exact HB.out|apply qA|apply qD|apply qO|refine qS ?_ GE183.out)|exact HB.out)⟩⟩
          case round =>
           clear H';try clear c1
           try clear p1
           try clear q1
           try clear hx1
           try clear p2
           try clear c3
           try clear c5
           try clear p6
           try clear c8
           try clear c8b0
           try clear c9
           try clear c9b0
           try clear c10
           try clear c10b0
           try clear c12
           try clear hcz14_0
           try clear hcz14_1
           try clear hfz14_0
           try clear hfz14_1
           try clear hx182_0
           try clear hx182_1
           try clear p182
           try clear p2
           try clear q182
           obtain ⟨x5_3,x29_3,rfl,HA,HK3,HO_5,BK183,HB⟩:=hrel;cases gk with
           | zero=>exact absurd HA.out (by simp [spec_l7Closure.l2])
           | succ k3 =>
            have H:=HA.out;clear HA;simp only [spec_l7Closure.l2] at H;by_cases c16:x29_3 < (((rd_T45 l0 x18_2).f1).length:Int)
            ·rw [if_pos c16] at H;have c16b0:decide (x29_3 < (((rd_T45 l0 x18_2).f1).length:Int))=true:=decide_eq_true c16;clear c16;by_cases c17:0≤x29_3
             ·rw [if_pos c17] at H;have c17b0:decide (0≤x29_3)=true:=decide_eq_true c17;clear c17;by_cases c18:x29_3 < (((rd_T45 l0 x18_2).f1).length:Int)
              ·rw [if_pos c18] at H;have c18b0:decide (x29_3 < (((rd_T45 l0 x18_2).f1).length:Int))=true:=decide_eq_true c18;clear c18;replace H:=Option.bind_eq_some_iff.mp H;obtain ⟨t186,A190,H⟩:=H;replace H:(spec_l7Closure.l2 k3 l0 t186 (x5_1.length:Int) l0 (l0.length:Int) x18_2 ((rd_T45 l0 x18_2).f1) (((rd_T45 l0 x18_2).f1).length:Int) (wrap64 (x29_3 + 1)))=some r:=H;have A19:=qK A190;clear A190;have H':=qK H;clear H;have p185:0≤(x29_3:Int):=of_decide_eq_true (by first|(with_reducible assumption)|assumption);have q185:x29_3 < (((rd_T45 l0 x18_2).f1).length:Int):=of_decide_eq_true (by first|(with_reducible assumption)|assumption);obtain ⟨ad185,e185,hx185_0⟩:=Kd.at_int HR182_1.out x29_3 p185 q185;cases e185
               replace hx185_0:=(HB.out.cell (World.block_lt_of_cell? w _ hx185_0)).trans hx185_0;replace p185:=eq_true p185;replace q185:=eq_true q185;obtain ⟨Ao20,co20,eo20⟩:=Kd.V_slice HO_5.out;subst eo20;go_wp2_with (first|((with_reducible refine gate_callee (f:=61) rfl ?_);refine goesL_ (some 35) rfl rfl Try.func61 (by kernel_rfl) rfl #[.slice Ao20 x5_3.length co20,.int .i64 (rd ((rd_T45 l0 x18_2).f1) x29_3)] rfl (by (try simp only [mT,mC,mN]);first|done|rfl|(simp only [lD,lT];rfl)) ?_;(with_reducible refine (spec_l7Put.calls k3 (fun k_=>((w.heap.size≤k_)∧k_ ≠ gb183)) _ _ x5_3 (rd ((rd_T45 l0 x18_2).f1) x29_3) t186 _ ?side1 A19.out).mono ?_);(case side1=>exact HO_5.out);rintro e w21 ⟨v187,rfl,ho0,hb⟩;refine ⟨_,rfl,?_⟩;have n0_:=qK (Kd.V_below (by (with_reducible repeat (first|apply Kd.V_alloc|apply Kd.V_drewN|apply Kd.V_drew));exact HO_5.out) hb);have n1_:=qK (Kd.V_lower (Kd.V_mono (ok':=fun k_=>(w.heap.size≤k_)∧k_ ≠ gb183) ho0 (fun k_ hk_=>⟨Or.elim hk_ (fun hs_=>hs_.1) (fun hn_=>(Nat.le_trans (qZ (by repeat (with_reducible first|exact HB.out|apply qA|apply qD|apply qO|refine qS ?_ GE183.out))) hn_)),Or.elim hk_ (fun hs_=>hs_.2) (fun hn_=>(Kd.freshB (g:=gb183) (o:=_) (by (with_reducible repeat (first|refine qN ?_ _|refine qW ?_|refine qL ?_ _));exact BK183.out) k_ hn_))⟩)) (qZ (by repeat (with_reducible first|exact HB.out|apply qA|apply qD|apply qO|refine qS ?_ GE183.out))));have n2_:=qK (qB (g:=gb183) (o:=_) (by (with_reducible repeat (first|refine qN ?_ _|refine qW ?_|refine qL ?_ _));exact BK183.out) hb);have n3_:=qK (qT (by repeat (with_reducible first|exact HB.out|apply qA|apply qD|apply qO|refine qS ?_ GE183.out)) hb);clear HO_5;clear BK183;clear HB;have HO_5:=n0_;have HO188:=n1_;have BK183:=n2_;have HB:=n3_;clear n0_ n1_ n2_ n3_;(try clear hb);(try clear ho0)))
               go_roundg k3
               case measure=>have:=HK1.out;have:=HK2.out;have:=HK3.out;omega
               case rel=>exact ⟨(t186),(wrap64 (x29_3 + 1)),(by first|rfl|(simp;done)|(simp [*];done)),H',⟨by have:=HK1.out;have:=HK2.out;have:=HK3.out;omega⟩,⟨by (with_reducible repeat (first|apply Kd.V_alloc|apply Kd.V_drewN|apply Kd.V_drew));exact HO188.out⟩,⟨by (with_reducible repeat (first|refine qN ?_ _|refine qW ?_|refine qL ?_ _));exact BK183.out⟩,⟨by repeat (first|(with_reducible first|exact HB.out|apply qA|apply qD|apply qO|refine qS ?_ GE183.out)|exact HB.out)⟩⟩
              ·rw [if_neg c18] at H;exact absurd H (by simp)
             ·rw [if_neg c17] at H;exact absurd H (by simp)
            ·rw [if_neg c16] at H;have c16b0:decide (x29_3 < (((rd_T45 l0 x18_2).f1).length:Int))=false:=decide_eq_false c16;clear c16;have H':=qK H;clear H;go_wp2
             go_roundg k3
             case measure=>have:=HK1.out;have:=HK2.out;have:=HK3.out;omega
             case rel=>exact ⟨(x5_3),(wrap64 (x18_2 + 1)),(by first|rfl|(simp;done)|(simp [*];done)),H',⟨by have:=HK1.out;have:=HK2.out;have:=HK3.out;omega⟩,⟨by (with_reducible repeat (first|apply Kd.V_alloc|apply Kd.V_drewN|apply Kd.V_drew));exact Kd.V_mono HO_5.out (fun _ hk=>hk.1)⟩,⟨by repeat (first|(with_reducible first|exact HB.out|apply qA|apply qD|apply qO|refine qS ?_ GE183.out)|exact HB.out)⟩⟩
         ·replace c12:=Bool.eq_false_iff.mpr c12;subst c12;have H1:(spec_l7Closure.l1 k2 l0 x5_2 (x5_1.length:Int) l0 (l0.length:Int) (wrap64 (x18_2 + 1)))=some r:=by rw [if_neg (show ¬ (false=true) by decide)] at H;exact H
          clear H;have H:=H1;clear H1;have H':=qK H;clear H;have p182:0≤(x18_2:Int):=of_decide_eq_true (by first|(with_reducible assumption)|assumption);have q182:x18_2 < (l0.length:Int):=of_decide_eq_true (by first|(with_reducible assumption)|assumption);obtain ⟨ad182,A182_0,c182_0,A182_1,c182_1,e182,hx182_0,hx182_1,hl182_0,hi182_0,hl182_1,hi182_1⟩:=at_T45 HR0.out x18_2 p182 q182;cases e182
          replace hx182_0:=(HB.out.cell (World.block_lt_of_cell? w _ hx182_0)).trans hx182_0;replace hx182_1:=(HB.out.cell (World.block_lt_of_cell? w _ hx182_1)).trans hx182_1;have HR182_0:=qK hi182_0;have HC182_0:=qK hl182_0;clear hi182_0 hl182_0;have HR182_1:=qK hi182_1;have HC182_1:=qK hl182_1;clear hi182_1 hl182_1;replace p182:=eq_true p182;replace q182:=eq_true q182;go_wp2_with (first|((with_reducible refine gate_dst (N:=8) rfl ?_);refine box_event ?hg (N:=8) ?hd (cs:=#[.slice none 0 0,.slice none 0 0]) (t:=45) ?hr ?_;(case hd=>rfl);(case hg=>rfl);(case hr=>(go_simp;try rfl));intro gb183 hg w22 hbox hb;have n0_:=qK (Kd.V_below (Kd.V_elderB (by (with_reducible repeat (first|apply Kd.V_alloc|apply Kd.V_drewN|apply Kd.V_drew));exact HO_5.out) gb183 (Nat.le_of_eq hg.symm)) hb);have n1_:=qK (qT (by repeat (with_reducible first|exact HB.out|apply qA|apply qD|apply qO)) hb);have n2_:=qK (hbox);have n3_:=qK ((by rw [hg];exact (qZ (by repeat (with_reducible first|exact HB.out|apply qA|apply qD|apply qO))):w.heap.size≤gb183));have n4_:=qK ((by rw [hg];exact (qZ (by repeat (with_reducible first|exact HB.out|apply qA|apply qD|apply qO))):w.heap.size≤gb183));clear HO_5;clear HB;have HO_5:=n0_;have HB:=n1_;have BK183:=n2_;have GW183:=n3_;have GE183:=n4_;clear n0_ n1_ n2_ n3_ n4_;clear hb hbox hg;have hcz23_0:w22.cell? ⟨gb183,0,none⟩=some (.slice none 0 0):=(qC BK183.out 0).trans rfl;have hcz23_1:w22.cell? ⟨gb183,1,none⟩=some (.slice none 0 0):=(qC BK183.out 1).trans rfl;have hfz23_0:=qF BK183.out 0;have hfz23_1:=qF BK183.out 1;obtain ⟨Ao24,co24,eo24⟩:=Kd.V_slice HO_5.out;subst eo24)|((with_reducible refine gate_callee (f:=53) rfl ?_);refine goesL_ (some 25) rfl rfl Try.func53 (by kernel_rfl) rfl #[.slice Ao24 x5_2.length co24,.slice A182_0 ((rd_T45 l0 x18_2).f0).length c182_0] rfl (by (try simp only [mT,mC,mN]);first|done|rfl|(simp only [lD,lT];rfl)) ?_;(with_reducible refine (spec_l7All.calls k2 _ _ x5_2 _ _ ((rd_T45 l0 x18_2).f0) false _ ?side1 ?side2 ?side3 ?side4 A11.out).mono ?_);(case side1=>refine (Kd.V_reads' (e:=3) (base:=w.heap.size) (ok:=fun k_=>((w.heap.size≤k_)∧k_ ≠ gb183)) (n:=x5_2.length) (c:=co24) ?_).2.2;exact (by (with_reducible repeat (first|apply Kd.V_alloc|apply Kd.V_drewN|apply Kd.V_drew));exact (Kd.V_mono (Kd.V_far (p:=⟨gb183,1,none⟩) (Kd.V_far (p:=⟨gb183,0,none⟩) (Kd.V_mono HO_5.out (fun k_ hk=>(⟨hk,hk.2⟩:_∧k_ ≠ gb183))) (fun _ hk=>hk.2) (.slice A182_0 ((rd_T45 l0 x18_2).f0).length c182_0)) (fun _ hk=>hk.2) (.slice A182_1 ((rd_T45 l0 x18_2).f1).length c182_1)) (fun _ h_=>h_.1))));(case side2=>exact (Kd.V_reads' HO_5.out).2.1);(case side3=>exact cB HR182_0.out (by repeat (with_reducible first|exact HB.out|apply qA|apply qD|apply qO|refine qS ?_ GE183.out)));(case side4=>exact HC182_0.out);rintro e w' ⟨rfl,⟨nd,rfl⟩⟩;refine ⟨_,rfl,?_⟩))
          go_roundg k2
          case measure=>have:=HK1.out;have:=HK2.out;omega
          case rel=>exact ⟨(x5_2),(wrap64 (x18_2 + 1)),(by first|rfl|(simp;done)|(simp [*];done)),H',⟨by have:=HK1.out;have:=HK2.out;omega⟩,⟨by (with_reducible repeat (first|apply Kd.V_alloc|apply Kd.V_drewN|apply Kd.V_drew));exact Kd.V_mono (Kd.V_far (p:=⟨gb183,1,none⟩) (Kd.V_far (p:=⟨gb183,0,none⟩) (Kd.V_mono HO_5.out (fun k_ hk=>(⟨hk,hk.2⟩:_∧k_ ≠ gb183))) (fun _ hk=>hk.2) (.slice A182_0 ((rd_T45 l0 x18_2).f0).length c182_0)) (fun _ hk=>hk.2) (.slice A182_1 ((rd_T45 l0 x18_2).f1).length c182_1)) (fun _ hk=>hk.1.1)⟩,⟨by repeat (first|(with_reducible first|exact HB.out|apply qA|apply qD|apply qO|refine qS ?_ GE183.out)|exact HB.out)⟩⟩
        ·rw [if_neg c10] at H;exact absurd H (by simp)
       ·rw [if_neg c9] at H;exact absurd H (by simp)
      ·rw [if_neg c8] at H;have c8b0:decide (x18_2 < (l0.length:Int))=false:=decide_eq_false c8;clear c8;by_cases c25:(x5_2.length:Int)=(x5_1.length:Int)
       ·rw [if_pos c25] at H;have c25b0:((x5_2.length:Int) == (x5_1.length:Int))=true:=beq_iff_eq.mpr c25;have c25b1:((x5_2.length:Int) != (x5_1.length:Int))=false:=bne_eq_false_iff_eq.mpr c25;have c25b2:(x5_2.length == x5_1.length)=true:=by first|simpa using c25|(simp at c25 ⊢;omega)
        clear c25;obtain rfl:=Option.some.inj H;obtain ⟨Ao26,co26,eo26⟩:=Kd.V_slice HO_5.out;subst eo26;go_wp2
        go_ret
        exact ⟨_,by first|rfl|(simp [errW_none,errW_some] <;> rfl)|(simp [*,errW_none,errW_some] <;> rfl),by (with_reducible repeat (first|apply Kd.V_alloc|apply Kd.V_drewN|apply Kd.V_drew));exact HO_5.out,by repeat (first|(with_reducible first|exact HB.out|apply qA|apply qD|apply qO)|exact HB.out)⟩
       ·rw [if_neg c25] at H;have c25b0:((x5_2.length:Int) == (x5_1.length:Int))=false:=beq_eq_false_iff_ne.mpr c25;have c25b1:((x5_2.length:Int) != (x5_1.length:Int))=true:=bne_iff_ne.mpr c25;have c25b2:(x5_2.length == x5_1.length)=false:=by first|simpa using c25|(simp at c25 ⊢;omega)
        have H':=qK H;clear H;obtain ⟨Ao27,co27,eo27⟩:=Kd.V_slice HO_5.out;subst eo27;go_wp2
        go_roundg k2
        case measure=>have:=HK1.out;have:=HK2.out;omega
        case rel=>exact ⟨(x5_2),H',⟨by have:=HK1.out;have:=HK2.out;omega⟩,⟨by (with_reducible repeat (first|apply Kd.V_alloc|apply Kd.V_drewN|apply Kd.V_drew));exact HO_5.out⟩,⟨by repeat (first|(with_reducible first|exact HB.out|apply qA|apply qD|apply qO)|exact HB.out)⟩⟩
 ·rw [if_neg c3] at H;exact absurd H (by simp)

/-! ### spec_l8Within: function 57 -/
def spec_l8Within.l0 : Nat→List Int→List Int→List Int→Int→Int→Option (List Int)
 | 0,_,_,_,_,_=>none
 | k + 1,x1,x5,x8,x9,x10=>if x10 < x9 then (if 0≤x10 then (if x10 < (x8.length:Int) then ((spec_l1Has.f k x1 (rd x8 x10)).bind fun t190=>(if t190=true then (if x5.length < 17592186044416 then (spec_l8Within.l0 k x1 (x5 ++ [rd x8 x10]) x8 x9 (wrap64 (x10 + 1))) else (none)) else (spec_l8Within.l0 k x1 x5 x8 x9 (wrap64 (x10 + 1))))) else (none)) else (none)) else (some x5)
def spec_l8Within.f (k:Nat) (l0:List Int) (l1:List Int):Option (List Int):=spec_l8Within.l0 k l1 ([]:List Int) l0 (l0.length:Int) 0
theorem spec_l8Within.mono_l : ∀ k,(∀ y0 y1 y2 y3 y4,LeO (spec_l8Within.l0 k y0 y1 y2 y3 y4) (spec_l8Within.l0 (k + 1) y0 y1 y2 y3 y4))
 | 0=>fun _ _ _ _ _ r h=>by simp [spec_l8Within.l0] at h
 | k + 1=>by
  have ih0:=spec_l8Within.mono_l k
  ·intro y0 y1 y2 y3 y4;unfold spec_l8Within.l0
   repeat' first
   | (with_reducible exact ih0 _ _ _ _ _)
   | (with_reducible exact spec_l1Has.mono _ _ _)
   | (with_reducible exact LeO.refl _)
   | (with_reducible exact LeO.none _)
   | (with_reducible refine LeO.ite ?_ ?_)
   | (with_reducible refine LeO.bind ?_ (fun _=>?_))
   | exact ih0 _ _ _ _ _
   | exact spec_l1Has.mono _ _ _
   | exact LeO.none _
   | refine LeO.ite ?_ ?_
   | refine LeO.bind ?_ (fun _=>?_)
theorem spec_l8Within.mono : ∀ a0 a1 k,LeO (spec_l8Within.f k a0 a1) (spec_l8Within.f (k + 1) a0 a1):=by
 intro a0 a1 k;have ih0:=spec_l8Within.mono_l k;unfold spec_l8Within.f
 repeat' first
   | (with_reducible exact ih0 _ _ _ _ _)
   | (with_reducible exact spec_l1Has.mono _ _ _)
   | (with_reducible exact LeO.refl _)
   | (with_reducible exact LeO.none _)
   | (with_reducible refine LeO.ite ?_ ?_)
   | (with_reducible refine LeO.bind ?_ (fun _=>?_))
   | exact ih0 _ _ _ _ _
   | exact spec_l1Has.mono _ _ _
   | exact LeO.none _
   | refine LeO.ite ?_ ?_
   | refine LeO.bind ?_ (fun _=>?_)
set_option maxHeartbeats 8000000 in
set_option maxRecDepth 100000 in
theorem spec_l8Within.calls (k:Nat) (A0:Option Addr) (c0:Nat) (l0:List Int) (A1:Option Addr) (c1:Nat) (l1:List Int) (r:List Int) (w:World) (hr0:Kd.C (Kd.int .i64) w A0 l0.length l0) (hc0:l0.length≤c0) (hr1:Kd.C (Kd.int .i64) w A1 l1.length l1) (hc1:l1.length≤c1) (h:spec_l8Within.f k l0 l1=some r) :
  Calls Try.prog 57 #[.slice A0 l0.length c0,.slice A1 l1.length c1] w fun e w'=>∃ v0_:Value,e=.returned (v0_)∧Kd.R (Kd.int .i64) 3 w' w.heap.size (fun _=>True) v0_ r∧Below w.heap.size w w':=by
 have HR0:=qK hr0;have HC0:=qK hc0;clear hr0 hc0;have HR1:=qK hr1;have HC1:=qK hc1;clear hr1 hc1;have HB:=qK (Below.refl w.heap.size w);have H:(spec_l8Within.l0 k l1 ([]:List Int) l0 (l0.length:Int) 0)=some r:=h;clear h;have H':=qK H;clear H;go_enter Try.func57,Try.ntmps57
 go_wp2
 go_loopg [5,10] k (fun kq v5 v10 w'=>∃ (x5_1:List Int) (x10_1:Int),v10=.int .i64 x10_1∧Aside0 (spec_l8Within.l0 kq l1 x5_1 l0 (l0.length:Int) x10_1=some r)∧Aside0 (kq≤k)∧Aside0 (Kd.R (Kd.int .i64) 3 w' w.heap.size (fun _=>True) v5 x5_1)∧Aside0 (Below w.heap.size w w'))
 case atStart=>exact ⟨(([]:List Int)),(0),(by first|rfl|(simp;done)|(simp [*];done)),H',⟨Nat.le_refl _⟩,⟨by first|exact Kd.R_nil _ _ _ _ _|exact Kd.N_nil _ _ _ _ _|exact Kd.V_nil _ _ _ _ _|exact Kd.Q_nil _ _ _ _ _|exact Kd.S_nil _ _ _ _ _⟩,⟨by repeat (first|(with_reducible first|exact HB.out|apply qA|apply qD|apply qO)|exact HB.out)⟩⟩
 case round =>
  clear H';try clear c1
  try clear p2
  obtain ⟨x5_1,x10_1,rfl,HA,HK1,HO_5,HB⟩:=hrel;cases gk with
  | zero=>exact absurd HA.out (by simp [spec_l8Within.l0])
  | succ k1 =>
   have H:=HA.out;clear HA;simp only [spec_l8Within.l0] at H;by_cases c3:x10_1 < (l0.length:Int)
   ·rw [if_pos c3] at H;have c3b0:decide (x10_1 < (l0.length:Int))=true:=decide_eq_true c3;clear c3;by_cases c4:0≤x10_1
    ·rw [if_pos c4] at H;have c4b0:decide (0≤x10_1)=true:=decide_eq_true c4;clear c4;by_cases c5:x10_1 < (l0.length:Int)
     ·rw [if_pos c5] at H;have c5b0:decide (x10_1 < (l0.length:Int))=true:=decide_eq_true c5;clear c5;replace H:=Option.bind_eq_some_iff.mp H;obtain ⟨t190,A60,H⟩:=H;replace H:(if t190=true then (if x5_1.length < 17592186044416 then (spec_l8Within.l0 k1 l1 (x5_1 ++ [rd l0 x10_1]) l0 (l0.length:Int) (wrap64 (x10_1 + 1))) else (none)) else (spec_l8Within.l0 k1 l1 x5_1 l0 (l0.length:Int) (wrap64 (x10_1 + 1))))=some r:=H;have A6:=qK A60;clear A60;by_cases c7:t190=true
      ·subst c7;have H1:(if x5_1.length < 17592186044416 then (spec_l8Within.l0 k1 l1 (x5_1 ++ [rd l0 x10_1]) l0 (l0.length:Int) (wrap64 (x10_1 + 1))) else (none))=some r:=by rw [if_pos rfl] at H;exact H
       clear H;have H:=H1;clear H1;by_cases c8:x5_1.length < 17592186044416
       ·rw [if_pos c8] at H;have LMc8:=qK c8;clear c8;obtain ⟨y191,hy191⟩:∃ y_:List Int,y_=(x5_1 ++ [rd l0 x10_1]):=⟨_,rfl⟩;replace H:(spec_l8Within.l0 k1 l1 y191 l0 (l0.length:Int) (wrap64 (x10_1 + 1)))=some r:=by first|(rw [hy191];with_reducible exact H)|(have H2_:=(Option.bind_some _ _).symm.trans H;rw [hy191];with_reducible exact H2_)|(have H2_:=(Option.bind_some _ _).symm.trans H;with_reducible exact H2_)|with_reducible exact H|(rw [hy191];exact H)|exact H
        have Ny191:=qK hy191;clear hy191;have H':=qK H;clear H;have p189:0≤(x10_1:Int):=of_decide_eq_true (by first|(with_reducible assumption)|assumption);have q189:x10_1 < (l0.length:Int):=of_decide_eq_true (by first|(with_reducible assumption)|assumption);obtain ⟨ad189,e189,hx189_0⟩:=Kd.at_int HR0.out x10_1 p189 q189;cases e189
        replace hx189_0:=(HB.out.cell (World.block_lt_of_cell? w _ hx189_0)).trans hx189_0;replace p189:=eq_true p189;replace q189:=eq_true q189;go_wp2_with (first|((with_reducible refine gate_callee (f:=62) rfl ?_);refine goesL_ (some 16) rfl rfl Try.func62 (by kernel_rfl) rfl #[.slice A1 l1.length c1,.int .i64 (rd l0 x10_1)] rfl (by (try simp only [mT,mC,mN]);first|done|rfl|(simp only [lD,lT];rfl)) ?_;(with_reducible refine (spec_l1Has.calls k1 _ _ l1 (rd l0 x10_1) true _ ?side1 ?side2 A6.out).mono ?_);(case side1=>repeat (first|exact (cB HR1.out HB.out)|(with_reducible first|refine cL ?_ _|refine cN ?_ _|refine cW ?_)));(case side2=>exact HC1.out);rintro e w' ⟨rfl,⟨nd,rfl⟩⟩;refine ⟨_,rfl,?_⟩)|((with_reducible refine gate_builtin (b:=.append) (xs:=#[.tmp 17,.tmp 19]) rfl ?_);at_builtin;refine Kd.R_append (Kd.int .i64) (w0:=w) w.heap.size rfl (.tmp 17) (.tmp 19) 23 3 (.int .i64 0) 8 rfl Try.underlying23 info3 rfl (by decide) (by omega) u5 x5_1 (rd l0 x10_1) [.int .i64 (rd l0 x10_1)] (fun _=>True) (fun _=>False) rfl rfl ?aP (fun _ hk=>hk.elim) ?aF ?aO ?aB ?aS ?aL ?_;(case aP=>exact rfl);(case aB=>exact (by repeat (with_reducible first|exact HB.out|apply qA|apply qD|apply qO)));(case aF=>exact (fun _ _=>trivial));(case aO=>exact (by (with_reducible repeat (first|apply rL|apply rN|apply rW));exact HO_5.out));(case aS=>exact (qZ (by repeat (with_reducible first|exact HB.out|apply qA|apply qD|apply qO))));(case aL=>have:=LMc8.out;omega);intro v192 w9 ho hb hg hat;rw [← Ny191.out] at ho;have n0_:=qK (hb);have n1_:=qK (ho);clear HB;clear HO_5;have HB:=n0_;have HO193:=n1_;clear n0_ n1_;clear ho hb hg hat))
        go_roundg k1
        case measure=>have:=HK1.out;omega
        case rel=>exact ⟨(y191),(wrap64 (x10_1 + 1)),(by first|rfl|(simp;done)|(simp [*];done)),H',⟨by have:=HK1.out;omega⟩,⟨by (with_reducible repeat (first|apply rL|apply rN|apply rW));exact HO193.out⟩,⟨by repeat (first|(with_reducible first|exact HB.out|apply qA|apply qD|apply qO)|exact HB.out)⟩⟩
       ·rw [if_neg c8] at H;exact absurd H (by simp)
      ·replace c7:=Bool.eq_false_iff.mpr c7;subst c7;have H1:(spec_l8Within.l0 k1 l1 x5_1 l0 (l0.length:Int) (wrap64 (x10_1 + 1)))=some r:=by rw [if_neg (show ¬ (false=true) by decide)] at H;exact H
       clear H;have H:=H1;clear H1;have H':=qK H;clear H;have p189:0≤(x10_1:Int):=of_decide_eq_true (by first|(with_reducible assumption)|assumption);have q189:x10_1 < (l0.length:Int):=of_decide_eq_true (by first|(with_reducible assumption)|assumption);obtain ⟨ad189,e189,hx189_0⟩:=Kd.at_int HR0.out x10_1 p189 q189;cases e189
       replace hx189_0:=(HB.out.cell (World.block_lt_of_cell? w _ hx189_0)).trans hx189_0;replace p189:=eq_true p189;replace q189:=eq_true q189;go_wp2_with (first|((with_reducible refine gate_callee (f:=62) rfl ?_);refine goesL_ (some 16) rfl rfl Try.func62 (by kernel_rfl) rfl #[.slice A1 l1.length c1,.int .i64 (rd l0 x10_1)] rfl (by (try simp only [mT,mC,mN]);first|done|rfl|(simp only [lD,lT];rfl)) ?_;(with_reducible refine (spec_l1Has.calls k1 _ _ l1 (rd l0 x10_1) false _ ?side1 ?side2 A6.out).mono ?_);(case side1=>repeat (first|exact (cB HR1.out HB.out)|(with_reducible first|refine cL ?_ _|refine cN ?_ _|refine cW ?_)));(case side2=>exact HC1.out);rintro e w' ⟨rfl,⟨nd,rfl⟩⟩;refine ⟨_,rfl,?_⟩))
       go_roundg k1
       case measure=>have:=HK1.out;omega
       case rel=>exact ⟨(x5_1),(wrap64 (x10_1 + 1)),(by first|rfl|(simp;done)|(simp [*];done)),H',⟨by have:=HK1.out;omega⟩,⟨by (with_reducible repeat (first|apply rL|apply rN|apply rW));exact HO_5.out⟩,⟨by repeat (first|(with_reducible first|exact HB.out|apply qA|apply qD|apply qO)|exact HB.out)⟩⟩
     ·rw [if_neg c5] at H;exact absurd H (by simp)
    ·rw [if_neg c4] at H;exact absurd H (by simp)
   ·rw [if_neg c3] at H;have c3b0:decide (x10_1 < (l0.length:Int))=false:=decide_eq_false c3;clear c3;obtain rfl:=Option.some.inj H;go_wp2
    go_ret
    exact ⟨_,by first|rfl|(simp [errW_none,errW_some] <;> rfl)|(simp [*,errW_none,errW_some] <;> rfl),by (with_reducible repeat (first|apply rL|apply rN|apply rW));exact HO_5.out,by repeat (first|(with_reducible first|exact HB.out|apply qA|apply qD|apply qO)|exact HB.out)⟩

/-! ### spec_l8Splits: function 41 -/
def spec_l8Splits.f (k:Nat) (l0:List (S45)) (l1:List Int) (l2:List Int):Option (Bool):=(spec_l7Closure.f k l0 l2).bind fun t194=>((spec_l8Within.f k t194 l1).bind fun t197=>(if (t197.length:Int) > (l2.length:Int) then (some (decide ((t197.length:Int) < (l1.length:Int)))) else (some false)))
theorem spec_l8Splits.mono : ∀ a0 a1 a2 k,LeO (spec_l8Splits.f k a0 a1 a2) (spec_l8Splits.f (k + 1) a0 a1 a2):=by
 intro a0 a1 a2 k;unfold spec_l8Splits.f
 repeat' first
   | (with_reducible exact spec_l7Closure.mono _ _ _)
   | (with_reducible exact spec_l8Within.mono _ _ _)
   | (with_reducible exact LeO.refl _)
   | (with_reducible exact LeO.none _)
   | (with_reducible refine LeO.ite ?_ ?_)
   | (with_reducible refine LeO.bind ?_ (fun _=>?_))
   | exact spec_l7Closure.mono _ _ _
   | exact spec_l8Within.mono _ _ _
   | exact LeO.none _
   | refine LeO.ite ?_ ?_
   | refine LeO.bind ?_ (fun _=>?_)
set_option maxHeartbeats 8000000 in
set_option maxRecDepth 100000 in
theorem spec_l8Splits.calls (k:Nat) (A0:Option Addr) (c0:Nat) (l0:List (S45)) (A1:Option Addr) (c1:Nat) (l1:List Int) (A2:Option Addr) (c2:Nat) (l2:List Int) (r:Bool) (w:World) (hr0:Kd.C k45 w A0 l0.length l0) (hc0:l0.length≤c0) (hr1:Kd.C (Kd.int .i64) w A1 l1.length l1) (hc1:l1.length≤c1) (hr2:Kd.C (Kd.int .i64) w A2 l2.length l2) (hc2:l2.length≤c2) (h:spec_l8Splits.f k l0 l1 l2=some r) :
  Calls Try.prog 41 #[.slice A0 l0.length c0,.slice A1 l1.length c1,.slice A2 l2.length c2] w fun e w'=>e=.returned (.bool r)∧Below w.heap.size w w':=by
 have HR0:=qK hr0;have HC0:=qK hc0;clear hr0 hc0;have HR1:=qK hr1;have HC1:=qK hc1;clear hr1 hc1;have HR2:=qK hr2;have HC2:=qK hc2;clear hr2 hc2;have HB:=qK (Below.refl w.heap.size w);have H:((spec_l7Closure.f k l0 l2).bind fun t194=>((spec_l8Within.f k t194 l1).bind fun t197=>(if (t197.length:Int) > (l2.length:Int) then (some (decide ((t197.length:Int) < (l1.length:Int)))) else (some false))))=some r:=h;clear h;replace H:=Option.bind_eq_some_iff.mp H;obtain ⟨t194,A40,H⟩:=H;replace H:((spec_l8Within.f k t194 l1).bind fun t197=>(if (t197.length:Int) > (l2.length:Int) then (some (decide ((t197.length:Int) < (l1.length:Int)))) else (some false)))=some r:=H;have A4:=qK A40;clear A40;replace H:=Option.bind_eq_some_iff.mp H;obtain ⟨t197,A50,H⟩:=H;replace H:(if (t197.length:Int) > (l2.length:Int) then (some (decide ((t197.length:Int) < (l1.length:Int)))) else (some false))=some r:=H;have A5:=qK A50;clear A50;by_cases c6:(t197.length:Int) > (l2.length:Int)
 ·rw [if_pos c6] at H;have c6b0:decide ((l2.length:Int) < (t197.length:Int))=true:=decide_eq_true c6;have c6b1:decide (l2.length < t197.length)=true:=decide_eq_true (Int.ofNat_lt.mp c6);clear c6;obtain rfl:=Option.some.inj H;go_enter Try.func41,Try.ntmps41
  go_wp2_with (first|((with_reducible refine gate_callee (f:=52) rfl ?_);refine goesL_ (some 10) rfl rfl Try.func52 (by kernel_rfl) rfl #[.slice A0 l0.length c0,.slice A2 l2.length c2] rfl (by (try simp only [mT,mC,mN]);first|done|rfl|(simp only [lD,lT];rfl)) ?_;(with_reducible refine (spec_l7Closure.calls k _ _ l0 _ _ l2 t194 _ ?side1 ?side2 ?side3 ?side4 A4.out).mono ?_);(case side1=>repeat (first|exact HR0.out|(with_reducible first|refine cL ?_ _|refine cN ?_ _|refine cW ?_)));(case side2=>exact HC0.out);(case side3=>repeat (first|exact HR2.out|(with_reducible first|refine cL ?_ _|refine cN ?_ _|refine cW ?_)));(case side4=>exact HC2.out);rintro e w7 ⟨v195,rfl,ho0,hb⟩;refine ⟨_,rfl,?_⟩;have n0_:=qK (Kd.V_lower (Kd.V_mono (ok':=fun k_=>True) ho0 (fun k_ hk_=>trivial)) (qZ (by repeat (with_reducible first|exact HB.out|apply qA|apply qD|apply qO))));have n1_:=qK (qT (by repeat (with_reducible first|exact HB.out|apply qA|apply qD|apply qO)) hb);clear HB;have HO196:=n0_;have HB:=n1_;clear n0_ n1_;(try clear hb);(try clear ho0);obtain ⟨Ao8,co8,eo8⟩:=Kd.V_slice HO196.out;subst eo8)|((with_reducible refine gate_callee (f:=57) rfl ?_);refine goesL_ (some 12) rfl rfl Try.func57 (by kernel_rfl) rfl #[.slice Ao8 t194.length co8,.slice A1 l1.length c1] rfl (by (try simp only [mT,mC,mN]);first|done|rfl|(simp only [lD,lT];rfl)) ?_;(with_reducible refine (spec_l8Within.calls k _ _ t194 _ _ l1 t197 _ ?side1 ?side2 ?side3 ?side4 A5.out).mono ?_);(case side1=>repeat (first|exact (Kd.V_reads' HO196.out).2.2|(with_reducible first|refine cL ?_ _|refine cN ?_ _|refine cW ?_)));(case side2=>exact (Kd.V_reads' HO196.out).2.1);(case side3=>repeat (first|exact (cB HR1.out HB.out)|(with_reducible first|refine cL ?_ _|refine cN ?_ _|refine cW ?_)));(case side4=>exact HC1.out);rintro e w9 ⟨v198,rfl,ho0,hb⟩;refine ⟨_,rfl,?_⟩;have n0_:=qK (Kd.V_elder' (by (with_reducible repeat (first|apply Kd.V_alloc|apply Kd.V_drewN|apply Kd.V_drew));exact HO196.out) (Kd.R_base ho0) hb);have n1_:=qK (Kd.R_lower ho0 (qZ (by repeat (with_reducible first|exact HB.out|apply qA|apply qD|apply qO))));have n2_:=qK (qT (by repeat (with_reducible first|exact HB.out|apply qA|apply qD|apply qO)) hb);clear HO196;clear HB;have HO196:=n0_;have HO199:=n1_;have HB:=n2_;clear n0_ n1_ n2_;(try clear hb);(try clear ho0);obtain ⟨Ao10,co10,eo10⟩:=Kd.R_slice HO199.out;subst eo10))
  go_ret
  exact ⟨by first|rfl|(simp [errW_none,errW_some] <;> rfl)|(simp [*,errW_none,errW_some] <;> rfl),by repeat (first|(with_reducible first|exact HB.out|apply qA|apply qD|apply qO)|exact HB.out)⟩
 ·rw [if_neg c6] at H;have c6b0:decide ((l2.length:Int) < (t197.length:Int))=false:=decide_eq_false c6;have c6b1:decide (l2.length < t197.length)=false:=decide_eq_false (fun h=>c6 (Int.ofNat_lt.mpr h));clear c6;obtain rfl:=Option.some.inj H;go_enter Try.func41,Try.ntmps41
  go_wp2_with (first|((with_reducible refine gate_callee (f:=52) rfl ?_);refine goesL_ (some 10) rfl rfl Try.func52 (by kernel_rfl) rfl #[.slice A0 l0.length c0,.slice A2 l2.length c2] rfl (by (try simp only [mT,mC,mN]);first|done|rfl|(simp only [lD,lT];rfl)) ?_;(with_reducible refine (spec_l7Closure.calls k _ _ l0 _ _ l2 t194 _ ?side1 ?side2 ?side3 ?side4 A4.out).mono ?_);(case side1=>repeat (first|exact HR0.out|(with_reducible first|refine cL ?_ _|refine cN ?_ _|refine cW ?_)));(case side2=>exact HC0.out);(case side3=>repeat (first|exact HR2.out|(with_reducible first|refine cL ?_ _|refine cN ?_ _|refine cW ?_)));(case side4=>exact HC2.out);rintro e w11 ⟨v195,rfl,ho0,hb⟩;refine ⟨_,rfl,?_⟩;have n0_:=qK (Kd.V_lower (Kd.V_mono (ok':=fun k_=>True) ho0 (fun k_ hk_=>trivial)) (qZ (by repeat (with_reducible first|exact HB.out|apply qA|apply qD|apply qO))));have n1_:=qK (qT (by repeat (with_reducible first|exact HB.out|apply qA|apply qD|apply qO)) hb);clear HB;have HO196:=n0_;have HB:=n1_;clear n0_ n1_;(try clear hb);(try clear ho0);obtain ⟨Ao12,co12,eo12⟩:=Kd.V_slice HO196.out;subst eo12)|((with_reducible refine gate_callee (f:=57) rfl ?_);refine goesL_ (some 12) rfl rfl Try.func57 (by kernel_rfl) rfl #[.slice Ao12 t194.length co12,.slice A1 l1.length c1] rfl (by (try simp only [mT,mC,mN]);first|done|rfl|(simp only [lD,lT];rfl)) ?_;(with_reducible refine (spec_l8Within.calls k _ _ t194 _ _ l1 t197 _ ?side1 ?side2 ?side3 ?side4 A5.out).mono ?_);(case side1=>repeat (first|exact (Kd.V_reads' HO196.out).2.2|(with_reducible first|refine cL ?_ _|refine cN ?_ _|refine cW ?_)));(case side2=>exact (Kd.V_reads' HO196.out).2.1);(case side3=>repeat (first|exact (cB HR1.out HB.out)|(with_reducible first|refine cL ?_ _|refine cN ?_ _|refine cW ?_)));(case side4=>exact HC1.out);rintro e w13 ⟨v198,rfl,ho0,hb⟩;refine ⟨_,rfl,?_⟩;have n0_:=qK (Kd.V_elder' (by (with_reducible repeat (first|apply Kd.V_alloc|apply Kd.V_drewN|apply Kd.V_drew));exact HO196.out) (Kd.R_base ho0) hb);have n1_:=qK (Kd.R_lower ho0 (qZ (by repeat (with_reducible first|exact HB.out|apply qA|apply qD|apply qO))));have n2_:=qK (qT (by repeat (with_reducible first|exact HB.out|apply qA|apply qD|apply qO)) hb);clear HO196;clear HB;have HO196:=n0_;have HO199:=n1_;have HB:=n2_;clear n0_ n1_ n2_;(try clear hb);(try clear ho0);obtain ⟨Ao14,co14,eo14⟩:=Kd.R_slice HO199.out;subst eo14))
  go_ret
  exact ⟨by first|rfl|(simp [errW_none,errW_some] <;> rfl)|(simp [*,errW_none,errW_some] <;> rfl),by repeat (first|(with_reducible first|exact HB.out|apply qA|apply qD|apply qO)|exact HB.out)⟩

/-! ### spec_l8Normal: function 20 -/
def spec_l8Normal.l0 : Nat→List (S45)→List Int→List (List Int)→Int→Int→Option (Bool)
 | 0,_,_,_,_,_=>none
 | k + 1,x0,x1,x8,x9,x10=>if x10 < x9 then (if 0≤x10 then (if x10 < (x8.length:Int) then ((spec_l8Splits.f k x0 x1 (rd_L1 x8 x10)).bind fun t204=>(if t204=true then (some false) else (spec_l8Normal.l0 k x0 x1 x8 x9 (wrap64 (x10 + 1))))) else (none)) else (none)) else (some true)
def spec_l8Normal.f (k:Nat) (l0:List (S45)) (l1:List Int):Option (Bool):=(spec_l8Lists.f k l1).bind fun t200=>(spec_l8Normal.l0 k l0 l1 t200 (t200.length:Int) 0)
theorem spec_l8Normal.mono_l : ∀ k,(∀ y0 y1 y2 y3 y4,LeO (spec_l8Normal.l0 k y0 y1 y2 y3 y4) (spec_l8Normal.l0 (k + 1) y0 y1 y2 y3 y4))
 | 0=>fun _ _ _ _ _ r h=>by simp [spec_l8Normal.l0] at h
 | k + 1=>by
  have ih0:=spec_l8Normal.mono_l k
  ·intro y0 y1 y2 y3 y4;unfold spec_l8Normal.l0
   repeat' first
   | (with_reducible exact ih0 _ _ _ _ _)
   | (with_reducible exact spec_l8Lists.mono _ _)
   | (with_reducible exact spec_l8Splits.mono _ _ _ _)
   | (with_reducible exact LeO.refl _)
   | (with_reducible exact LeO.none _)
   | (with_reducible refine LeO.ite ?_ ?_)
   | (with_reducible refine LeO.bind ?_ (fun _=>?_))
   | exact ih0 _ _ _ _ _
   | exact spec_l8Lists.mono _ _
   | exact spec_l8Splits.mono _ _ _ _
   | exact LeO.none _
   | refine LeO.ite ?_ ?_
   | refine LeO.bind ?_ (fun _=>?_)
theorem spec_l8Normal.mono : ∀ a0 a1 k,LeO (spec_l8Normal.f k a0 a1) (spec_l8Normal.f (k + 1) a0 a1):=by
 intro a0 a1 k;have ih0:=spec_l8Normal.mono_l k;unfold spec_l8Normal.f
 repeat' first
   | (with_reducible exact ih0 _ _ _ _ _)
   | (with_reducible exact spec_l8Lists.mono _ _)
   | (with_reducible exact spec_l8Splits.mono _ _ _ _)
   | (with_reducible exact LeO.refl _)
   | (with_reducible exact LeO.none _)
   | (with_reducible refine LeO.ite ?_ ?_)
   | (with_reducible refine LeO.bind ?_ (fun _=>?_))
   | exact ih0 _ _ _ _ _
   | exact spec_l8Lists.mono _ _
   | exact spec_l8Splits.mono _ _ _ _
   | exact LeO.none _
   | refine LeO.ite ?_ ?_
   | refine LeO.bind ?_ (fun _=>?_)
set_option maxHeartbeats 8000000 in
set_option maxRecDepth 100000 in
theorem spec_l8Normal.calls (k:Nat) (A0:Option Addr) (c0:Nat) (l0:List (S45)) (A1:Option Addr) (c1:Nat) (l1:List Int) (r:Bool) (w:World) (hr0:Kd.C k45 w A0 l0.length l0) (hc0:l0.length≤c0) (hr1:Kd.C (Kd.int .i64) w A1 l1.length l1) (hc1:l1.length≤c1) (h:spec_l8Normal.f k l0 l1=some r) :
  Calls Try.prog 20 #[.slice A0 l0.length c0,.slice A1 l1.length c1] w fun e w'=>e=.returned (.bool r)∧Below w.heap.size w w':=by
 have HR0:=qK hr0;have HC0:=qK hc0;clear hr0 hc0;have HR1:=qK hr1;have HC1:=qK hc1;clear hr1 hc1;have HB:=qK (Below.refl w.heap.size w);have H:((spec_l8Lists.f k l1).bind fun t200=>(spec_l8Normal.l0 k l0 l1 t200 (t200.length:Int) 0))=some r:=h;clear h;replace H:=Option.bind_eq_some_iff.mp H;obtain ⟨t200,A30,H⟩:=H;replace H:(spec_l8Normal.l0 k l0 l1 t200 (t200.length:Int) 0)=some r:=H;have A3:=qK A30;clear A30;have H':=qK H;clear H;go_enter Try.func20,Try.ntmps20
 go_wp2_with (first|((with_reducible refine gate_callee (f:=40) rfl ?_);refine goesL_ (some 8) rfl rfl Try.func40 (by kernel_rfl) rfl #[.slice A1 l1.length c1] rfl (by (try simp only [mT,mC,mN]);first|done|rfl|(simp only [lD,lT];rfl)) ?_;(with_reducible refine (spec_l8Lists.calls k _ _ l1 t200 _ ?side1 ?side2 A3.out).mono ?_);(case side1=>repeat (first|exact HR1.out|(with_reducible first|refine cL ?_ _|refine cN ?_ _|refine cW ?_)));(case side2=>exact HC1.out);rintro e w4 ⟨v201,rfl,ho0,hb⟩;refine ⟨_,rfl,?_⟩;have n0_:=qK (Kd.S_lower ho0 (qZ (by repeat (with_reducible first|exact HB.out|apply qA|apply qD|apply qO))));have n1_:=qK (qT (by repeat (with_reducible first|exact HB.out|apply qA|apply qD|apply qO)) hb);clear HB;have HO202:=n0_;have HB:=n1_;clear n0_ n1_;(try clear hb);(try clear ho0);obtain ⟨Ao5,co5,eo5⟩:=Kd.S_slice HO202.out;subst eo5))
 go_loopg [10] k (fun kq v10 w'=>∃ (x10_1:Int),v10=.int .i64 x10_1∧Aside0 (spec_l8Normal.l0 kq l0 l1 t200 (t200.length:Int) x10_1=some r)∧Aside0 (kq≤k)∧Aside0 (Kd.S (Kd.slice 3 (Kd.int .i64)) 23 w' w.heap.size (fun _=>True) (.slice Ao5 t200.length co5) t200)∧Aside0 (Below w.heap.size w w'))
 case atStart=>exact ⟨(0),(by first|rfl|(simp;done)|(simp [*];done)),H',⟨Nat.le_refl _⟩,⟨by (with_reducible repeat (first|apply Kd.S_alloc|apply Kd.S_drewN|apply Kd.S_drew));exact HO202.out⟩,⟨by repeat (first|(with_reducible first|exact HB.out|apply qA|apply qD|apply qO)|exact HB.out)⟩⟩
 case round =>
  clear H';try clear c1
  try clear c2
  try clear p2
  try clear c4
  obtain ⟨x10_1,rfl,HA,HK1,HO_8,HB⟩:=hrel;cases gk with
  | zero=>exact absurd HA.out (by simp [spec_l8Normal.l0])
  | succ k1 =>
   have H:=HA.out;clear HA;simp only [spec_l8Normal.l0] at H;by_cases c6:x10_1 < (t200.length:Int)
   ·rw [if_pos c6] at H;have c6b0:decide (x10_1 < (t200.length:Int))=true:=decide_eq_true c6;clear c6;by_cases c7:0≤x10_1
    ·rw [if_pos c7] at H;have c7b0:decide (0≤x10_1)=true:=decide_eq_true c7;clear c7;by_cases c8:x10_1 < (t200.length:Int)
     ·rw [if_pos c8] at H;have c8b0:decide (x10_1 < (t200.length:Int))=true:=decide_eq_true c8;clear c8;replace H:=Option.bind_eq_some_iff.mp H;obtain ⟨t204,A90,H⟩:=H;replace H:(if t204=true then (some false) else (spec_l8Normal.l0 k1 l0 l1 t200 (t200.length:Int) (wrap64 (x10_1 + 1))))=some r:=H;have A9:=qK A90;clear A90;by_cases c10:t204=true
      ·subst c10;have H1:(some false)=some r:=by rw [if_pos rfl] at H;exact H
       clear H;have H:=H1;clear H1;obtain rfl:=Option.some.inj H;have p203:0≤(x10_1:Int):=of_decide_eq_true (by first|(with_reducible assumption)|assumption);have q203:x10_1 < (t200.length:Int):=of_decide_eq_true (by first|(with_reducible assumption)|assumption);obtain ⟨ad203,A203_0,c203_0,e203,hx203_0,hl203_0,hi203_0⟩:=at_L1 (Kd.S_reads' HO_8.out).2.2 x10_1 p203 q203;cases e203
       obtain ⟨ce203,hce203,hMe203,hcc203⟩:=Kd.S_get HO_8.out [] x10_1 p203 (by first|exact q203|exact of_decide_eq_true (by first|(with_reducible assumption)|assumption)|(have e_:=(Kd.S_reads' HO_8.out).1;omega));obtain ⟨ve203_0,rfl,ge203_0⟩:=hMe203;have hv203_0:=hcc203 0 _ rfl;rw [Nat.add_zero,show ((Kd.slice 3 (Kd.int .i64))).sz=1 from rfl,Nat.mul_one] at hv203_0;replace hv203_0:=Option.some.inj (hv203_0.symm.trans hx203_0);rw [hv203_0] at ge203_0;have HL203_0:=qK (show Kd.R (Kd.int .i64) 3 _ _ _ _ (rd_L1 t200 x10_1) from ge203_0);clear hv203_0 ge203_0;clear hcc203 hce203;have HR203_0:=qK hi203_0;have HC203_0:=qK hl203_0;clear hi203_0 hl203_0;replace p203:=eq_true p203;replace q203:=eq_true q203;go_wp2_with (first|((with_reducible refine gate_callee (f:=41) rfl ?_);refine goesL_ (some 17) rfl rfl Try.func41 (by kernel_rfl) rfl #[.slice A0 l0.length c0,.slice A1 l1.length c1,.slice A203_0 (rd_L1 t200 x10_1).length c203_0] rfl (by (try simp only [mT,mC,mN]);first|done|rfl|(simp only [lD,lT];rfl)) ?_;(with_reducible refine (spec_l8Splits.calls k1 _ _ l0 _ _ l1 _ _ (rd_L1 t200 x10_1) true _ ?side1 ?side2 ?side3 ?side4 ?side5 ?side6 A9.out).mono ?_);(case side1=>repeat (first|exact (cB HR0.out HB.out)|(with_reducible first|refine cL ?_ _|refine cN ?_ _|refine cW ?_)));(case side2=>exact HC0.out);(case side3=>repeat (first|exact (cB HR1.out HB.out)|(with_reducible first|refine cL ?_ _|refine cN ?_ _|refine cW ?_)));(case side4=>exact HC1.out);(case side5=>repeat (first|exact (by repeat (first|(with_reducible exact HR203_0.out)|(with_reducible first|refine cL ?_ _|refine cN ?_ _|refine cW ?_)|exact HR203_0.out))|(with_reducible first|refine cL ?_ _|refine cN ?_ _|refine cW ?_)));(case side6=>exact HC203_0.out);rintro e w11 ⟨rfl,hb⟩;refine ⟨_,rfl,?_⟩;have n0_:=qK (Kd.S_below (by (with_reducible repeat (first|apply Kd.S_alloc|apply Kd.S_drewN|apply Kd.S_drew));exact HO_8.out) hb);have n1_:=qK (rB (by (with_reducible repeat (first|apply rL|apply rN|apply rW));exact HL203_0.out) hb);have n2_:=qK (cB (by repeat (first|(with_reducible exact HR203_0.out)|(with_reducible first|refine cL ?_ _|refine cN ?_ _|refine cW ?_)|exact HR203_0.out)) hb);have n3_:=qK (qT (by repeat (with_reducible first|exact HB.out|apply qA|apply qD|apply qO)) hb);clear HO_8;clear HL203_0;clear HR203_0;clear HB;have HO_8:=n0_;have HL203_0:=n1_;have HR203_0:=n2_;have HB:=n3_;clear n0_ n1_ n2_ n3_;(try clear hb)))
       go_ret
       exact ⟨by first|rfl|(simp [errW_none,errW_some] <;> rfl)|(simp [*,errW_none,errW_some] <;> rfl),by repeat (first|(with_reducible first|exact HB.out|apply qA|apply qD|apply qO)|exact HB.out)⟩
      ·replace c10:=Bool.eq_false_iff.mpr c10;subst c10;have H1:(spec_l8Normal.l0 k1 l0 l1 t200 (t200.length:Int) (wrap64 (x10_1 + 1)))=some r:=by rw [if_neg (show ¬ (false=true) by decide)] at H;exact H
       clear H;have H:=H1;clear H1;have H':=qK H;clear H;have p203:0≤(x10_1:Int):=of_decide_eq_true (by first|(with_reducible assumption)|assumption);have q203:x10_1 < (t200.length:Int):=of_decide_eq_true (by first|(with_reducible assumption)|assumption);obtain ⟨ad203,A203_0,c203_0,e203,hx203_0,hl203_0,hi203_0⟩:=at_L1 (Kd.S_reads' HO_8.out).2.2 x10_1 p203 q203;cases e203
       obtain ⟨ce203,hce203,hMe203,hcc203⟩:=Kd.S_get HO_8.out [] x10_1 p203 (by first|exact q203|exact of_decide_eq_true (by first|(with_reducible assumption)|assumption)|(have e_:=(Kd.S_reads' HO_8.out).1;omega));obtain ⟨ve203_0,rfl,ge203_0⟩:=hMe203;have hv203_0:=hcc203 0 _ rfl;rw [Nat.add_zero,show ((Kd.slice 3 (Kd.int .i64))).sz=1 from rfl,Nat.mul_one] at hv203_0;replace hv203_0:=Option.some.inj (hv203_0.symm.trans hx203_0);rw [hv203_0] at ge203_0;have HL203_0:=qK (show Kd.R (Kd.int .i64) 3 _ _ _ _ (rd_L1 t200 x10_1) from ge203_0);clear hv203_0 ge203_0;clear hcc203 hce203;have HR203_0:=qK hi203_0;have HC203_0:=qK hl203_0;clear hi203_0 hl203_0;replace p203:=eq_true p203;replace q203:=eq_true q203;go_wp2_with (first|((with_reducible refine gate_callee (f:=41) rfl ?_);refine goesL_ (some 17) rfl rfl Try.func41 (by kernel_rfl) rfl #[.slice A0 l0.length c0,.slice A1 l1.length c1,.slice A203_0 (rd_L1 t200 x10_1).length c203_0] rfl (by (try simp only [mT,mC,mN]);first|done|rfl|(simp only [lD,lT];rfl)) ?_;(with_reducible refine (spec_l8Splits.calls k1 _ _ l0 _ _ l1 _ _ (rd_L1 t200 x10_1) false _ ?side1 ?side2 ?side3 ?side4 ?side5 ?side6 A9.out).mono ?_);(case side1=>repeat (first|exact (cB HR0.out HB.out)|(with_reducible first|refine cL ?_ _|refine cN ?_ _|refine cW ?_)));(case side2=>exact HC0.out);(case side3=>repeat (first|exact (cB HR1.out HB.out)|(with_reducible first|refine cL ?_ _|refine cN ?_ _|refine cW ?_)));(case side4=>exact HC1.out);(case side5=>repeat (first|exact (by repeat (first|(with_reducible exact HR203_0.out)|(with_reducible first|refine cL ?_ _|refine cN ?_ _|refine cW ?_)|exact HR203_0.out))|(with_reducible first|refine cL ?_ _|refine cN ?_ _|refine cW ?_)));(case side6=>exact HC203_0.out);rintro e w12 ⟨rfl,hb⟩;refine ⟨_,rfl,?_⟩;have n0_:=qK (Kd.S_below (by (with_reducible repeat (first|apply Kd.S_alloc|apply Kd.S_drewN|apply Kd.S_drew));exact HO_8.out) hb);have n1_:=qK (rB (by (with_reducible repeat (first|apply rL|apply rN|apply rW));exact HL203_0.out) hb);have n2_:=qK (cB (by repeat (first|(with_reducible exact HR203_0.out)|(with_reducible first|refine cL ?_ _|refine cN ?_ _|refine cW ?_)|exact HR203_0.out)) hb);have n3_:=qK (qT (by repeat (with_reducible first|exact HB.out|apply qA|apply qD|apply qO)) hb);clear HO_8;clear HL203_0;clear HR203_0;clear HB;have HO_8:=n0_;have HL203_0:=n1_;have HR203_0:=n2_;have HB:=n3_;clear n0_ n1_ n2_ n3_;(try clear hb)))
       go_roundg k1
       case measure=>have:=HK1.out;omega
       case rel=>exact ⟨(wrap64 (x10_1 + 1)),(by first|rfl|(simp;done)|(simp [*];done)),H',⟨by have:=HK1.out;omega⟩,⟨by (with_reducible repeat (first|apply Kd.S_alloc|apply Kd.S_drewN|apply Kd.S_drew));exact HO_8.out⟩,⟨by repeat (first|(with_reducible first|exact HB.out|apply qA|apply qD|apply qO)|exact HB.out)⟩⟩
     ·rw [if_neg c8] at H;exact absurd H (by simp)
    ·rw [if_neg c7] at H;exact absurd H (by simp)
   ·rw [if_neg c6] at H;have c6b0:decide (x10_1 < (t200.length:Int))=false:=decide_eq_false c6;clear c6;obtain rfl:=Option.some.inj H;go_wp2
    go_ret
    exact ⟨by first|rfl|(simp [errW_none,errW_some] <;> rfl)|(simp [*,errW_none,errW_some] <;> rfl),by repeat (first|(with_reducible first|exact HB.out|apply qA|apply qD|apply qO)|exact HB.out)⟩

/-! ### spec_IsNormal: function 6 -/
def spec_IsNormal.f (k:Nat) (l0:List (S45)) (a1:Int) (l2:List Int):Option (Bool × Bool):=(spec_l8Part.f k l0 a1 l2).bind fun t205=>(if t205=true then ((spec_l8Normal.f k l0 l2).bind fun t206=>(some (t206,true))) else (some (false,false)))
theorem spec_IsNormal.mono : ∀ a0 a1 a2 k,LeO (spec_IsNormal.f k a0 a1 a2) (spec_IsNormal.f (k + 1) a0 a1 a2):=by
 intro a0 a1 a2 k;unfold spec_IsNormal.f
 repeat' first
   | (with_reducible exact spec_l8Normal.mono _ _ _)
   | (with_reducible exact spec_l8Part.mono _ _ _ _)
   | (with_reducible exact LeO.refl _)
   | (with_reducible exact LeO.none _)
   | (with_reducible refine LeO.ite ?_ ?_)
   | (with_reducible refine LeO.bind ?_ (fun _=>?_))
   | exact spec_l8Normal.mono _ _ _
   | exact spec_l8Part.mono _ _ _ _
   | exact LeO.none _
   | refine LeO.ite ?_ ?_
   | refine LeO.bind ?_ (fun _=>?_)
set_option maxHeartbeats 8000000 in
set_option maxRecDepth 100000 in
theorem spec_IsNormal.calls (k:Nat) (A0:Option Addr) (c0:Nat) (l0:List (S45)) (a1:Int) (A2:Option Addr) (c2:Nat) (l2:List Int) (r1:Bool) (r2:Bool) (w:World) (hr0:Kd.C k45 w A0 l0.length l0) (hc0:l0.length≤c0) (hr2:Kd.C (Kd.int .i64) w A2 l2.length l2) (hc2:l2.length≤c2) (h:spec_IsNormal.f k l0 a1 l2=some (r1,r2)) :
  Calls Try.prog 6 #[.slice A0 l0.length c0,.int .i64 a1,.slice A2 l2.length c2] w fun e w'=>e=.returned (.tuple #[.bool r1,.bool r2])∧Below w.heap.size w w':=by
 have HR0:=qK hr0;have HC0:=qK hc0;clear hr0 hc0;have HR2:=qK hr2;have HC2:=qK hc2;clear hr2 hc2;have HB:=qK (Below.refl w.heap.size w);have H:((spec_l8Part.f k l0 a1 l2).bind fun t205=>(if t205=true then ((spec_l8Normal.f k l0 l2).bind fun t206=>(some (t206,true))) else (some (false,false))))=some (r1,r2):=h;clear h;replace H:=Option.bind_eq_some_iff.mp H;obtain ⟨t205,A40,H⟩:=H;replace H:(if t205=true then ((spec_l8Normal.f k l0 l2).bind fun t206=>(some (t206,true))) else (some (false,false)))=some (r1,r2):=H;have A4:=qK A40;clear A40;by_cases c5:t205=true
 ·subst c5;have H1:((spec_l8Normal.f k l0 l2).bind fun t206=>(some (t206,true)))=some (r1,r2):=by rw [if_pos rfl] at H;exact H
  clear H;have H:=H1;clear H1;replace H:=Option.bind_eq_some_iff.mp H;obtain ⟨t206,A60,H⟩:=H;replace H:(some (t206,true))=some (r1,r2):=H;have A6:=qK A60;clear A60;simp only [Option.some.injEq,Prod.mk.injEq] at H;obtain ⟨rfl,rfl⟩:=H;go_enter Try.func6,Try.ntmps6
  go_wp2_with (first|((with_reducible refine gate_callee (f:=19) rfl ?_);refine goesL_ (some 11) rfl rfl Try.func19 (by kernel_rfl) rfl #[.slice A0 l0.length c0,.int .i64 a1,.slice A2 l2.length c2] rfl (by (try simp only [mT,mC,mN]);first|done|rfl|(simp only [lD,lT];rfl)) ?_;(with_reducible refine (spec_l8Part.calls k _ _ l0 a1 _ _ l2 true _ ?side1 ?side2 ?side3 ?side4 A4.out).mono ?_);(case side1=>repeat (first|exact HR0.out|(with_reducible first|refine cL ?_ _|refine cN ?_ _|refine cW ?_)));(case side2=>exact HC0.out);(case side3=>repeat (first|exact HR2.out|(with_reducible first|refine cL ?_ _|refine cN ?_ _|refine cW ?_)));(case side4=>exact HC2.out);rintro e w7 ⟨rfl,hb⟩;refine ⟨_,rfl,?_⟩;have n0_:=qK (qT (by repeat (with_reducible first|exact HB.out|apply qA|apply qD|apply qO)) hb);clear HB;have HB:=n0_;clear n0_;(try clear hb))|((with_reducible refine gate_callee (f:=20) rfl ?_);refine goesL_ (some 15) rfl rfl Try.func20 (by kernel_rfl) rfl #[.slice A0 l0.length c0,.slice A2 l2.length c2] rfl (by (try simp only [mT,mC,mN]);first|done|rfl|(simp only [lD,lT];rfl)) ?_;(with_reducible refine (spec_l8Normal.calls k _ _ l0 _ _ l2 t206 _ ?side1 ?side2 ?side3 ?side4 A6.out).mono ?_);(case side1=>repeat (first|exact (cB HR0.out HB.out)|(with_reducible first|refine cL ?_ _|refine cN ?_ _|refine cW ?_)));(case side2=>exact HC0.out);(case side3=>repeat (first|exact (cB HR2.out HB.out)|(with_reducible first|refine cL ?_ _|refine cN ?_ _|refine cW ?_)));(case side4=>exact HC2.out);rintro e w8 ⟨rfl,hb⟩;refine ⟨_,rfl,?_⟩;have n0_:=qK (qT (by repeat (with_reducible first|exact HB.out|apply qA|apply qD|apply qO)) hb);clear HB;have HB:=n0_;clear n0_;(try clear hb)))
  go_ret2
  exact ⟨by first|rfl|(simp [errW_none,errW_some] <;> rfl)|(simp [*,errW_none,errW_some] <;> rfl),by repeat (first|(with_reducible first|exact HB.out|apply qA|apply qD|apply qO)|exact HB.out)⟩
 ·replace c5:=Bool.eq_false_iff.mpr c5;subst c5;have H1:(some (false,false))=some (r1,r2):=by rw [if_neg (show ¬ (false=true) by decide)] at H;exact H
  clear H;have H:=H1;clear H1;simp only [Option.some.injEq,Prod.mk.injEq] at H;obtain ⟨rfl,rfl⟩:=H;go_enter Try.func6,Try.ntmps6
  go_wp2_with (first|((with_reducible refine gate_callee (f:=19) rfl ?_);refine goesL_ (some 11) rfl rfl Try.func19 (by kernel_rfl) rfl #[.slice A0 l0.length c0,.int .i64 a1,.slice A2 l2.length c2] rfl (by (try simp only [mT,mC,mN]);first|done|rfl|(simp only [lD,lT];rfl)) ?_;(with_reducible refine (spec_l8Part.calls k _ _ l0 a1 _ _ l2 false _ ?side1 ?side2 ?side3 ?side4 A4.out).mono ?_);(case side1=>repeat (first|exact HR0.out|(with_reducible first|refine cL ?_ _|refine cN ?_ _|refine cW ?_)));(case side2=>exact HC0.out);(case side3=>repeat (first|exact HR2.out|(with_reducible first|refine cL ?_ _|refine cN ?_ _|refine cW ?_)));(case side4=>exact HC2.out);rintro e w9 ⟨rfl,hb⟩;refine ⟨_,rfl,?_⟩;have n0_:=qK (qT (by repeat (with_reducible first|exact HB.out|apply qA|apply qD|apply qO)) hb);clear HB;have HB:=n0_;clear n0_;(try clear hb)))
  go_ret2
  exact ⟨by first|rfl|(simp [errW_none,errW_some] <;> rfl)|(simp [*,errW_none,errW_some] <;> rfl),by repeat (first|(with_reducible first|exact HB.out|apply qA|apply qD|apply qO)|exact HB.out)⟩

/-! ### laws_toIntS: function 8 -/
def laws_toIntS.l0 : Nat→List Int→List Int→Int→Option (List Int)
 | 0,_,_,_=>none
 | k + 1,x0,x3,x4=>if x4 < (x0.length:Int) then (if 0≤x4 then (if x4 < (x3.length:Int) then (laws_toIntS.l0 k x0 (x3.set (x4:Int).toNat (rd x0 x4)) (wrap64 (x4 + 1))) else (none)) else (none)) else (some x3)
def laws_toIntS.f (k:Nat) (l0:List Int):Option (List Int):=if 0≤(l0.length:Int) then (if ((l0.length:Int):Int).toNat≤35184372088832 then (laws_toIntS.l0 k l0 (List.replicate ((l0.length:Int):Int).toNat 0) 0) else (none)) else (none)
theorem laws_toIntS.mono_l : ∀ k,(∀ y0 y1 y2,LeO (laws_toIntS.l0 k y0 y1 y2) (laws_toIntS.l0 (k + 1) y0 y1 y2))
 | 0=>fun _ _ _ r h=>by simp [laws_toIntS.l0] at h
 | k + 1=>by
  have ih0:=laws_toIntS.mono_l k
  ·intro y0 y1 y2;unfold laws_toIntS.l0
   repeat' first
   | (with_reducible exact ih0 _ _ _)
   | (with_reducible exact LeO.refl _)
   | (with_reducible exact LeO.none _)
   | (with_reducible refine LeO.ite ?_ ?_)
   | (with_reducible refine LeO.bind ?_ (fun _=>?_))
   | exact ih0 _ _ _
   | exact LeO.none _
   | refine LeO.ite ?_ ?_
   | refine LeO.bind ?_ (fun _=>?_)
theorem laws_toIntS.mono : ∀ a0 k,LeO (laws_toIntS.f k a0) (laws_toIntS.f (k + 1) a0):=by
 intro a0 k;have ih0:=laws_toIntS.mono_l k;unfold laws_toIntS.f
 repeat' first
   | (with_reducible exact ih0 _ _ _)
   | (with_reducible exact LeO.refl _)
   | (with_reducible exact LeO.none _)
   | (with_reducible refine LeO.ite ?_ ?_)
   | (with_reducible refine LeO.bind ?_ (fun _=>?_))
   | exact ih0 _ _ _
   | exact LeO.none _
   | refine LeO.ite ?_ ?_
   | refine LeO.bind ?_ (fun _=>?_)
set_option maxHeartbeats 8000000 in
set_option maxRecDepth 100000 in
theorem laws_toIntS.calls (k:Nat) (A0:Option Addr) (c0:Nat) (l0:List Int) (r:List Int) (w:World) (hr0:Kd.C (Kd.int .i64) w A0 l0.length l0) (hc0:l0.length≤c0) (h:laws_toIntS.f k l0=some r) :
  Calls Try.prog 8 #[.slice A0 l0.length c0] w fun e w'=>∃ v0_:Value,e=.returned (v0_)∧Kd.R (Kd.int .i64) 3 w' w.heap.size (fun _=>True) v0_ r∧Below w.heap.size w w':=by
 have HR0:=qK hr0;have HC0:=qK hc0;clear hr0 hc0;have HB:=qK (Below.refl w.heap.size w);have H:(if 0≤(l0.length:Int) then (if ((l0.length:Int):Int).toNat≤35184372088832 then (laws_toIntS.l0 k l0 (List.replicate ((l0.length:Int):Int).toNat 0) 0) else (none)) else (none))=some r:=h;clear h;by_cases c2:0≤(l0.length:Int)
 ·rw [if_pos c2] at H;have c2b0:=eq_true c2;have c2b1:decide (0≤(l0.length:Int))=true:=decide_eq_true c2;clear c2;by_cases c3:((l0.length:Int):Int).toNat≤35184372088832
  ·rw [if_pos c3] at H;have c3b0:=eq_true c3;have c3b1:decide (((l0.length:Int):Int).toNat≤35184372088832)=true:=decide_eq_true c3;clear c3;obtain ⟨y207,hy207⟩:∃ y_:List Int,y_=(List.replicate ((l0.length:Int):Int).toNat 0):=⟨_,rfl⟩;replace H:(laws_toIntS.l0 k l0 y207 0)=some r:=by first|(rw [hy207];with_reducible exact H)|(have H2_:=(Option.bind_some _ _).symm.trans H;rw [hy207];with_reducible exact H2_)|(have H2_:=(Option.bind_some _ _).symm.trans H;with_reducible exact H2_)|with_reducible exact H|(rw [hy207];exact H)|exact H
   have Ny207:=qK hy207;clear hy207;have H':=qK H;clear H;go_enter Try.func8,Try.ntmps8
   go_wp2_with (first|((with_reducible refine gate_dst (N:=7) rfl ?_);refine Kd.R_make (Kd.int .i64) _ 3 rfl (N:=7) rfl 23 _ _ rfl (l0.length:Int) rfl rfl Try.underlying23 (.int .i64 0) 8 info3 rfl (by decide) (by omega) 0 (ok:=fun _=>True) (okp:=fun _=>True) rfl (fun _ hk=>hk) trivial (of_decide_eq_true (by first|(with_reducible assumption)|assumption)) (Nat.le_trans (Nat.mul_le_mul_right _ (of_decide_eq_true (by first|(with_reducible assumption)|assumption):(l0.length:Int).toNat≤35184372088832)) (by omega)) (Below.refl _ _) (Nat.le_refl _) ?_;intro v208 w4 ho5 hb hg_ hnew_;clear hg_ hnew_;(first|rw [← Ny207.out] at ho5|(simp only [Int.reduceToNat] at ho5;rw [← Ny207.out] at ho5));have n0_:=qK (Kd.R_lower ho5 (qZ (by repeat (with_reducible first|exact HB.out|apply qA|apply qD|apply qO))));have n1_:=qK (qT (by repeat (with_reducible first|exact HB.out|apply qA|apply qD|apply qO)) hb);clear HB;have HO209:=n0_;have HB:=n1_;clear n0_ n1_;clear hb ho5))
   go_loopg [4] k (fun kq v4 w'=>∃ (x3_1:List Int) (x4_1:Int),v4=.int .i64 x4_1∧Aside0 (laws_toIntS.l0 kq l0 x3_1 x4_1=some r)∧Aside0 (kq≤k)∧Aside0 (Kd.R (Kd.int .i64) 3 w' w.heap.size (fun _=>True) v208 x3_1)∧Aside0 (Below w.heap.size w w'))
   case atStart=>exact ⟨(y207),(0),(by first|rfl|(simp;done)|(simp [*];done)),H',⟨Nat.le_refl _⟩,⟨by (with_reducible repeat (first|apply rL|apply rN|apply rW));exact HO209.out⟩,⟨by repeat (first|(with_reducible first|exact HB.out|apply qA|apply qD|apply qO)|exact HB.out)⟩⟩
   case round =>
    clear H';try clear c2
    try clear c2b0
    try clear c2b1
    try clear p2
    try clear c3
    try clear c3b0
    try clear c3b1
    obtain ⟨x3_1,x4_1,rfl,HA,HK1,HO_3,HB⟩:=hrel;cases gk with
    | zero=>exact absurd HA.out (by simp [laws_toIntS.l0])
    | succ k1 =>
     have H:=HA.out;clear HA;simp only [laws_toIntS.l0] at H;by_cases c6:x4_1 < (l0.length:Int)
     ·rw [if_pos c6] at H;have c6b0:decide (x4_1 < (l0.length:Int))=true:=decide_eq_true c6;clear c6;by_cases c7:0≤x4_1
      ·rw [if_pos c7] at H;have c7b0:decide (0≤x4_1)=true:=decide_eq_true c7;clear c7;by_cases c8:x4_1 < (x3_1.length:Int)
       ·rw [if_pos c8] at H;have c8b0:decide (x4_1 < (x3_1.length:Int))=true:=decide_eq_true c8;clear c8;obtain ⟨y211,hy211⟩:∃ y_:List Int,y_=(x3_1.set (x4_1:Int).toNat (rd l0 x4_1)):=⟨_,rfl⟩;replace H:(laws_toIntS.l0 k1 l0 y211 (wrap64 (x4_1 + 1)))=some r:=by first|(rw [hy211];with_reducible exact H)|(have H2_:=(Option.bind_some _ _).symm.trans H;rw [hy211];with_reducible exact H2_)|(have H2_:=(Option.bind_some _ _).symm.trans H;with_reducible exact H2_)|with_reducible exact H|(rw [hy211];exact H)|exact H
        have Ny211:=qK hy211;clear hy211;have H':=qK H;clear H;have p210:0≤(x4_1:Int):=of_decide_eq_true (by first|(with_reducible assumption)|assumption);have q210:x4_1 < (l0.length:Int):=of_decide_eq_true (by first|(with_reducible assumption)|assumption);obtain ⟨ad210,e210,hx210_0⟩:=Kd.at_int HR0.out x4_1 p210 q210;cases e210
        replace hx210_0:=(HB.out.cell (World.block_lt_of_cell? w _ hx210_0)).trans hx210_0;replace p210:=eq_true p210;replace q210:=eq_true q210;have p9:0≤(x4_1:Int):=of_decide_eq_true (by first|(with_reducible assumption)|assumption);have q9:(x4_1:Int) < ((x3_1.length:Int):Int):=of_decide_eq_true (by first|(with_reducible assumption)|assumption);obtain ⟨go9,co9,eo9,gb9,gl9,cl9,HG9⟩:=Kd.R_form HO_3.out (by omega);(first|cases eo9|(injection eo9 with ea_ en_ ec_;(first|subst ea_|(injection ea_ with ea_;subst ea_));subst ec_;clear en_));have GB9:=qK gb9;have GG9:=qK HG9;clear gb9 gl9 HG9;obtain ⟨hx9_0,hf9_0⟩:=Kd.R_celln 0 HO_3.out (x4_1:Int) p9 q9;replace p9:=eq_true p9;replace q9:=eq_true q9;have HP10:=Kd.R_putg HO_3.out (x4_1:Int) (rd l0 x4_1);go_wp2_with (first|((with_reducible refine gate_store (t:=3) (p:=20) rfl ?_);refine store_event (t:=3) (p:=20) (v:=?vo_w11) (w1:=(wr.setCell ⟨go9,(x4_1:Int).toNat,none⟩ (.int .i64 (rd l0 x4_1)))) ?hg ?ho ?hn ?hr ?_;(case ho=>rfl);(case hg=>rfl);(case hn=>rfl);(case hr=>(go_simp;try rfl));intro w11 hw;have hg:wr.grownBy w11 (some go9):=(by rw [hw];exact HP10.2);have hp_:Kd.R (Kd.int .i64) 3 w11 w.heap.size (fun _=>True) (.slice (some ⟨go9,0,none⟩) x3_1.length co9) y211:=(by rw [hw,Ny211.out];exact HP10.1);clear HP10;have n0_:=qK (hp_);have n1_:=qK ((by rw [hw];exact qS (HB.out) GB9.out:Below w.heap.size w w11));clear HO_3;clear HB;have HO_3:=n0_;have HB:=n1_;clear n0_ n1_;clear hg hw hp_))
        go_roundg k1
        case measure=>have:=HK1.out;omega
        case rel=>exact ⟨(y211),(wrap64 (x4_1 + 1)),(by first|rfl|(simp;done)|(simp [*];done)),H',⟨by have:=HK1.out;omega⟩,⟨by (with_reducible repeat (first|apply rL|apply rN|apply rW));exact HO_3.out⟩,⟨by repeat (first|(with_reducible first|exact HB.out|apply qA|apply qD|apply qO)|exact HB.out)⟩⟩
       ·rw [if_neg c8] at H;exact absurd H (by simp)
      ·rw [if_neg c7] at H;exact absurd H (by simp)
     ·rw [if_neg c6] at H;have c6b0:decide (x4_1 < (l0.length:Int))=false:=decide_eq_false c6;clear c6;obtain rfl:=Option.some.inj H;go_wp2
      go_ret
      exact ⟨_,by first|rfl|(simp [errW_none,errW_some] <;> rfl)|(simp [*,errW_none,errW_some] <;> rfl),by (with_reducible repeat (first|apply rL|apply rN|apply rW));exact HO_3.out,by repeat (first|(with_reducible first|exact HB.out|apply qA|apply qD|apply qO)|exact HB.out)⟩
  ·rw [if_neg c3] at H;exact absurd H (by simp)
 ·rw [if_neg c2] at H;exact absurd H (by simp)

/-! ### laws_toDepend: function 21 -/
def laws_toDepend.f (k:Nat) (l0_0:List Int) (l0_1:List Int):Option (List Int × List Int):=(laws_toIntS.f k l0_0).bind fun t215=>((laws_toIntS.f k l0_1).bind fun t218=>(some (t215,t218)))
theorem laws_toDepend.mono : ∀ a0 a1 k,LeO (laws_toDepend.f k a0 a1) (laws_toDepend.f (k + 1) a0 a1):=by
 intro a0 a1 k;unfold laws_toDepend.f
 repeat' first
   | (with_reducible exact laws_toIntS.mono _ _)
   | (with_reducible exact LeO.refl _)
   | (with_reducible exact LeO.none _)
   | (with_reducible refine LeO.ite ?_ ?_)
   | (with_reducible refine LeO.bind ?_ (fun _=>?_))
   | exact laws_toIntS.mono _ _
   | exact LeO.none _
   | refine LeO.ite ?_ ?_
   | refine LeO.bind ?_ (fun _=>?_)
set_option maxHeartbeats 8000000 in
set_option maxRecDepth 100000 in
theorem laws_toDepend.calls (k:Nat) (A0_0:Option Addr) (c0_0:Nat) (l0_0:List Int) (A0_1:Option Addr) (c0_1:Nat) (l0_1:List Int) (r1:List Int) (r2:List Int) (w:World) (hr0_0:Kd.C (Kd.int .i64) w A0_0 l0_0.length l0_0) (hc0_0:l0_0.length≤c0_0) (hr0_1:Kd.C (Kd.int .i64) w A0_1 l0_1.length l0_1) (hc0_1:l0_1.length≤c0_1) (h:laws_toDepend.f k l0_0 l0_1=some (r1,r2)) :
  Calls Try.prog 21 #[.agg #[.slice A0_0 l0_0.length c0_0,.slice A0_1 l0_1.length c0_1]] w fun e w'=>∃ v0_ v1_:Value,e=.returned (.agg #[v0_,v1_])∧Kd.R (Kd.int .i64) 3 w' w.heap.size (fun k_=>some k_ ≠ (v1_:Value).ownBlock) v0_ r1∧Kd.R (Kd.int .i64) 3 w' w.heap.size (fun k_=>some k_ ≠ (v0_:Value).ownBlock) v1_ r2∧Below w.heap.size w w':=by
 have hu42:=Try.underlying42;have hu45:=Try.underlying45;have HR0_0:=qK hr0_0;have HC0_0:=qK hc0_0;clear hr0_0 hc0_0;have HR0_1:=qK hr0_1;have HC0_1:=qK hc0_1;clear hr0_1 hc0_1;have HB:=qK (Below.refl w.heap.size w);have H:((laws_toIntS.f k l0_0).bind fun t215=>((laws_toIntS.f k l0_1).bind fun t218=>(some (t215,t218))))=some (r1,r2):=h;clear h;replace H:=Option.bind_eq_some_iff.mp H;obtain ⟨t215,A20,H⟩:=H;replace H:((laws_toIntS.f k l0_1).bind fun t218=>(some (t215,t218)))=some (r1,r2):=H;have A2:=qK A20;clear A20;replace H:=Option.bind_eq_some_iff.mp H;obtain ⟨t218,A30,H⟩:=H;replace H:(some (t215,t218))=some (r1,r2):=H;have A3:=qK A30;clear A30;simp only [Option.some.injEq,Prod.mk.injEq] at H;obtain ⟨rfl,rfl⟩:=H;go_enter Try.func21,Try.ntmps21
 go_wp2_with (first|((with_reducible refine gate_dst (N:=1) rfl ?_);refine box_event ?hg (N:=1) ?hd (cs:=#[.slice A0_0 l0_0.length c0_0,.slice A0_1 l0_1.length c0_1]) (t:=42) ?hr ?_;(case hd=>rfl);(case hg=>rfl);(case hr=>(go_simp;try rfl));intro gb212 hg w4 hbox hb;have n0_:=qK (qT (by repeat (with_reducible first|exact HB.out|apply qA|apply qD|apply qO)) hb);have n1_:=qK (hbox);have n2_:=qK ((by rw [hg];exact (qZ (by repeat (with_reducible first|exact HB.out|apply qA|apply qD|apply qO))):w.heap.size≤gb212));have n3_:=qK ((by rw [hg];exact (qZ (by repeat (with_reducible first|exact HB.out|apply qA|apply qD|apply qO))):w.heap.size≤gb212));clear HB;have HB:=n0_;have BK212:=n1_;have GW212:=n2_;have GE212:=n3_;clear n0_ n1_ n2_ n3_;clear hb hbox hg)|((with_reducible refine gate_dst (N:=2) rfl ?_);refine box_event ?hg (N:=2) ?hd (cs:=#[.slice none 0 0,.slice none 0 0]) (t:=45) ?hr ?_;(case hd=>rfl);(case hg=>rfl);(case hr=>(go_simp;try rfl));intro gb213 hg w5 hbox hb;have n0_:=qK (qB (g:=gb212) (o:=_) (by (with_reducible repeat (first|refine qN ?_ _|refine qW ?_|refine qL ?_ _));exact BK212.out) hb);have n1_:=qK (qT (by repeat (with_reducible first|exact HB.out|apply qA|apply qD|apply qO|refine qS ?_ GE212.out)) hb);have n2_:=qK (hbox);have n3_:=qK ((by rw [hg];exact (qZ (by repeat (with_reducible first|exact HB.out|apply qA|apply qD|apply qO|refine qS ?_ GE212.out))):w.heap.size≤gb213));have n4_:=qK ((by rw [hg];exact (qZ (by repeat (with_reducible first|exact HB.out|apply qA|apply qD|apply qO|refine qS ?_ GE212.out))):w.heap.size≤gb213));have n5_:=qK ((by rw [hg];exact Nat.ne_of_lt (blk_lt (g:=gb212) (o:=_) (by (with_reducible repeat (first|refine qN ?_ _|refine qW ?_|refine qL ?_ _));exact BK212.out)):gb212 ≠ gb213));have n6_:=qK ((by rw [hg];exact Nat.ne_of_gt (blk_lt (g:=gb212) (o:=_) (by (with_reducible repeat (first|refine qN ?_ _|refine qW ?_|refine qL ?_ _));exact BK212.out)):gb213 ≠ gb212));clear BK212;clear HB;have BK212:=n0_;have HB:=n1_;have BK213:=n2_;have GW213:=n3_;have GE213:=n4_;have NB212_213:=n5_;have NB213_212:=n6_;clear n0_ n1_ n2_ n3_ n4_ n5_ n6_;clear hb hbox hg)|((with_reducible refine gate_dst (N:=3) rfl ?_);refine box_event ?hg (N:=3) ?hd (cs:=#[.slice none 0 0,.slice none 0 0]) (t:=45) ?hr ?_;(case hd=>rfl);(case hg=>rfl);(case hr=>(go_simp;try rfl));intro gb214 hg w6 hbox hb;have n0_:=qK (qB (g:=gb212) (o:=_) (by (with_reducible repeat (first|refine qN ?_ _|refine qW ?_|refine qL ?_ _));exact BK212.out) hb);have n1_:=qK (qB (g:=gb213) (o:=_) (by (with_reducible repeat (first|refine qN ?_ _|refine qW ?_|refine qL ?_ _));exact BK213.out) hb);have n2_:=qK (qT (by repeat (with_reducible first|exact HB.out|apply qA|apply qD|apply qO|refine qS ?_ GE212.out|refine qS ?_ GE213.out)) hb);have n3_:=qK (hbox);have n4_:=qK ((by rw [hg];exact (qZ (by repeat (with_reducible first|exact HB.out|apply qA|apply qD|apply qO|refine qS ?_ GE212.out|refine qS ?_ GE213.out))):w.heap.size≤gb214));have n5_:=qK ((by rw [hg];exact (qZ (by repeat (with_reducible first|exact HB.out|apply qA|apply qD|apply qO|refine qS ?_ GE212.out|refine qS ?_ GE213.out))):w.heap.size≤gb214));have n6_:=qK ((by rw [hg];exact Nat.ne_of_lt (blk_lt (g:=gb212) (o:=_) (by (with_reducible repeat (first|refine qN ?_ _|refine qW ?_|refine qL ?_ _));exact BK212.out)):gb212 ≠ gb214));have n7_:=qK ((by rw [hg];exact Nat.ne_of_gt (blk_lt (g:=gb212) (o:=_) (by (with_reducible repeat (first|refine qN ?_ _|refine qW ?_|refine qL ?_ _));exact BK212.out)):gb214 ≠ gb212));have n8_:=qK ((by rw [hg];exact Nat.ne_of_lt (blk_lt (g:=gb213) (o:=_) (by (with_reducible repeat (first|refine qN ?_ _|refine qW ?_|refine qL ?_ _));exact BK213.out)):gb213 ≠ gb214));have n9_:=qK ((by rw [hg];exact Nat.ne_of_gt (blk_lt (g:=gb213) (o:=_) (by (with_reducible repeat (first|refine qN ?_ _|refine qW ?_|refine qL ?_ _));exact BK213.out)):gb214 ≠ gb213));clear BK212;clear BK213;clear HB;have BK212:=n0_;have BK213:=n1_;have HB:=n2_;have BK214:=n3_;have GW214:=n4_;have GE214:=n5_;have NB212_214:=n6_;have NB214_212:=n7_;have NB213_214:=n8_;have NB214_213:=n9_;clear n0_ n1_ n2_ n3_ n4_ n5_ n6_ n7_ n8_ n9_;clear hb hbox hg;have hnb7:=NB212_213.out;have hnc7:=NB213_212.out;have hnb8:=NB212_214.out;have hnc8:=NB214_212.out;have hcz9_0:w6.cell? ⟨gb212,0,none⟩=some (.slice A0_0 l0_0.length c0_0):=(qC BK212.out 0).trans rfl;have hcz9_1:w6.cell? ⟨gb212,1,none⟩=some (.slice A0_1 l0_1.length c0_1):=(qC BK212.out 1).trans rfl;have hfz9_0:=qF BK212.out 0;have hfz9_1:=qF BK212.out 1)|((with_reducible refine gate_callee (f:=8) rfl ?_);refine goesL_ (some 6) rfl rfl Try.func8 (by kernel_rfl) rfl #[.slice A0_0 l0_0.length c0_0] rfl (by (try simp only [mT,mC,mN]);first|done|rfl|(simp only [lD,lT];rfl)) ?_;(with_reducible refine (laws_toIntS.calls k _ _ l0_0 t215 _ ?side1 ?side2 A2.out).mono ?_);(case side1=>repeat (first|exact (cB HR0_0.out HB.out)|(with_reducible first|refine cL ?_ _|refine cN ?_ _|refine cW ?_)));(case side2=>exact HC0_0.out);rintro e w10 ⟨v216,rfl,ho0,hb⟩;refine ⟨_,rfl,?_⟩;have n0_:=qK (Kd.R_lower ho0 (qZ (by repeat (with_reducible first|exact HB.out|apply qA|apply qD|apply qO|refine qS ?_ GE212.out|refine qS ?_ GE213.out|refine qS ?_ GE214.out))));have n1_:=qK (qB (g:=gb212) (o:=_) (by (with_reducible repeat (first|refine qN ?_ _|refine qW ?_|refine qL ?_ _));exact BK212.out) hb);have n2_:=qK (qB (g:=gb213) (o:=_) (by (with_reducible repeat (first|refine qN ?_ _|refine qW ?_|refine qL ?_ _));exact BK213.out) hb);have n3_:=qK (qB (g:=gb214) (o:=_) (by (with_reducible repeat (first|refine qN ?_ _|refine qW ?_|refine qL ?_ _));exact BK214.out) hb);have n4_:=qK (qT (by repeat (with_reducible first|exact HB.out|apply qA|apply qD|apply qO|refine qS ?_ GE212.out|refine qS ?_ GE213.out|refine qS ?_ GE214.out)) hb);clear BK212;clear BK213;clear BK214;clear HB;have HO217:=n0_;have BK212:=n1_;have BK213:=n2_;have BK214:=n3_;have HB:=n4_;clear n0_ n1_ n2_ n3_ n4_;(try clear hb);(try clear ho0);obtain ⟨Ao11,co11,eo11⟩:=Kd.R_slice HO217.out;subst eo11;have hnb12:=NB214_213.out;have hnc12:=NB213_214.out;have hcz13_0:w10.cell? ⟨gb214,0,none⟩=some (.slice none 0 0):=(qC BK214.out 0).trans rfl;have hcz13_1:w10.cell? ⟨gb214,1,none⟩=some (.slice none 0 0):=(qC BK214.out 1).trans rfl;have hfz13_0:=qF BK214.out 0;have hfz13_1:=qF BK214.out 1;have hcz14_0:w10.cell? ⟨gb212,0,none⟩=some (.slice A0_0 l0_0.length c0_0):=(qC BK212.out 0).trans rfl;have hcz14_1:w10.cell? ⟨gb212,1,none⟩=some (.slice A0_1 l0_1.length c0_1):=(qC BK212.out 1).trans rfl;have hfz14_0:=qF BK212.out 0;have hfz14_1:=qF BK212.out 1)|((with_reducible refine gate_callee (f:=8) rfl ?_);refine goesL_ (some 10) rfl rfl Try.func8 (by kernel_rfl) rfl #[.slice A0_1 l0_1.length c0_1] rfl (by (try simp only [mT,mC,mN]);first|done|rfl|(simp only [lD,lT];rfl)) ?_;(with_reducible refine (laws_toIntS.calls k _ _ l0_1 t218 _ ?side1 ?side2 A3.out).mono ?_);(case side1=>exact cB HR0_1.out (by repeat (with_reducible first|exact HB.out|apply qA|apply qD|apply qO|refine qS ?_ GE212.out|refine qS ?_ GE213.out|refine qS ?_ GE214.out)));(case side2=>exact HC0_1.out);rintro e w15 ⟨v219,rfl,ho0,hb⟩;refine ⟨_,rfl,?_⟩;have n0_:=qK (Kd.R_elder' (by (with_reducible repeat (first|apply rL|apply rN|apply rW));exact (Kd.R_mono (Kd.R_far (p:=⟨gb214,0,none⟩) (Kd.R_types HO217.out BK214.out (by decide)) (fun _ hk=>hk.2) (.slice Ao11 t215.length co11)) (fun _ h_=>h_.1))) (Kd.R_base ho0) hb);have n1_:=qK (Kd.R_lower (Kd.R_new' ho0 (Kd.R_lt (by (with_reducible repeat (first|apply rL|apply rN|apply rW));exact (Kd.R_mono (Kd.R_far (p:=⟨gb214,0,none⟩) (Kd.R_types HO217.out BK214.out (by decide)) (fun _ hk=>hk.2) (.slice Ao11 t215.length co11)) (fun _ h_=>h_.1))))) (qZ (by repeat (with_reducible first|exact HB.out|apply qA|apply qD|apply qO|refine qS ?_ GE212.out|refine qS ?_ GE213.out|refine qS ?_ GE214.out))));have n2_:=qK (qB (g:=gb212) (o:=.cells #[.slice A0_0 l0_0.length c0_0,.slice A0_1 l0_1.length c0_1] 42 (0,0)) (by (with_reducible repeat (first|refine qN ?_ _|refine qW ?_|refine qL ?_ _));refine qR ?_ NB212_214.out _;(with_reducible repeat (first|refine qN ?_ _|refine qW ?_|refine qL ?_ _));exact BK212.out) hb);have n3_:=qK (qB (g:=gb213) (o:=.cells #[.slice none 0 0,.slice none 0 0] 45 (0,0)) (by (with_reducible repeat (first|refine qN ?_ _|refine qW ?_|refine qL ?_ _));refine qR ?_ NB213_214.out _;(with_reducible repeat (first|refine qN ?_ _|refine qW ?_|refine qL ?_ _));exact BK213.out) hb);have n4_:=qK (qB (g:=gb214) (o:=.cells #[.slice Ao11 t215.length co11,.slice none 0 0] 45 (0,0)) (by (with_reducible repeat (first|refine qN ?_ _|refine qW ?_|refine qL ?_ _));refine qP (cs:=#[.slice none 0 0,.slice none 0 0]) ?_ 0 _ rfl;(with_reducible repeat (first|refine qN ?_ _|refine qW ?_|refine qL ?_ _));exact BK214.out) hb);have n5_:=qK (qT (by repeat (with_reducible first|exact HB.out|apply qA|apply qD|apply qO|refine qS ?_ GE212.out|refine qS ?_ GE213.out|refine qS ?_ GE214.out)) hb);clear HO217;clear BK212;clear BK213;clear BK214;clear HB;have HO217:=n0_;have HO220:=n1_;have BK212:=n2_;have BK213:=n3_;have BK214:=n4_;have HB:=n5_;clear n0_ n1_ n2_ n3_ n4_ n5_;(try clear hb);(try clear ho0);obtain ⟨Ao16,co16,eo16⟩:=Kd.R_slice HO220.out;subst eo16;have hcz17_0:w15.cell? ⟨gb214,0,none⟩=some (.slice Ao11 t215.length co11):=(qC BK214.out 0).trans rfl;have hcz17_1:w15.cell? ⟨gb214,1,none⟩=some (.slice none 0 0):=(qC BK214.out 1).trans rfl;have hfz17_0:=qF BK214.out 0;have hfz17_1:=qF BK214.out 1;have hcz18_0:w15.cell? ⟨gb213,0,none⟩=some (.slice none 0 0):=(qC BK213.out 0).trans rfl;have hcz18_1:w15.cell? ⟨gb213,1,none⟩=some (.slice none 0 0):=(qC BK213.out 1).trans rfl;have hfz18_0:=qF BK213.out 0;have hfz18_1:=qF BK213.out 1))
 refine bodyPost_ret (results_cell_row rfl _ _ gb213 45 #[.slice Ao11 t215.length co11,.slice Ao16 t218.length co16] (0,0) _ rfl (by (with_reducible repeat (first|refine qN ?_ _|refine qW ?_|refine qL ?_ _));refine qP (cs:=#[.slice Ao11 t215.length co11,.slice none 0 0]) ?_ 1 _ rfl;(with_reducible repeat (first|refine qN ?_ _|refine qW ?_|refine qL ?_ _));refine qP (cs:=#[.slice none 0 0,.slice none 0 0]) ?_ 0 _ rfl;(with_reducible repeat (first|refine qN ?_ _|refine qW ?_|refine qL ?_ _));refine qR ?_ NB213_214.out _;(with_reducible repeat (first|refine qN ?_ _|refine qW ?_|refine qL ?_ _));exact BK213.out) Try.underlying45 rfl (by kernel_rfl)) rfl ?_;exact ⟨_,_,by first|rfl|(simp [errW_none,errW_some] <;> rfl)|(simp [*,errW_none,errW_some] <;> rfl),by (with_reducible repeat (first|apply rL|apply rN|apply rW));exact Kd.R_mono (Kd.R_far (p:=⟨gb213,1,none⟩) (Kd.R_far (p:=⟨gb213,0,none⟩) (Kd.R_far (p:=⟨gb214,1,none⟩) (Kd.R_types (Kd.R_types HO217.out BK214.out (by decide)) BK213.out (by decide)) (fun _ hk=>hk.1.2) (.slice Ao16 t218.length co16)) (fun _ hk=>hk.2) (.slice Ao11 t215.length co11)) (fun _ hk=>hk.2) (.slice Ao16 t218.length co16)) (fun _ hk=>hk.1.1.2),by (with_reducible repeat (first|apply rL|apply rN|apply rW));exact Kd.R_mono (Kd.R_far (p:=⟨gb213,1,none⟩) (Kd.R_far (p:=⟨gb213,0,none⟩) (Kd.R_far (p:=⟨gb214,1,none⟩) (Kd.R_types (Kd.R_types HO220.out BK214.out (by decide)) BK213.out (by decide)) (fun _ hk=>hk.1.2) (.slice Ao16 t218.length co16)) (fun _ hk=>hk.2) (.slice Ao11 t215.length co11)) (fun _ hk=>hk.2) (.slice Ao16 t218.length co16)) (fun _ hk=>hk.1.1.2),by repeat (first|(with_reducible first|exact HB.out|apply qA|apply qD|apply qO|refine qS ?_ GE212.out|refine qS ?_ GE213.out|refine qS ?_ GE214.out)|exact HB.out)⟩

/-! ### laws_toDependS: function 7 -/
def laws_toDependS.l0 : Nat→List (S42)→List (S45)→Int→Option ((List (S45)))
 | 0,_,_,_=>none
 | k + 1,x0,x3,x4=>if x4 < (x0.length:Int) then (if 0≤x4 then ((laws_toDepend.f k ((rd_T42 x0 x4).f0) ((rd_T42 x0 x4).f1)).bind fun bt225=>(if x4 < (x3.length:Int) then (laws_toDependS.l0 k x0 (x3.set (x4:Int).toNat (⟨bt225.1,bt225.2⟩:S45)) (wrap64 (x4 + 1))) else (none))) else (none)) else (some x3)
def laws_toDependS.f (k:Nat) (l0:List (S42)):Option ((List (S45))):=if 0≤(l0.length:Int) then (if ((l0.length:Int):Int).toNat≤5864062014805 then (laws_toDependS.l0 k l0 (List.replicate ((l0.length:Int):Int).toNat z45) 0) else (none)) else (none)
theorem laws_toDependS.mono_l : ∀ k,(∀ y0 y1 y2,LeO (laws_toDependS.l0 k y0 y1 y2) (laws_toDependS.l0 (k + 1) y0 y1 y2))
 | 0=>fun _ _ _ r h=>by simp [laws_toDependS.l0] at h
 | k + 1=>by
  have ih0:=laws_toDependS.mono_l k
  ·intro y0 y1 y2;unfold laws_toDependS.l0
   repeat' first
   | (with_reducible exact ih0 _ _ _)
   | (with_reducible exact laws_toDepend.mono _ _ _)
   | (with_reducible exact LeO.refl _)
   | (with_reducible exact LeO.none _)
   | (with_reducible refine LeO.ite ?_ ?_)
   | (with_reducible refine LeO.bind ?_ (fun _=>?_))
   | exact ih0 _ _ _
   | exact laws_toDepend.mono _ _ _
   | exact LeO.none _
   | refine LeO.ite ?_ ?_
   | refine LeO.bind ?_ (fun _=>?_)
theorem laws_toDependS.mono : ∀ a0 k,LeO (laws_toDependS.f k a0) (laws_toDependS.f (k + 1) a0):=by
 intro a0 k;have ih0:=laws_toDependS.mono_l k;unfold laws_toDependS.f
 repeat' first
   | (with_reducible exact ih0 _ _ _)
   | (with_reducible exact laws_toDepend.mono _ _ _)
   | (with_reducible exact LeO.refl _)
   | (with_reducible exact LeO.none _)
   | (with_reducible refine LeO.ite ?_ ?_)
   | (with_reducible refine LeO.bind ?_ (fun _=>?_))
   | exact ih0 _ _ _
   | exact laws_toDepend.mono _ _ _
   | exact LeO.none _
   | refine LeO.ite ?_ ?_
   | refine LeO.bind ?_ (fun _=>?_)
set_option maxHeartbeats 8000000 in
set_option maxRecDepth 100000 in
theorem laws_toDependS.calls (k:Nat) (A0:Option Addr) (c0:Nat) (l0:List (S42)) (r:List (S45)) (w:World) (hr0:Kd.C k42 w A0 l0.length l0) (hc0:l0.length≤c0) (h:laws_toDependS.f k l0=some r) :
  Calls Try.prog 7 #[.slice A0 l0.length c0] w fun e w'=>∃ v0_:Value,e=.returned (v0_)∧Kd.S k45 45 w' w.heap.size (fun _=>True) v0_ r∧Below w.heap.size w w':=by
 have hu42:=Try.underlying42;have hu45:=Try.underlying45;have HR0:=qK hr0;have HC0:=qK hc0;clear hr0 hc0;have HB:=qK (Below.refl w.heap.size w);have H:(if 0≤(l0.length:Int) then (if ((l0.length:Int):Int).toNat≤5864062014805 then (laws_toDependS.l0 k l0 (List.replicate ((l0.length:Int):Int).toNat z45) 0) else (none)) else (none))=some r:=h;clear h;by_cases c2:0≤(l0.length:Int)
 ·rw [if_pos c2] at H;have c2b0:=eq_true c2;have c2b1:decide (0≤(l0.length:Int))=true:=decide_eq_true c2;clear c2;by_cases c3:((l0.length:Int):Int).toNat≤5864062014805
  ·rw [if_pos c3] at H;have c3b0:=eq_true c3;have c3b1:decide (((l0.length:Int):Int).toNat≤5864062014805)=true:=decide_eq_true c3;clear c3;obtain ⟨y221,hy221⟩:∃ y_:List (S45),y_=(List.replicate ((l0.length:Int):Int).toNat z45):=⟨_,rfl⟩;replace H:(laws_toDependS.l0 k l0 y221 0)=some r:=by first|(rw [hy221];with_reducible exact H)|(have H2_:=(Option.bind_some _ _).symm.trans H;rw [hy221];with_reducible exact H2_)|(have H2_:=(Option.bind_some _ _).symm.trans H;with_reducible exact H2_)|with_reducible exact H|(rw [hy221];exact H)|exact H
   have Ny221:=qK hy221;clear hy221;have H':=qK H;clear H;go_enter Try.func7,Try.ntmps7
   go_wp2_with (first|((with_reducible refine gate_dst (N:=7) rfl ?_);refine Kd.S_make k45 _ 45 rfl (N:=7) rfl 27 _ _ rfl (l0.length:Int) rfl rfl Try.underlying27 (.agg #[(.slice none 0 0),(.slice none 0 0)]) 48 info45 rfl (by decide) (by omega) z45 (ok:=fun _=>True) (okp:=fun _=>True) (k45_mkM _ _ _ z45 (Kd.R_nil _ _ _ _ _) (Kd.R_nil _ _ _ _ _)) (fun _ hk=>hk) trivial (of_decide_eq_true (by first|(with_reducible assumption)|assumption)) (Nat.le_trans (Nat.mul_le_mul_right _ (of_decide_eq_true (by first|(with_reducible assumption)|assumption):(l0.length:Int).toNat≤5864062014805)) (by omega)) (Below.refl _ _) (Nat.le_refl _) ?_;intro v222 w4 ho5 hb hg_ hnew_;clear hg_ hnew_;(first|rw [← Ny221.out] at ho5|(simp only [Int.reduceToNat] at ho5;rw [← Ny221.out] at ho5));have n0_:=qK (Kd.S_lower ho5 (qZ (by repeat (with_reducible first|exact HB.out|apply qA|apply qD|apply qO))));have n1_:=qK (qT (by repeat (with_reducible first|exact HB.out|apply qA|apply qD|apply qO)) hb);clear HB;have HO223:=n0_;have HB:=n1_;clear n0_ n1_;clear hb ho5))
   go_loopg [4] k (fun kq v4 w'=>∃ (x3_1:List (S45)) (x4_1:Int),v4=.int .i64 x4_1∧Aside0 (laws_toDependS.l0 kq l0 x3_1 x4_1=some r)∧Aside0 (kq≤k)∧Aside0 (Kd.S k45 45 w' w.heap.size (fun _=>True) v222 x3_1)∧Aside0 (Below w.heap.size w w'))
   case atStart=>exact ⟨(y221),(0),(by first|rfl|(simp;done)|(simp [*];done)),H',⟨Nat.le_refl _⟩,⟨by (with_reducible repeat (first|apply Kd.S_alloc|apply Kd.S_drewN|apply Kd.S_drew));exact HO223.out⟩,⟨by repeat (first|(with_reducible first|exact HB.out|apply qA|apply qD|apply qO)|exact HB.out)⟩⟩
   case round =>
    clear H';try clear c2
    try clear c2b0
    try clear c2b1
    try clear p2
    try clear c3
    try clear c3b0
    try clear c3b1
    obtain ⟨x3_1,x4_1,rfl,HA,HK1,HO_3,HB⟩:=hrel;cases gk with
    | zero=>exact absurd HA.out (by simp [laws_toDependS.l0])
    | succ k1 =>
     have H:=HA.out;clear HA;simp only [laws_toDependS.l0] at H;by_cases c6:x4_1 < (l0.length:Int)
     ·rw [if_pos c6] at H;have c6b0:decide (x4_1 < (l0.length:Int))=true:=decide_eq_true c6;clear c6;by_cases c7:0≤x4_1
      ·rw [if_pos c7] at H;have c7b0:decide (0≤x4_1)=true:=decide_eq_true c7;clear c7;replace H:=Option.bind_eq_some_iff.mp H;obtain ⟨⟨t225,t228⟩,A80,H⟩:=H;replace H:(if x4_1 < (x3_1.length:Int) then (laws_toDependS.l0 k1 l0 (x3_1.set (x4_1:Int).toNat (⟨t225,t228⟩:S45)) (wrap64 (x4_1 + 1))) else (none))=some r:=H;have A8:=qK A80;clear A80;by_cases c9:x4_1 < (x3_1.length:Int)
       ·rw [if_pos c9] at H;have c9b0:decide (x4_1 < (x3_1.length:Int))=true:=decide_eq_true c9;clear c9;obtain ⟨y231,hy231⟩:∃ y_:List (S45),y_=(x3_1.set (x4_1:Int).toNat (⟨t225,t228⟩:S45)):=⟨_,rfl⟩;replace H:(laws_toDependS.l0 k1 l0 y231 (wrap64 (x4_1 + 1)))=some r:=by first|(rw [hy231];with_reducible exact H)|(have H2_:=(Option.bind_some _ _).symm.trans H;rw [hy231];with_reducible exact H2_)|(have H2_:=(Option.bind_some _ _).symm.trans H;with_reducible exact H2_)|with_reducible exact H|(rw [hy231];exact H)|exact H
        have Ny231:=qK hy231;clear hy231;have H':=qK H;clear H;have p224:0≤(x4_1:Int):=of_decide_eq_true (by first|(with_reducible assumption)|assumption);have q224:x4_1 < (l0.length:Int):=of_decide_eq_true (by first|(with_reducible assumption)|assumption);obtain ⟨ad224,A224_0,c224_0,A224_1,c224_1,e224,hx224_0,hx224_1,hl224_0,hi224_0,hl224_1,hi224_1⟩:=at_T42 HR0.out x4_1 p224 q224;cases e224
        replace hx224_0:=(HB.out.cell (World.block_lt_of_cell? w _ hx224_0)).trans hx224_0;replace hx224_1:=(HB.out.cell (World.block_lt_of_cell? w _ hx224_1)).trans hx224_1;have HR224_0:=qK hi224_0;have HC224_0:=qK hl224_0;clear hi224_0 hl224_0;have HR224_1:=qK hi224_1;have HC224_1:=qK hl224_1;clear hi224_1 hl224_1;replace p224:=eq_true p224;replace q224:=eq_true q224;go_wp2_with (first|((with_reducible refine gate_callee (f:=21) rfl ?_);refine goesL_ (some 20) rfl rfl Try.func21 (by kernel_rfl) rfl #[.agg #[.slice A224_0 ((rd_T42 l0 x4_1).f0).length c224_0,.slice A224_1 ((rd_T42 l0 x4_1).f1).length c224_1]] rfl (by (try simp only [mT,mC,mN]);first|done|rfl|(simp only [lD,lT];rfl)) ?_;(with_reducible refine (laws_toDepend.calls k1 _ _ ((rd_T42 l0 x4_1).f0) _ _ ((rd_T42 l0 x4_1).f1) t225 t228 _ ?side1 ?side2 ?side3 ?side4 A8.out).mono ?_);(case side1=>repeat (first|exact (cB HR224_0.out HB.out)|(with_reducible first|refine cL ?_ _|refine cN ?_ _|refine cW ?_)));(case side2=>exact HC224_0.out);(case side3=>repeat (first|exact (cB HR224_1.out HB.out)|(with_reducible first|refine cL ?_ _|refine cN ?_ _|refine cW ?_)));(case side4=>exact HC224_1.out);rintro e w11 ⟨v226,v229,rfl,ho0,ho1,hb⟩;refine ⟨_,rfl,?_⟩;have n0_:=qK (Kd.S_mono (Kd.S_told (Kd.S_told (Kd.S_old (by (with_reducible repeat (first|apply Kd.S_alloc|apply Kd.S_drewN|apply Kd.S_drew));exact HO_3.out) hb) (Kd.R_base ho0)) (Kd.R_base ho1)) (fun _ h_=>h_.1));have n1_:=qK (Kd.R_lower ho0 (qZ (by repeat (with_reducible first|exact HB.out|apply qA|apply qD|apply qO))));have n2_:=qK (Kd.R_lower ho1 (qZ (by repeat (with_reducible first|exact HB.out|apply qA|apply qD|apply qO))));have n3_:=qK (qT (by repeat (with_reducible first|exact HB.out|apply qA|apply qD|apply qO)) hb);clear HO_3;clear HB;have HO_3:=n0_;have HO227:=n1_;have HO230:=n2_;have HB:=n3_;clear n0_ n1_ n2_ n3_;(try clear hb);(try clear ho0);(try clear ho1);obtain ⟨Av226_,cv226_,ev226_⟩:=Kd.R_slice HO227.out;subst ev226_;obtain ⟨Av229_,cv229_,ev229_⟩:=Kd.R_slice HO230.out;subst ev229_;have p10:0≤(x4_1:Int):=of_decide_eq_true (by first|(with_reducible assumption)|assumption);have q10:(x4_1:Int) < ((x3_1.length:Int):Int):=of_decide_eq_true (by first|(with_reducible assumption)|assumption);obtain ⟨go10,co10,eo10,gb10,gl10,cl10,HG10⟩:=Kd.S_form HO_3.out (by omega);(first|cases eo10|(injection eo10 with ea_ en_ ec_;(first|subst ea_|(injection ea_ with ea_;subst ea_));subst ec_;clear en_));have GB10:=qK gb10;have GG10:=qK HG10;clear gb10 gl10 HG10;obtain ⟨_,ce10,hcl10,hM10,hcc10,hfr10,_,_⟩:=Kd.S_elem HO_3.out z45 (x4_1:Int) p10 q10;obtain ⟨ve10_0,ve10_1,rfl,ge10_0,ge10_1⟩:=k45_openM hM10;have hx10_0:w11.cell? ⟨go10,(x4_1:Int).toNat * 2,none⟩=some (ve10_0):=hcc10 0 _ rfl;have hx10_1:w11.cell? ⟨go10,(x4_1:Int).toNat * 2 + 1,none⟩=some (ve10_1):=hcc10 1 _ rfl;have hf10_0:w11.frozen? ⟨go10,(x4_1:Int).toNat * 2,none⟩=false:=hfr10 0;have hf10_1:w11.frozen? ⟨go10,(x4_1:Int).toNat * 2 + 1,none⟩=false:=hfr10 1;clear hcl10 hcc10 hfr10 hM10;replace p10:=eq_true p10;replace q10:=eq_true q10;have n_:=qK (Kd.S_mono (ok':=(fun k_=>some k_ ≠ ((.slice Av226_ t225.length cv226_):Value).ownBlock∧some k_ ≠ ((.slice Av229_ t228.length cv229_):Value).ownBlock)) HO_3.out (fun k_ hk=>⟨hk.1.2,hk.2⟩));clear HO_3;have HO_3:=n_;clear n_;have HX12:=qK (show Kd.S k45 45 w11 w.heap.size (fun k_=>((fun _=>True)) k_∧¬ ((fun k_=>some k_=((.slice Av226_ t225.length cv226_):Value).ownBlock ∨ some k_=((.slice Av229_ t228.length cv229_):Value).ownBlock)) k_) (.slice (some ⟨go10,0,none⟩) x3_1.length co10) x3_1 from (by (with_reducible repeat (first|apply Kd.S_alloc|apply Kd.S_drewN|apply Kd.S_drew));exact Kd.S_mono HO_3.out (fun k_ hk=>⟨trivial,fun e_=>e_.elim (fun h_=>hk.1 h_) (fun h_=>hk.2 h_)⟩)));obtain ⟨oki12,ce12,hcl12,hM12,hcc12,hfr12,hoki12,hH12⟩:=Kd.S_elem HX12.out z45 (x4_1:Int) (of_decide_eq_true (by first|(with_reducible assumption)|assumption)) (by have h_:(x4_1:Int) < ((x3_1.length:Int):Int):=of_decide_eq_true (by first|(with_reducible assumption)|assumption);first|exact h_|(have e_:=(Kd.S_reads' HO_3.out).1;omega)|simpa using h_);obtain ⟨ve12_0,ve12_1,rfl,ge12_0,ge12_1⟩:=k45_openM hM12;have HP12:=Kd.S_seg hH12 (of_decide_eq_true (by first|(with_reducible assumption)|assumption)) (by have h_:(x4_1:Int) < ((x3_1.length:Int):Int):=of_decide_eq_true (by first|(with_reducible assumption)|assumption);first|exact h_|(have e_:=(Kd.S_reads' HO_3.out).1;omega)|simpa using h_) (seg:=[(.slice Av226_ t225.length cv226_),(.slice Av229_ t228.length cv229_)]) (j:=0) (show 2≤2 from by decide) (x':=(⟨t225,t228⟩:S45)) (k45_mkM _ _ _ (⟨t225,t228⟩:S45) (Kd.R_mono (Kd.R_tight rfl (Kd.R_mono (ok':=fun k_=>((fun _=>True)) k_∧k_ ≠ go10) (Kd.R_apart' (HO227.out) (Kd.S_typed HO_3.out) (by decide)) (fun k_ hk=>⟨trivial,fun e_=>(hk.2) (by rw [e_];rfl)⟩))) (fun _ h_=>Or.inr (Or.inl h_))) (Kd.R_mono (Kd.R_tight rfl (Kd.R_mono (ok':=fun k_=>((fun _=>True)) k_∧k_ ≠ go10) (Kd.R_apart' (HO230.out) (Kd.S_typed HO_3.out) (by decide)) (fun k_ hk=>⟨trivial,fun e_=>(hk.2) (by rw [e_];rfl)⟩))) (fun _ h_=>Or.inr (Or.inr (h_))))) (fun _ hk=>hk) (fun k_ hk_=>hk_.elim (fun h_=>((Kd.R_mono (ok':=fun k_=>((fun _=>True)) k_∧k_ ≠ go10) (Kd.R_apart' (HO227.out) (Kd.S_typed HO_3.out) (by decide)) (fun k_ hk=>⟨trivial,fun e_=>(hk.2) (by rw [e_];rfl)⟩))).1 k_ h_.symm) (fun h_=>((Kd.R_mono (ok':=fun k_=>((fun _=>True)) k_∧k_ ≠ go10) (Kd.R_apart' (HO230.out) (Kd.S_typed HO_3.out) (by decide)) (fun k_ hk=>⟨trivial,fun e_=>(hk.2) (by rw [e_];rfl)⟩))).1 k_ h_.symm));have hx12_0:=hcc12 0 _ rfl;(try simp only [show (k45).sz=2 from rfl,Nat.mul_one,Nat.add_zero] at hx12_0);have hf12_0:=hfr12 0;(try simp only [show (k45).sz=2 from rfl,Nat.mul_one,Nat.add_zero] at hf12_0);have hx12_1:=hcc12 1 _ rfl;(try simp only [show (k45).sz=2 from rfl,Nat.mul_one,Nat.add_zero] at hx12_1);have hf12_1:=hfr12 1;(try simp only [show (k45).sz=2 from rfl,Nat.mul_one,Nat.add_zero] at hf12_1);clear hcl12 hcc12 hfr12 hM12 hoki12 hH12)|((with_reducible refine gate_store (t:=45) (p:=21) rfl ?_);refine store_event (t:=45) (p:=21) (v:=?vo_w13) (w1:=((w11.setCell ⟨go10,(x4_1:Int).toNat * 2,none⟩ ((.slice Av226_ t225.length cv226_))).setCell ⟨go10,(x4_1:Int).toNat * 2 + 1,none⟩ ((.slice Av229_ t228.length cv229_)))) ?hg ?ho ?hn ?hr ?_;(case ho=>rfl);(case hg=>rfl);(case hn=>rfl);(case hr=>(go_simp;try rfl));intro w13 hw;have hg:w11.grownBy w13 (some go10):=(by rw [hw];exact HP12.2);have hp_:Kd.S k45 45 w13 w.heap.size (fun _=>True) (.slice (some ⟨go10,0,none⟩) x3_1.length co10) y231:=(by rw [hw,Ny231.out];exact HP12.1);clear HP12;have n0_:=qK (hp_);have n1_:=qK ((by rw [hw];exact qS (qS (HB.out) GB10.out) GB10.out:Below w.heap.size w w13));clear HO_3;clear HB;clear HO227;clear HO230;have HO_3:=n0_;have HB:=n1_;clear n0_ n1_;clear hg hw hp_))
        go_roundg k1
        case measure=>have:=HK1.out;omega
        case rel=>exact ⟨(y231),(wrap64 (x4_1 + 1)),(by first|rfl|(simp;done)|(simp [*];done)),H',⟨by have:=HK1.out;omega⟩,⟨by (with_reducible repeat (first|apply Kd.S_alloc|apply Kd.S_drewN|apply Kd.S_drew));exact HO_3.out⟩,⟨by repeat (first|(with_reducible first|exact HB.out|apply qA|apply qD|apply qO)|exact HB.out)⟩⟩
       ·rw [if_neg c9] at H;exact absurd H (by simp)
      ·rw [if_neg c7] at H;exact absurd H (by simp)
     ·rw [if_neg c6] at H;have c6b0:decide (x4_1 < (l0.length:Int))=false:=decide_eq_false c6;clear c6;obtain rfl:=Option.some.inj H;go_wp2
      go_ret
      exact ⟨_,by first|rfl|(simp [errW_none,errW_some] <;> rfl)|(simp [*,errW_none,errW_some] <;> rfl),by (with_reducible repeat (first|apply Kd.S_alloc|apply Kd.S_drewN|apply Kd.S_drew));exact HO_3.out,by repeat (first|(with_reducible first|exact HB.out|apply qA|apply qD|apply qO)|exact HB.out)⟩
  ·rw [if_neg c3] at H;exact absurd H (by simp)
 ·rw [if_neg c2] at H;exact absurd H (by simp)

/-! ### idxf_Set: function 56 -/
set_option maxHeartbeats 4000000 in
set_option maxRecDepth 100000 in
theorem idxf_Set.calls (A : Option Addr) (c : Nat) (l : List (Int)) (g : Nat) (lb : Array Value) (p : Int → Bool) (w : World) (eg : ∀ args w, (callFunc g args).run Try.prog w = .ok (.enter g args) w)
    (hr : Kd.C (Kd.int .i64) w A l.length l) (hp : PredOn Try.prog g lb (One (Kd.int .i64)) p l w) :
    Calls Try.prog 56 #[.slice A l.length c, .func (.func g) #[] lb] w fun e w' => e = .returned (.int .i64 (idxf p l)) ∧ Below w.heap.size w w' := by
  have hl : l.length ≤ 9223372036854775807 := hr.2.1
  have HR := Aside0.mk hr
  clear hr
  have HP := Aside0.mk hp
  clear hp
  go_enter Try.func56, Try.ntmps56
  go_wp2
  go_loopg [5, 8] l.length (fun gg _ s8 wr => ∃ kk : Nat, kk ≤ l.length ∧ l.length - kk ≤ gg ∧ s8 = .int .i64 kk ∧ Aside0 (Below w.heap.size w wr) ∧ Aside0 (∀ j, (hj : j < l.length) → j < kk → p l[j] = false))
  case atStart => exact ⟨0, Nat.zero_le _, by omega, rfl, ⟨Below.refl _ w⟩, ⟨fun j hj h => absurd h (Nat.not_lt_zero _)⟩⟩
  case round =>
    obtain ⟨kk, hkk, hg, rfl, BW, AA⟩ := hrel
    by_cases hlt : kk < l.length
    · have hltz : (kk : Int) < (l.length : Int) := by omega
      have hmem : l[kk] ∈ l := List.getElem_mem hlt
      obtain ⟨ad, cs, e1, hlen, hK, hcell⟩ := Kd.C_get (Kd.C_below HR.out BW.out) l[kk] (kk : Int) (by omega) (by omega)
      cases e1
      have hrd : l.getD (kk : Int).toNat l[kk] = l[kk] := by simp [hlt]
      rw [hrd] at hK
      replace hlen : cs.length = 1 := hlen
      obtain ⟨c0_, rfl⟩ : ∃ c0_ : Value, cs = [c0_] := list_len1 hlen
      replace hcell : ∀ j u, ([c0_] : List Value)[j]? = some u → wr.cell? (ad.add ((kk : Int).toNat * 1 + j)) = some u := hcell
      have h0_ : wr.cell? (ad.add kk) = some c0_ := by have := hcell 0 _ rfl; simpa using this
      have hcall := HP.out wr l[kk] (c0_) hmem BW.out hK
      clear hcell hK hlen hmem hrd
      have AY : Aside0 (∃ y, y = l[kk]) := ⟨⟨_, rfl⟩⟩
      obtain ⟨⟨y, hy⟩⟩ := AY
      rw [← hy] at hcall
      have HY := Aside0.mk hy
      clear hy
      cases hq : p y with
      | true =>
        rw [hq] at hcall
        have HQ := Aside0.mk hq
        clear hq
        go_wp2_with (go_at_fn g; refine hcall.mono ?_; rintro e w' ⟨rfl, hb'⟩)
        go_ret
        refine ⟨?_, below_step BW.out hb'⟩
        rw [idxf_hit hlt (by rw [← HY.out]; exact HQ.out) (fun j hj => AA.out j (by omega) hj)]
        rfl
      | false =>
        rw [hq] at hcall
        have HQ := Aside0.mk hq
        clear hq
        go_wp2_with (go_at_fn g; refine hcall.mono ?_; rintro e w' ⟨rfl, hb'⟩)
        go_roundg (l.length - (kk + 1))
        case measure => omega
        case rel =>
          refine ⟨kk + 1, by omega, by omega, by go_num, ⟨below_step BW.out hb'⟩, ⟨fun j hj hlt2 => ?_⟩⟩
          by_cases e : j = kk
          · subst e
            rw [← HY.out]; exact HQ.out
          · exact AA.out j hj (by omega)
    · have hltz : ¬ (kk : Int) < (l.length : Int) := by omega
      go_wp2
      go_ret
      refine ⟨?_, BW.out⟩
      rw [idxf_miss (fun j hj => AA.out j hj (by omega))]
      rfl

/-! ### anyf_Set: function 33 -/
set_option maxHeartbeats 4000000 in
set_option maxRecDepth 100000 in
theorem anyf_Set.calls (A : Option Addr) (c : Nat) (l : List (Int)) (g : Nat) (lb : Array Value) (p : Int → Bool) (w : World) (eg : ∀ args w, (callFunc g args).run Try.prog w = .ok (.enter g args) w)
    (hr : Kd.C (Kd.int .i64) w A l.length l) (hp : PredOn Try.prog g lb (One (Kd.int .i64)) p l w) :
    Calls Try.prog 33 #[.slice A l.length c, .func (.func g) #[] lb] w fun e w' => e = .returned (.bool (l.any p)) ∧ Below w.heap.size w w' := by
  rw [← idxf_any p l]
  have HR := Aside0.mk hr
  clear hr
  have HP := Aside0.mk hp
  clear hp
  obtain ⟨i, hi⟩ : ∃ i, i = idxf p l := ⟨_, rfl⟩
  rw [← hi]
  have HI := Aside0.mk hi
  clear hi
  go_enter Try.func33, Try.ntmps33
  go_wp2_with (go_at_call 56; refine (idxf_Set.calls A c l g lb p _ eg HR.out HP.out).mono ?_; rw [← HI.out]; rintro e w' ⟨rfl, hb'⟩)
  go_ret
  exact ⟨rfl, hb'⟩

/-! ### idxf_Depend: function 68 -/
set_option maxHeartbeats 4000000 in
set_option maxRecDepth 100000 in
theorem idxf_Depend.calls (A : Option Addr) (c : Nat) (l : List (S45)) (g : Nat) (lb : Array Value) (p : S45 → Bool) (w : World) (eg : ∀ args w, (callFunc g args).run Try.prog w = .ok (.enter g args) w)
    (hr : Kd.C k45 w A l.length l) (hp : PredOn Try.prog g lb (Agg k45) p l w) :
    Calls Try.prog 68 #[.slice A l.length c, .func (.func g) #[] lb] w fun e w' => e = .returned (.int .i64 (idxf p l)) ∧ Below w.heap.size w w' := by
  have hl : l.length ≤ 9223372036854775807 := hr.2.1
  have HR := Aside0.mk hr
  clear hr
  have HP := Aside0.mk hp
  clear hp
  go_enter Try.func68, Try.ntmps68
  go_wp2
  go_loopg [5, 8] l.length (fun gg _ s8 wr => ∃ kk : Nat, kk ≤ l.length ∧ l.length - kk ≤ gg ∧ s8 = .int .i64 kk ∧ Aside0 (Below w.heap.size w wr) ∧ Aside0 (∀ j, (hj : j < l.length) → j < kk → p l[j] = false))
  case atStart => exact ⟨0, Nat.zero_le _, by omega, rfl, ⟨Below.refl _ w⟩, ⟨fun j hj h => absurd h (Nat.not_lt_zero _)⟩⟩
  case round =>
    obtain ⟨kk, hkk, hg, rfl, BW, AA⟩ := hrel
    by_cases hlt : kk < l.length
    · have hltz : (kk : Int) < (l.length : Int) := by omega
      have hmem : l[kk] ∈ l := List.getElem_mem hlt
      obtain ⟨ad, cs, e1, hlen, hK, hcell⟩ := Kd.C_get (Kd.C_below HR.out BW.out) l[kk] (kk : Int) (by omega) (by omega)
      cases e1
      have hrd : l.getD (kk : Int).toNat l[kk] = l[kk] := by simp [hlt]
      rw [hrd] at hK
      replace hlen : cs.length = 2 := hlen
      obtain ⟨c0_, c1_, rfl⟩ : ∃ c0_ c1_ : Value, cs = [c0_, c1_] := list_len2 hlen
      replace hcell : ∀ j u, ([c0_, c1_] : List Value)[j]? = some u → wr.cell? (ad.add ((kk : Int).toNat * 2 + j)) = some u := hcell
      have h0_ : wr.cell? (ad.add (kk * 2)) = some c0_ := by have := hcell 0 _ rfl; simpa using this
      have h1_ : wr.cell? ⟨(ad.add (kk * 2)).block, (ad.add (kk * 2)).off + 1, none⟩ = some c1_ := by have := hcell 1 _ rfl; rw [show (kk : Int).toNat = kk from by simp] at this; rw [← add_field _ _ 1 (by omega)]; exact this
      have hcall := HP.out wr l[kk] (.agg #[c0_, c1_]) hmem BW.out ⟨_, rfl, hK⟩
      clear hcell hK hlen hmem hrd
      have AY : Aside0 (∃ y, y = l[kk]) := ⟨⟨_, rfl⟩⟩
      obtain ⟨⟨y, hy⟩⟩ := AY
      rw [← hy] at hcall
      have HY := Aside0.mk hy
      clear hy
      cases hq : p y with
      | true =>
        rw [hq] at hcall
        have HQ := Aside0.mk hq
        clear hq
        go_wp2_with (go_at_fn g; refine hcall.mono ?_; rintro e w' ⟨rfl, hb'⟩)
        go_ret
        refine ⟨?_, below_step BW.out hb'⟩
        rw [idxf_hit hlt (by rw [← HY.out]; exact HQ.out) (fun j hj => AA.out j (by omega) hj)]
        rfl
      | false =>
        rw [hq] at hcall
        have HQ := Aside0.mk hq
        clear hq
        go_wp2_with (go_at_fn g; refine hcall.mono ?_; rintro e w' ⟨rfl, hb'⟩)
        go_roundg (l.length - (kk + 1))
        case measure => omega
        case rel =>
          refine ⟨kk + 1, by omega, by omega, by go_num, ⟨below_step BW.out hb'⟩, ⟨fun j hj hlt2 => ?_⟩⟩
          by_cases e : j = kk
          · subst e
            rw [← HY.out]; exact HQ.out
          · exact AA.out j hj (by omega)
    · have hltz : ¬ (kk : Int) < (l.length : Int) := by omega
      go_wp2
      go_ret
      refine ⟨?_, BW.out⟩
      rw [idxf_miss (fun j hj => AA.out j hj (by omega))]
      rfl

/-! ### anyf_Depend: function 58 -/
set_option maxHeartbeats 4000000 in
set_option maxRecDepth 100000 in
theorem anyf_Depend.calls (A : Option Addr) (c : Nat) (l : List (S45)) (g : Nat) (lb : Array Value) (p : S45 → Bool) (w : World) (eg : ∀ args w, (callFunc g args).run Try.prog w = .ok (.enter g args) w)
    (hr : Kd.C k45 w A l.length l) (hp : PredOn Try.prog g lb (Agg k45) p l w) :
    Calls Try.prog 58 #[.slice A l.length c, .func (.func g) #[] lb] w fun e w' => e = .returned (.bool (l.any p)) ∧ Below w.heap.size w w' := by
  rw [← idxf_any p l]
  have HR := Aside0.mk hr
  clear hr
  have HP := Aside0.mk hp
  clear hp
  obtain ⟨i, hi⟩ : ∃ i, i = idxf p l := ⟨_, rfl⟩
  rw [← hi]
  have HI := Aside0.mk hi
  clear hi
  go_enter Try.func58, Try.ntmps58
  go_wp2_with (go_at_call 68; refine (idxf_Depend.calls A c l g lb p _ eg HR.out HP.out).mono ?_; rw [← HI.out]; rintro e w' ⟨rfl, hb'⟩)
  go_ret
  exact ⟨rfl, hb'⟩

/-! ### areAll1_Depend: function 59 -/
set_option maxHeartbeats 4000000 in
set_option maxRecDepth 100000 in
theorem areAll1_Depend.pred (B : Nat) (l : List (S45)) (g : Nat) (lb : Array Value) (p : S45 → Bool) (w : World) (eg : ∀ args w, (callFunc g args).run Try.prog w = .ok (.enter g args) w)
    (hB : w.cell? ⟨B, 0, none⟩ = some (.func (.func g) #[] lb)) (hp : PredOn Try.prog g lb (Agg k45) p l w) :
    PredOn Try.prog 59 #[.pointer (some ⟨B, 0, none⟩)] (Agg k45) (fun x => !p x) l w := by
  intro W x v hx hW hv
  obtain ⟨cs, rfl, hK⟩ := hv
  have hlen : cs.length = 2 := Kd.K_len _ hK
  obtain ⟨c0_, c1_, rfl⟩ : ∃ c0_ c1_ : Value, cs = [c0_, c1_] := list_len2 hlen
  have hB' : W.cell? ⟨B, 0, none⟩ = some (.func (.func g) #[] lb) := pw_cell_below hW hB
  have HP := Aside0.mk hp
  clear hp hB
  obtain ⟨b, hb⟩ : ∃ b, b = p x := ⟨_, rfl⟩
  have hb0 := Aside0.mk hb
  have hK' := Kd.K_below _ (below_alloc (Below.refl W.heap.size W) (.cells #[c0_, c1_] 45)) hK
  have hgr := Aside0.mk (below_alloc (Below.refl W.heap.size W) (.cells #[c0_, c1_] 45))
  have HKK := Aside0.mk hK'
  have hB'' := pw_cell_below hgr.out hB'
  have HWW := Aside0.mk hW
  clear hK hK' hW
  show Calls Try.prog 59 #[.agg #[c0_, c1_], .pointer (some ⟨B, 0, none⟩)] W fun e W' => e = .returned (.bool (!p x)) ∧ Below W.heap.size W W'
  rw [← hb]
  clear hb
  cases b with
  | true =>
    go_enter Try.func59, Try.ntmps59
    go_wp2_with (go_at_fn g; refine (HP.out _ x _ hx (below_step HWW.out hgr.out) ⟨_, rfl, HKK.out⟩).mono ?_; rw [← hb0.out]; rintro e w' ⟨rfl, hb'⟩)
    go_ret
    exact ⟨rfl, below_step hgr.out hb'⟩
  | false =>
    go_enter Try.func59, Try.ntmps59
    go_wp2_with (go_at_fn g; refine (HP.out _ x _ hx (below_step HWW.out hgr.out) ⟨_, rfl, HKK.out⟩).mono ?_; rw [← hb0.out]; rintro e w' ⟨rfl, hb'⟩)
    go_ret
    exact ⟨rfl, below_step hgr.out hb'⟩

/-! ### areAll_Depend: function 43 -/
set_option maxHeartbeats 4000000 in
set_option maxRecDepth 100000 in
theorem areAll_Depend.calls (A : Option Addr) (c : Nat) (l : List (S45)) (g : Nat) (lb : Array Value) (p : S45 → Bool) (w : World) (eg : ∀ args w, (callFunc g args).run Try.prog w = .ok (.enter g args) w)
    (hr : Kd.C k45 w A l.length l) (hp : PredOn Try.prog g lb (Agg k45) p l w) :
    Calls Try.prog 43 #[.slice A l.length c, .func (.func g) #[] lb] w fun e w' => e = .returned (.bool (l.all p)) ∧ Below w.heap.size w w' := by
  have hb1 : Below w.heap.size w (w.alloc (.cells #[.func (.func g) #[] lb] 69)) := below_alloc (Below.refl _ _) _
  have hp1 := areAll1_Depend.pred w.heap.size l g lb p (w.alloc (.cells #[.func (.func g) #[] lb] 69)) eg (by simp) (hp.grown hb1)
  have HR := Aside0.mk (Kd.C_below hr hb1)
  have HP := Aside0.mk hp1
  have HB1 := Aside0.mk hb1
  clear hr hp hp1 hb1
  obtain ⟨b, hb⟩ : ∃ b, b = l.any (fun x => !p x) := ⟨_, rfl⟩
  have hall : l.all p = !b := by rw [hb, List.all_eq_not_any_not]
  rw [hall]
  have hb0 := Aside0.mk hb
  clear hb hall
  have e1 := enters_of Try.func59 (by kernel_rfl) rfl
  cases b with
  | true =>
    go_enter Try.func43, Try.ntmps43
    go_wp2_with (go_at_call 58; refine (anyf_Depend.calls A c l _ _ _ _ e1 HR.out HP.out).mono ?_; rw [← hb0.out]; rintro e w' ⟨rfl, hb'⟩)
    go_ret
    exact ⟨rfl, below_step HB1.out hb'⟩
  | false =>
    go_enter Try.func43, Try.ntmps43
    go_wp2_with (go_at_call 58; refine (anyf_Depend.calls A c l _ _ _ _ e1 HR.out HP.out).mono ?_; rw [← hb0.out]; rintro e w' ⟨rfl, hb'⟩)
    go_ret
    exact ⟨rfl, below_step HB1.out hb'⟩

/-! ### impl_within: function 42 -/
def impl_within.f (a0:Int) (a1:Int) (a2:Int):Option (Bool):=if a1≤a0 then (some (decide (a0≤a2))) else (some false)
set_option maxHeartbeats 8000000 in
set_option maxRecDepth 100000 in
theorem impl_within.calls (a0:Int) (a1:Int) (a2:Int) (r:Bool) (w:World) (h:impl_within.f a0 a1 a2=some r) :
  Calls Try.prog 42 #[.int .i64 a0,.int .i64 a1,.int .i64 a2] w fun e w'=>e=.returned (.bool r)∧Drawn0 w w':=by
 have H:(if a1≤a0 then (some (decide (a0≤a2))) else (some false))=some r:=h;clear h;by_cases c4:a1≤a0
 ·rw [if_pos c4] at H;have c4b0:decide (a1≤a0)=true:=decide_eq_true c4;clear c4;obtain rfl:=Option.some.inj H;go_enter Try.func42,Try.ntmps42
  go_wp2
  go_ret
  exact ⟨by first|rfl|(simp;done)|(simp [*];done),by repeat (first|exact Drawn0.refl _|apply Drawn0.step)⟩
 ·rw [if_neg c4] at H;have c4b0:decide (a1≤a0)=false:=decide_eq_false c4;clear c4;obtain rfl:=Option.some.inj H;go_enter Try.func42,Try.ntmps42
  go_wp2
  go_ret
  exact ⟨by first|rfl|(simp;done)|(simp [*];done),by repeat (first|exact Drawn0.refl _|apply Drawn0.step)⟩

/-! ### impl_isPlace: function 46 -/
def impl_isPlace.f (a0:Int) (a1:Int):Option (Bool):=if a0 ≥ 0 then (some (decide (a0 < a1))) else (some false)
set_option maxHeartbeats 8000000 in
set_option maxRecDepth 100000 in
theorem impl_isPlace.calls (a0:Int) (a1:Int) (r:Bool) (w:World) (h:impl_isPlace.f a0 a1=some r) :
  Calls Try.prog 46 #[.int .i64 a0,.int .i64 a1] w fun e w'=>e=.returned (.bool r)∧Drawn0 w w':=by
 have H:(if a0 ≥ 0 then (some (decide (a0 < a1))) else (some false))=some r:=h;clear h;by_cases c3:a0 ≥ 0
 ·rw [if_pos c3] at H;have c3b0:decide (0≤a0)=true:=decide_eq_true c3;clear c3;obtain rfl:=Option.some.inj H;go_enter Try.func46,Try.ntmps46
  go_wp2
  go_ret
  exact ⟨by first|rfl|(simp;done)|(simp [*];done),by repeat (first|exact Drawn0.refl _|apply Drawn0.step)⟩
 ·rw [if_neg c3] at H;have c3b0:decide (0≤a0)=false:=decide_eq_false c3;clear c3;obtain rfl:=Option.some.inj H;go_enter Try.func46,Try.ntmps46
  go_wp2
  go_ret
  exact ⟨by first|rfl|(simp;done)|(simp [*];done),by repeat (first|exact Drawn0.refl _|apply Drawn0.step)⟩

end Go.Proofs.Ytnkdpagkmljbnaa.PFnExactIsNormal
