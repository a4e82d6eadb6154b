/-
  A text of this claim's own, printed by a program of the session (wip/tools/xprint.py): functions of the program as Lean functions, each with what its call comes to.
-/
import Derived.Test.YtecebaeifmddnaaPFnExactBestOfx0
import Derived.Test.YtecebaeifmddnaaPFnExactBestOfx1
namespace Go.Proofs.Ytecebaeifmddnaa.PFnExactBestOf
open Go.Proofs.YtecebaeifmddnaaW.PrintWords renaming pw_below_drewN → qD, blk_cell → qC, below_drew1 → qO, below_alloc → qA, blk_frozen → qF, below_set → qS, blk_drewN → qN, blk_alloc → qL, blk_drew → qW, below_size → qZ, below_step → qT, blk_below → qB, blk_far → qR, blk_put → qP
open Go.Proofs.YtecebaeifmddnaaW.PrintWords.Aside0 renaming mk → qK
open Bool renaming true → Y, false → Z
open List renaming setIfInBounds_toArray → sIb, set_cons_zero → sZ, set_cons_succ → sS, map_toArray → mT, map_cons → mC, map_nil → mN, length_drop → lD, length_take → lT
open Go.Proofs.YtecebaeifmddnaaW.PrintWords.Kd renaming C_alloc → cL, C_drewN → cN, C_drew → cW, C_below → cB, R_alloc → rL, R_drewN → rN, R_drew → rW, R_below → rB
open Go.RowKit Go.Proofs.YtecebaeifmddnaaW.PrintWords Go.Proofs.YtecebaeifmddnaaW.PrintLast Go.Proofs.YtecebaeifmddnaaW.PrintMore
attribute [local go_sem] max2_int min2_int max_two min_two max_three min_three max_four min_four   -- for this text's walks alone
set_option linter.unusedVariables false
set_option linter.unusedSimpArgs false

/-! ### spec_l12Cost: function 32 -/
def spec_l12Cost.l0 : Nat→Int→List Int→List Int→Int→Int→List Int→List (List Int)→Option (Int)
 | 0,_,_,_,_,_,_,_=>none
 | k + 1,x5,x6,x9,x10,x11,x165000,x165001=>if x11 < x10 then (if 0≤x11 then (if x11 < (x9.length:Int) then ((spec_l7Put.f k x6 (rd x9 x11)).bind fun t166=>(if x11 > 0 then ((spec_l12Size.f k x165000 x165001 t166).bind fun t169=>(spec_l12Cost.l0 k (wrap64 (x5 + t169)) t166 x9 x10 (wrap64 (x11 + 1)) x165000 x165001)) else (spec_l12Cost.l0 k x5 t166 x9 x10 (wrap64 (x11 + 1)) x165000 x165001))) else (none)) else (none)) else (some x5)
def spec_l12Cost.f (k:Nat) (l0_0:List Int) (l0_1:List (List Int)) (l1:List Int):Option (Int):=spec_l12Cost.l0 k 0 ([]:List Int) l1 (l1.length:Int) 0 l0_0 l0_1
theorem spec_l12Cost.mono_l : ∀ k,(∀ y0 y1 y2 y3 y4 y5 y6,LeO (spec_l12Cost.l0 k y0 y1 y2 y3 y4 y5 y6) (spec_l12Cost.l0 (k + 1) y0 y1 y2 y3 y4 y5 y6))
 | 0=>fun _ _ _ _ _ _ _ r h=>by simp [spec_l12Cost.l0] at h
 | k + 1=>by
  have ih0:=spec_l12Cost.mono_l k
  ·intro y0 y1 y2 y3 y4 y5 y6;unfold spec_l12Cost.l0
   repeat' first
   | (with_reducible exact ih0 _ _ _ _ _ _ _)
   | (with_reducible exact spec_l12Size.mono _ _ _ _)
   | (with_reducible exact spec_l7Put.mono _ _ _)
   | (with_reducible exact LeO.refl _)
   | (with_reducible exact LeO.none _)
   | (with_reducible refine LeO.ite ?_ ?_)
   | (with_reducible refine LeO.bind ?_ (fun _=>?_))
   | exact ih0 _ _ _ _ _ _ _
   | exact spec_l12Size.mono _ _ _ _
   | exact spec_l7Put.mono _ _ _
   | exact LeO.none _
   | refine LeO.ite ?_ ?_
   | refine LeO.bind ?_ (fun _=>?_)
theorem spec_l12Cost.mono : ∀ a0 a1 a2 k,LeO (spec_l12Cost.f k a0 a1 a2) (spec_l12Cost.f (k + 1) a0 a1 a2):=by
 intro a0 a1 a2 k;have ih0:=spec_l12Cost.mono_l k;unfold spec_l12Cost.f
 repeat' first
   | (with_reducible exact ih0 _ _ _ _ _ _ _)
   | (with_reducible exact spec_l12Size.mono _ _ _ _)
   | (with_reducible exact spec_l7Put.mono _ _ _)
   | (with_reducible exact LeO.refl _)
   | (with_reducible exact LeO.none _)
   | (with_reducible refine LeO.ite ?_ ?_)
   | (with_reducible refine LeO.bind ?_ (fun _=>?_))
   | exact ih0 _ _ _ _ _ _ _
   | exact spec_l12Size.mono _ _ _ _
   | exact spec_l7Put.mono _ _ _
   | exact LeO.none _
   | refine LeO.ite ?_ ?_
   | refine LeO.bind ?_ (fun _=>?_)
set_option maxHeartbeats 8000000 in
set_option maxRecDepth 100000 in
theorem spec_l12Cost.calls (k:Nat) (A0_0:Option Addr) (c0_0:Nat) (l0_0:List Int) (A0_1:Option Addr) (c0_1:Nat) (l0_1:List (List Int)) (A1:Option Addr) (c1:Nat) (l1:List Int) (r:Int) (w:World) (hr0_0:Kd.C (Kd.int .i64) w A0_0 l0_0.length l0_0) (hc0_0:l0_0.length≤c0_0) (hr0_1:Kd.C (Kd.slice 3 (Kd.int .i64)) w A0_1 l0_1.length l0_1) (hc0_1:l0_1.length≤c0_1) (hr1:Kd.C (Kd.int .i64) w A1 l1.length l1) (hc1:l1.length≤c1) (h:spec_l12Cost.f k l0_0 l0_1 l1=some r) :
  Calls Try.prog 32 #[.agg #[.slice A0_0 l0_0.length c0_0,.slice A0_1 l0_1.length c0_1],.slice A1 l1.length c1] w fun e w'=>e=.returned (.int .i64 r)∧Below w.heap.size w w':=by
 have hu29:=Try.underlying29;have HR0_0:=qK hr0_0;have HC0_0:=qK hc0_0;clear hr0_0 hc0_0;have HR0_1:=qK hr0_1;have HC0_1:=qK hc0_1;clear hr0_1 hc0_1;have HR1:=qK hr1;have HC1:=qK hc1;clear hr1 hc1;have HB:=qK (Below.refl w.heap.size w);have H:(spec_l12Cost.l0 k 0 ([]:List Int) l1 (l1.length:Int) 0 l0_0 l0_1)=some r:=h;clear h;have H':=qK H;clear H;go_enter Try.func32,Try.ntmps32
 go_wp2_with (first|((with_reducible refine gate_dst (N:=2) rfl ?_);refine box_event ?hg (N:=2) ?hd (cs:=#[.slice A0_0 l0_0.length c0_0,.slice A0_1 l0_1.length c0_1]) (t:=29) ?hr ?_;(case hd=>rfl);(case hg=>rfl);(case hr=>(go_simp;try rfl));intro gb164 hg w3 hbox hb;have n0_:=qK (qT (by repeat (with_reducible first|exact HB.out|apply qA|apply qD|apply qO)) hb);have n1_:=qK (hbox);have n2_:=qK ((by rw [hg];exact (qZ (by repeat (with_reducible first|exact HB.out|apply qA|apply qD|apply qO))):w.heap.size≤gb164));have n3_:=qK ((by rw [hg];exact (qZ (by repeat (with_reducible first|exact HB.out|apply qA|apply qD|apply qO))):w.heap.size≤gb164));clear HB;have HB:=n0_;have BK164:=n1_;have GW164:=n2_;have GE164:=n3_;clear n0_ n1_ n2_ n3_;clear hb hbox hg))
 go_loopg [5,6,11] k (fun kq v5 v6 v11 w'=>∃ (x5_1:Int) (x6_1:List Int) (x11_1:Int),v5=.int .i64 x5_1∧v11=.int .i64 x11_1∧Aside0 (spec_l12Cost.l0 kq x5_1 x6_1 l1 (l1.length:Int) x11_1 l0_0 l0_1=some r)∧Aside0 (kq≤k)∧Aside0 (Kd.V (Kd.int .i64) 3 w' w.heap.size (fun k_=>k_ ≠ gb164) v6 x6_1)∧Aside0 (w'.heap[gb164]?=some (.cells #[(.slice A0_0 l0_0.length c0_0),(.slice A0_1 l0_1.length c0_1)] 29 (0,0)))∧Aside0 (Below w.heap.size w w'))
 case atStart=>exact ⟨(0),(([]:List Int)),(0),(by first|rfl|(simp;done)|(simp [*];done)),(by first|rfl|(simp;done)|(simp [*];done)),H',⟨Nat.le_refl _⟩,⟨Kd.R_V (base:=0) (by first|exact Kd.R_nil _ _ _ _ _|exact Kd.N_nil _ _ _ _ _|exact Kd.V_nil _ _ _ _ _|exact Kd.Q_nil _ _ _ _ _|exact Kd.S_nil _ _ _ _ _)⟩,⟨by (with_reducible repeat (first|refine qN ?_ _|refine qW ?_|refine qL ?_ _));exact BK164.out⟩,⟨by repeat (first|(with_reducible first|exact HB.out|apply qA|apply qD|apply qO|refine qS ?_ GE164.out)|exact HB.out)⟩⟩
 case round =>
  clear H';try clear c1
  try clear p2
  try clear c3
  obtain ⟨x5_1,x6_1,x11_1,rfl,rfl,HA,HK1,HO_6,BK164,HB⟩:=hrel;cases gk with
  | zero=>exact absurd HA.out (by simp [spec_l12Cost.l0])
  | succ k1 =>
   have H:=HA.out;clear HA;simp only [spec_l12Cost.l0] at H;by_cases c4:x11_1 < (l1.length:Int)
   ·rw [if_pos c4] at H;have c4b0:decide (x11_1 < (l1.length:Int))=true:=decide_eq_true c4;clear c4;by_cases c5:0≤x11_1
    ·rw [if_pos c5] at H;have c5b0:decide (0≤x11_1)=true:=decide_eq_true c5;clear c5;by_cases c6:x11_1 < (l1.length:Int)
     ·rw [if_pos c6] at H;have c6b0:decide (x11_1 < (l1.length:Int))=true:=decide_eq_true c6;clear c6;replace H:=Option.bind_eq_some_iff.mp H;obtain ⟨t166,A70,H⟩:=H;replace H:(if x11_1 > 0 then ((spec_l12Size.f k1 l0_0 l0_1 t166).bind fun t169=>(spec_l12Cost.l0 k1 (wrap64 (x5_1 + t169)) t166 l1 (l1.length:Int) (wrap64 (x11_1 + 1)) l0_0 l0_1)) else (spec_l12Cost.l0 k1 x5_1 t166 l1 (l1.length:Int) (wrap64 (x11_1 + 1)) l0_0 l0_1))=some r:=H;have A7:=qK A70;clear A70;by_cases c8:x11_1 > 0
      ·rw [if_pos c8] at H;have c8b0:decide (0 < x11_1)=true:=decide_eq_true c8;clear c8;replace H:=Option.bind_eq_some_iff.mp H;obtain ⟨t169,A90,H⟩:=H;replace H:(spec_l12Cost.l0 k1 (wrap64 (x5_1 + t169)) t166 l1 (l1.length:Int) (wrap64 (x11_1 + 1)) l0_0 l0_1)=some r:=H;have A9:=qK A90;clear A90;have H':=qK H;clear H;have p165:0≤(x11_1:Int):=of_decide_eq_true (by first|(with_reducible assumption)|assumption);have q165:x11_1 < (l1.length:Int):=of_decide_eq_true (by first|(with_reducible assumption)|assumption);obtain ⟨ad165,e165,hx165_0⟩:=Kd.at_int HR1.out x11_1 p165 q165;cases e165
       replace hx165_0:=(HB.out.cell (World.block_lt_of_cell? w _ hx165_0)).trans hx165_0;replace p165:=eq_true p165;replace q165:=eq_true q165;obtain ⟨Ao10,co10,eo10⟩:=Kd.V_slice HO_6.out;subst eo10;go_wp2_with (first|((with_reducible refine gate_callee (f:=55) rfl ?_);refine goesL_ (some 18) rfl rfl Try.func55 (by kernel_rfl) rfl #[.slice Ao10 x6_1.length co10,.int .i64 (rd l1 x11_1)] rfl (by (try simp only [mT,mC,mN]);first|done|rfl|(simp only [lD,lT];rfl)) ?_;(with_reducible refine (spec_l7Put.calls k1 (fun k_=>k_ ≠ gb164) _ _ x6_1 (rd l1 x11_1) t166 _ ?side1 A7.out).mono ?_);(case side1=>exact HO_6.out);rintro e w11 ⟨v167,rfl,ho0,hb⟩;refine ⟨_,rfl,?_⟩;have n0_:=qK (Kd.V_below (by (with_reducible repeat (first|apply Kd.V_alloc|apply Kd.V_drewN|apply Kd.V_drew));exact HO_6.out) hb);have n1_:=qK (Kd.V_lower (Kd.V_mono (ok':=fun k_=>k_ ≠ gb164) ho0 (fun k_ hk_=>Or.elim hk_ (fun hs_=>hs_) (fun hn_=>(Kd.freshB (g:=gb164) (o:=_) (by (with_reducible repeat (first|refine qN ?_ _|refine qW ?_|refine qL ?_ _));exact BK164.out) k_ hn_)))) (qZ (by repeat (with_reducible first|exact HB.out|apply qA|apply qD|apply qO|refine qS ?_ GE164.out))));have n2_:=qK (qB (g:=gb164) (o:=_) (by (with_reducible repeat (first|refine qN ?_ _|refine qW ?_|refine qL ?_ _));exact BK164.out) hb);have n3_:=qK (qT (by repeat (with_reducible first|exact HB.out|apply qA|apply qD|apply qO|refine qS ?_ GE164.out)) hb);clear HO_6;clear BK164;clear HB;have HO_6:=n0_;have HO168:=n1_;have BK164:=n2_;have HB:=n3_;clear n0_ n1_ n2_ n3_;(try clear hb);(try clear ho0);have hcz12_0:w11.cell? ⟨gb164,0,none⟩=some (.slice A0_0 l0_0.length c0_0):=(qC BK164.out 0).trans rfl;have hcz12_1:w11.cell? ⟨gb164,1,none⟩=some (.slice A0_1 l0_1.length c0_1):=(qC BK164.out 1).trans rfl;have hfz12_0:=qF BK164.out 0;have hfz12_1:=qF BK164.out 1;obtain ⟨Ao13,co13,eo13⟩:=Kd.V_slice HO168.out;subst eo13)|((with_reducible refine gate_callee (f:=52) rfl ?_);refine goesL_ (some 24) rfl rfl Try.func52 (by kernel_rfl) rfl #[.agg #[.slice A0_0 l0_0.length c0_0,.slice A0_1 l0_1.length c0_1],.slice Ao13 t166.length co13] rfl (by (try simp only [mT,mC,mN]);first|done|rfl|(simp only [lD,lT];rfl)) ?_;(with_reducible refine (spec_l12Size.calls k1 _ _ l0_0 _ _ l0_1 _ _ t166 t169 _ ?side1 ?side2 ?side3 ?side4 ?side5 ?side6 A9.out).mono ?_);(case side1=>repeat (first|exact (cB HR0_0.out HB.out)|(with_reducible first|refine cL ?_ _|refine cN ?_ _|refine cW ?_)));(case side2=>exact HC0_0.out);(case side3=>repeat (first|exact (cB HR0_1.out HB.out)|(with_reducible first|refine cL ?_ _|refine cN ?_ _|refine cW ?_)));(case side4=>exact HC0_1.out);(case side5=>repeat (first|exact (Kd.V_reads' HO168.out).2.2|(with_reducible first|refine cL ?_ _|refine cN ?_ _|refine cW ?_)));(case side6=>exact (Kd.V_reads' HO168.out).2.1);rintro e w14 ⟨rfl,hb⟩;refine ⟨_,rfl,?_⟩;have n0_:=qK (Kd.V_below (by (with_reducible repeat (first|apply Kd.V_alloc|apply Kd.V_drewN|apply Kd.V_drew));exact HO_6.out) hb);have n1_:=qK (Kd.V_below (by (with_reducible repeat (first|apply Kd.V_alloc|apply Kd.V_drewN|apply Kd.V_drew));exact HO168.out) hb);have n2_:=qK (qB (g:=gb164) (o:=_) (by (with_reducible repeat (first|refine qN ?_ _|refine qW ?_|refine qL ?_ _));exact BK164.out) hb);have n3_:=qK (qT (by repeat (with_reducible first|exact HB.out|apply qA|apply qD|apply qO|refine qS ?_ GE164.out)) hb);clear HO_6;clear HO168;clear BK164;clear HB;have HO_6:=n0_;have HO168:=n1_;have BK164:=n2_;have HB:=n3_;clear n0_ n1_ n2_ n3_;(try clear hb)))
       go_roundg k1
       case measure=>have:=HK1.out;omega
       case rel=>exact ⟨(wrap64 (x5_1 + t169)),(t166),(wrap64 (x11_1 + 1)),(by first|rfl|(simp;done)|(simp [*];done)),(by first|rfl|(simp;done)|(simp [*];done)),H',⟨by have:=HK1.out;omega⟩,⟨by (with_reducible repeat (first|apply Kd.V_alloc|apply Kd.V_drewN|apply Kd.V_drew));exact HO168.out⟩,⟨by (with_reducible repeat (first|refine qN ?_ _|refine qW ?_|refine qL ?_ _));exact BK164.out⟩,⟨by repeat (first|(with_reducible first|exact HB.out|apply qA|apply qD|apply qO|refine qS ?_ GE164.out)|exact HB.out)⟩⟩
      ·rw [if_neg c8] at H;have c8b0:decide (0 < x11_1)=false:=decide_eq_false c8;clear c8;have H':=qK H;clear H;have p165:0≤(x11_1:Int):=of_decide_eq_true (by first|(with_reducible assumption)|assumption);have q165:x11_1 < (l1.length:Int):=of_decide_eq_true (by first|(with_reducible assumption)|assumption);obtain ⟨ad165,e165,hx165_0⟩:=Kd.at_int HR1.out x11_1 p165 q165;cases e165
       replace hx165_0:=(HB.out.cell (World.block_lt_of_cell? w _ hx165_0)).trans hx165_0;replace p165:=eq_true p165;replace q165:=eq_true q165;obtain ⟨Ao15,co15,eo15⟩:=Kd.V_slice HO_6.out;subst eo15;go_wp2_with (first|((with_reducible refine gate_callee (f:=55) rfl ?_);refine goesL_ (some 18) rfl rfl Try.func55 (by kernel_rfl) rfl #[.slice Ao15 x6_1.length co15,.int .i64 (rd l1 x11_1)] rfl (by (try simp only [mT,mC,mN]);first|done|rfl|(simp only [lD,lT];rfl)) ?_;(with_reducible refine (spec_l7Put.calls k1 (fun k_=>k_ ≠ gb164) _ _ x6_1 (rd l1 x11_1) t166 _ ?side1 A7.out).mono ?_);(case side1=>exact HO_6.out);rintro e w16 ⟨v167,rfl,ho0,hb⟩;refine ⟨_,rfl,?_⟩;have n0_:=qK (Kd.V_below (by (with_reducible repeat (first|apply Kd.V_alloc|apply Kd.V_drewN|apply Kd.V_drew));exact HO_6.out) hb);have n1_:=qK (Kd.V_lower (Kd.V_mono (ok':=fun k_=>k_ ≠ gb164) ho0 (fun k_ hk_=>Or.elim hk_ (fun hs_=>hs_) (fun hn_=>(Kd.freshB (g:=gb164) (o:=_) (by (with_reducible repeat (first|refine qN ?_ _|refine qW ?_|refine qL ?_ _));exact BK164.out) k_ hn_)))) (qZ (by repeat (with_reducible first|exact HB.out|apply qA|apply qD|apply qO|refine qS ?_ GE164.out))));have n2_:=qK (qB (g:=gb164) (o:=_) (by (with_reducible repeat (first|refine qN ?_ _|refine qW ?_|refine qL ?_ _));exact BK164.out) hb);have n3_:=qK (qT (by repeat (with_reducible first|exact HB.out|apply qA|apply qD|apply qO|refine qS ?_ GE164.out)) hb);clear HO_6;clear BK164;clear HB;have HO_6:=n0_;have HO168:=n1_;have BK164:=n2_;have HB:=n3_;clear n0_ n1_ n2_ n3_;(try clear hb);(try clear ho0)))
       go_roundg k1
       case measure=>have:=HK1.out;omega
       case rel=>exact ⟨(x5_1),(t166),(wrap64 (x11_1 + 1)),(by first|rfl|(simp;done)|(simp [*];done)),(by first|rfl|(simp;done)|(simp [*];done)),H',⟨by have:=HK1.out;omega⟩,⟨by (with_reducible repeat (first|apply Kd.V_alloc|apply Kd.V_drewN|apply Kd.V_drew));exact HO168.out⟩,⟨by (with_reducible repeat (first|refine qN ?_ _|refine qW ?_|refine qL ?_ _));exact BK164.out⟩,⟨by repeat (first|(with_reducible first|exact HB.out|apply qA|apply qD|apply qO|refine qS ?_ GE164.out)|exact HB.out)⟩⟩
     ·rw [if_neg c6] at H;exact absurd H (by simp)
    ·rw [if_neg c5] at H;exact absurd H (by simp)
   ·rw [if_neg c4] at H;have c4b0:decide (x11_1 < (l1.length:Int))=false:=decide_eq_false c4;clear c4;obtain rfl:=Option.some.inj H;go_wp2
    go_ret
    exact ⟨by first|rfl|(simp [errW_none,errW_some] <;> rfl)|(simp [*,errW_none,errW_some] <;> rfl),by repeat (first|(with_reducible first|exact HB.out|apply qA|apply qD|apply qO|refine qS ?_ GE164.out)|exact HB.out)⟩

/-! ### spec_l11Without: function 53 -/
def spec_l11Without.l0 : Nat→Int→List Int→List Int→Int→Int→Option (List Int)
 | 0,_,_,_,_,_=>none
 | k + 1,x1,x5,x8,x9,x10=>if x10 < x9 then (if 0≤x10 then (if x10 < (x8.length:Int) then (if (rd x8 x10)=x1 then (spec_l11Without.l0 k x1 x5 x8 x9 (wrap64 (x10 + 1))) else (if x5.length < 17592186044416 then (spec_l11Without.l0 k x1 (x5 ++ [rd x8 x10]) x8 x9 (wrap64 (x10 + 1))) else (none))) else (none)) else (none)) else (some x5)
def spec_l11Without.f (k:Nat) (l0:List Int) (a1:Int):Option (List Int):=spec_l11Without.l0 k a1 ([]:List Int) l0 (l0.length:Int) 0
theorem spec_l11Without.mono_l : ∀ k,(∀ y0 y1 y2 y3 y4,LeO (spec_l11Without.l0 k y0 y1 y2 y3 y4) (spec_l11Without.l0 (k + 1) y0 y1 y2 y3 y4))
 | 0=>fun _ _ _ _ _ r h=>by simp [spec_l11Without.l0] at h
 | k + 1=>by
  have ih0:=spec_l11Without.mono_l k
  ·intro y0 y1 y2 y3 y4;unfold spec_l11Without.l0
   repeat' first
   | (with_reducible exact ih0 _ _ _ _ _)
   | (with_reducible exact LeO.refl _)
   | (with_reducible exact LeO.none _)
   | (with_reducible refine LeO.ite ?_ ?_)
   | (with_reducible refine LeO.bind ?_ (fun _=>?_))
   | exact ih0 _ _ _ _ _
   | exact LeO.none _
   | refine LeO.ite ?_ ?_
   | refine LeO.bind ?_ (fun _=>?_)
theorem spec_l11Without.mono : ∀ a0 a1 k,LeO (spec_l11Without.f k a0 a1) (spec_l11Without.f (k + 1) a0 a1):=by
 intro a0 a1 k;have ih0:=spec_l11Without.mono_l k;unfold spec_l11Without.f
 repeat' first
   | (with_reducible exact ih0 _ _ _ _ _)
   | (with_reducible exact LeO.refl _)
   | (with_reducible exact LeO.none _)
   | (with_reducible refine LeO.ite ?_ ?_)
   | (with_reducible refine LeO.bind ?_ (fun _=>?_))
   | exact ih0 _ _ _ _ _
   | exact LeO.none _
   | refine LeO.ite ?_ ?_
   | refine LeO.bind ?_ (fun _=>?_)
set_option maxHeartbeats 8000000 in
set_option maxRecDepth 100000 in
theorem spec_l11Without.calls (k:Nat) (A0:Option Addr) (c0:Nat) (l0:List Int) (a1:Int) (r:List Int) (w:World) (hr0:Kd.C (Kd.int .i64) w A0 l0.length l0) (hc0:l0.length≤c0) (h:spec_l11Without.f k l0 a1=some r) :
  Calls Try.prog 53 #[.slice A0 l0.length c0,.int .i64 a1] w fun e w'=>∃ v0_:Value,e=.returned (v0_)∧Kd.R (Kd.int .i64) 3 w' w.heap.size (fun _=>True) v0_ r∧Below w.heap.size w w':=by
 have HR0:=qK hr0;have HC0:=qK hc0;clear hr0 hc0;have HB:=qK (Below.refl w.heap.size w);have H:(spec_l11Without.l0 k a1 ([]:List Int) l0 (l0.length:Int) 0)=some r:=h;clear h;have H':=qK H;clear H;go_enter Try.func53,Try.ntmps53
 go_wp2
 go_loopg [5,10] k (fun kq v5 v10 w'=>∃ (x5_1:List Int) (x10_1:Int),v10=.int .i64 x10_1∧Aside0 (spec_l11Without.l0 kq a1 x5_1 l0 (l0.length:Int) x10_1=some r)∧Aside0 (kq≤k)∧Aside0 (Kd.R (Kd.int .i64) 3 w' w.heap.size (fun _=>True) v5 x5_1)∧Aside0 (Below w.heap.size w w'))
 case atStart=>exact ⟨(([]:List Int)),(0),(by first|rfl|(simp;done)|(simp [*];done)),H',⟨Nat.le_refl _⟩,⟨by first|exact Kd.R_nil _ _ _ _ _|exact Kd.N_nil _ _ _ _ _|exact Kd.V_nil _ _ _ _ _|exact Kd.Q_nil _ _ _ _ _|exact Kd.S_nil _ _ _ _ _⟩,⟨by repeat (first|(with_reducible first|exact HB.out|apply qA|apply qD|apply qO)|exact HB.out)⟩⟩
 case round =>
  clear H';try clear p2
  obtain ⟨x5_1,x10_1,rfl,HA,HK1,HO_5,HB⟩:=hrel;cases gk with
  | zero=>exact absurd HA.out (by simp [spec_l11Without.l0])
  | succ k1 =>
   have H:=HA.out;clear HA;simp only [spec_l11Without.l0] at H;by_cases c3:x10_1 < (l0.length:Int)
   ·rw [if_pos c3] at H;have c3b0:decide (x10_1 < (l0.length:Int))=true:=decide_eq_true c3;clear c3;by_cases c4:0≤x10_1
    ·rw [if_pos c4] at H;have c4b0:decide (0≤x10_1)=true:=decide_eq_true c4;clear c4;by_cases c5:x10_1 < (l0.length:Int)
     ·rw [if_pos c5] at H;have c5b0:decide (x10_1 < (l0.length:Int))=true:=decide_eq_true c5;clear c5;by_cases c6:(rd l0 x10_1)=a1
      ·rw [if_pos c6] at H;have c6b0:((rd l0 x10_1) == a1)=true:=beq_iff_eq.mpr c6;have c6b1:((rd l0 x10_1) != a1)=false:=bne_eq_false_iff_eq.mpr c6;clear c6;have H':=qK H;clear H;have p170:0≤(x10_1:Int):=of_decide_eq_true (by first|(with_reducible assumption)|assumption);have q170:x10_1 < (l0.length:Int):=of_decide_eq_true (by first|(with_reducible assumption)|assumption);obtain ⟨ad170,e170,hx170_0⟩:=Kd.at_int HR0.out x10_1 p170 q170;cases e170
       replace hx170_0:=(HB.out.cell (World.block_lt_of_cell? w _ hx170_0)).trans hx170_0;replace p170:=eq_true p170;replace q170:=eq_true q170;go_wp2
       go_roundg k1
       case measure=>have:=HK1.out;omega
       case rel=>exact ⟨(x5_1),(wrap64 (x10_1 + 1)),(by first|rfl|(simp;done)|(simp [*];done)),H',⟨by have:=HK1.out;omega⟩,⟨by (with_reducible repeat (first|apply rL|apply rN|apply rW));exact HO_5.out⟩,⟨by repeat (first|(with_reducible first|exact HB.out|apply qA|apply qD|apply qO)|exact HB.out)⟩⟩
      ·rw [if_neg c6] at H;have c6b0:((rd l0 x10_1) == a1)=false:=beq_eq_false_iff_ne.mpr c6;have c6b1:((rd l0 x10_1) != a1)=true:=bne_iff_ne.mpr c6;by_cases c7:x5_1.length < 17592186044416
       ·rw [if_pos c7] at H;have LMc7:=qK c7;clear c7;obtain ⟨y171,hy171⟩:∃ y_:List Int,y_=(x5_1 ++ [rd l0 x10_1]):=⟨_,rfl⟩;replace H:(spec_l11Without.l0 k1 a1 y171 l0 (l0.length:Int) (wrap64 (x10_1 + 1)))=some r:=by first|(rw [hy171];with_reducible exact H)|(have H2_:=(Option.bind_some _ _).symm.trans H;rw [hy171];with_reducible exact H2_)|(have H2_:=(Option.bind_some _ _).symm.trans H;with_reducible exact H2_)|with_reducible exact H|(rw [hy171];exact H)|exact H
        have Ny171:=qK hy171;clear hy171;have H':=qK H;clear H;have p170:0≤(x10_1:Int):=of_decide_eq_true (by first|(with_reducible assumption)|assumption);have q170:x10_1 < (l0.length:Int):=of_decide_eq_true (by first|(with_reducible assumption)|assumption);obtain ⟨ad170,e170,hx170_0⟩:=Kd.at_int HR0.out x10_1 p170 q170;cases e170
        replace hx170_0:=(HB.out.cell (World.block_lt_of_cell? w _ hx170_0)).trans hx170_0;replace p170:=eq_true p170;replace q170:=eq_true q170;go_wp2_with (first|((with_reducible refine gate_builtin (b:=.append) (xs:=#[.tmp 17,.tmp 19]) rfl ?_);at_builtin;refine Kd.R_append (Kd.int .i64) (w0:=w) w.heap.size rfl (.tmp 17) (.tmp 19) 22 3 (.int .i64 0) 8 rfl Try.underlying22 info3 rfl (by decide) (by omega) u5 x5_1 (rd l0 x10_1) [.int .i64 (rd l0 x10_1)] (fun _=>True) (fun _=>False) rfl rfl ?aP (fun _ hk=>hk.elim) ?aF ?aO ?aB ?aS ?aL ?_;(case aP=>exact rfl);(case aB=>exact (by repeat (with_reducible first|exact HB.out|apply qA|apply qD|apply qO)));(case aF=>exact (fun _ _=>trivial));(case aO=>exact (by (with_reducible repeat (first|apply rL|apply rN|apply rW));exact HO_5.out));(case aS=>exact (qZ (by repeat (with_reducible first|exact HB.out|apply qA|apply qD|apply qO))));(case aL=>have:=LMc7.out;omega);intro v172 w8 ho hb hg hat;rw [← Ny171.out] at ho;have n0_:=qK (hb);have n1_:=qK (ho);clear HB;clear HO_5;have HB:=n0_;have HO173:=n1_;clear n0_ n1_;clear ho hb hg hat))
        go_roundg k1
        case measure=>have:=HK1.out;omega
        case rel=>exact ⟨(y171),(wrap64 (x10_1 + 1)),(by first|rfl|(simp;done)|(simp [*];done)),H',⟨by have:=HK1.out;omega⟩,⟨by (with_reducible repeat (first|apply rL|apply rN|apply rW));exact HO173.out⟩,⟨by repeat (first|(with_reducible first|exact HB.out|apply qA|apply qD|apply qO)|exact HB.out)⟩⟩
       ·rw [if_neg c7] at H;exact absurd H (by simp)
     ·rw [if_neg c5] at H;exact absurd H (by simp)
    ·rw [if_neg c4] at H;exact absurd H (by simp)
   ·rw [if_neg c3] at H;have c3b0:decide (x10_1 < (l0.length:Int))=false:=decide_eq_false c3;clear c3;obtain rfl:=Option.some.inj H;go_wp2
    go_ret
    exact ⟨_,by first|rfl|(simp [errW_none,errW_some] <;> rfl)|(simp [*,errW_none,errW_some] <;> rfl),by (with_reducible repeat (first|apply rL|apply rN|apply rW));exact HO_5.out,by repeat (first|(with_reducible first|exact HB.out|apply qA|apply qD|apply qO)|exact HB.out)⟩

/-! ### spec_l12Before: function 54 -/
def spec_l12Before.l0 : Nat→List Int→List Int→Int→Int→Option (Bool)
 | 0,_,_,_,_=>none
 | k + 1,x0,x1,x7,x8=>if x8 < x7 then (if 0≤x8 then (if x8 < (x0.length:Int) then (if x8 < (x1.length:Int) then (if (rd x0 x8)=(rd x1 x8) then (spec_l12Before.l0 k x0 x1 x7 (wrap64 (x8 + 1))) else (some (decide ((rd x0 x8) < (rd x1 x8))))) else (none)) else (none)) else (none)) else (some false)
def spec_l12Before.f (k:Nat) (l0:List Int) (l1:List Int):Option (Bool):=spec_l12Before.l0 k l0 l1 (l0.length:Int) 0
theorem spec_l12Before.mono_l : ∀ k,(∀ y0 y1 y2 y3,LeO (spec_l12Before.l0 k y0 y1 y2 y3) (spec_l12Before.l0 (k + 1) y0 y1 y2 y3))
 | 0=>fun _ _ _ _ r h=>by simp [spec_l12Before.l0] at h
 | k + 1=>by
  have ih0:=spec_l12Before.mono_l k
  ·intro y0 y1 y2 y3;unfold spec_l12Before.l0
   repeat' first
   | (with_reducible exact ih0 _ _ _ _)
   | (with_reducible exact LeO.refl _)
   | (with_reducible exact LeO.none _)
   | (with_reducible refine LeO.ite ?_ ?_)
   | (with_reducible refine LeO.bind ?_ (fun _=>?_))
   | exact ih0 _ _ _ _
   | exact LeO.none _
   | refine LeO.ite ?_ ?_
   | refine LeO.bind ?_ (fun _=>?_)
theorem spec_l12Before.mono : ∀ a0 a1 k,LeO (spec_l12Before.f k a0 a1) (spec_l12Before.f (k + 1) a0 a1):=by
 intro a0 a1 k;have ih0:=spec_l12Before.mono_l k;unfold spec_l12Before.f
 repeat' first
   | (with_reducible exact ih0 _ _ _ _)
   | (with_reducible exact LeO.refl _)
   | (with_reducible exact LeO.none _)
   | (with_reducible refine LeO.ite ?_ ?_)
   | (with_reducible refine LeO.bind ?_ (fun _=>?_))
   | exact ih0 _ _ _ _
   | exact LeO.none _
   | refine LeO.ite ?_ ?_
   | refine LeO.bind ?_ (fun _=>?_)
set_option maxHeartbeats 8000000 in
set_option maxRecDepth 100000 in
theorem spec_l12Before.calls (k:Nat) (A0:Option Addr) (c0:Nat) (l0:List Int) (A1:Option Addr) (c1:Nat) (l1:List Int) (r:Bool) (w:World) (hr0:Kd.C (Kd.int .i64) w A0 l0.length l0) (hc0:l0.length≤c0) (hr1:Kd.C (Kd.int .i64) w A1 l1.length l1) (hc1:l1.length≤c1) (h:spec_l12Before.f k l0 l1=some r) :
  Calls Try.prog 54 #[.slice A0 l0.length c0,.slice A1 l1.length c1] w fun e w'=>e=.returned (.bool r)∧Drawn0 w w':=by
 have HR0:=qK hr0;have HC0:=qK hc0;clear hr0 hc0;have HR1:=qK hr1;have HC1:=qK hc1;clear hr1 hc1;have H:(spec_l12Before.l0 k l0 l1 (l0.length:Int) 0)=some r:=h;clear h;have H':=qK H;clear H;go_enter Try.func54,Try.ntmps54
 go_wp2
 repeat (go_quiet (fail);try go_wp2)
 go_loopg [8] k (fun kq v8 w'=>∃ (x8_1:Int),v8=.int .i64 x8_1∧Aside0 (spec_l12Before.l0 kq l0 l1 (l0.length:Int) x8_1=some r)∧Aside0 (kq≤k)∧Drawn0 w w')
 case atStart=>exact ⟨(0),(by first|rfl|(simp;done)|(simp [*];done)),H',⟨Nat.le_refl _⟩,by repeat (first|exact Drawn0.refl _|apply Drawn0.step)⟩
 case round =>
  clear H';try clear c1
  try clear p2
  obtain ⟨x8_1,rfl,HA,HK1,⟨m1,rfl⟩⟩:=hrel;cases gk with
  | zero=>exact absurd HA.out (by simp [spec_l12Before.l0])
  | succ k1 =>
   have H:=HA.out;clear HA;simp only [spec_l12Before.l0] at H;by_cases c3:x8_1 < (l0.length:Int)
   ·rw [if_pos c3] at H;have c3b0:decide (x8_1 < (l0.length:Int))=true:=decide_eq_true c3;clear c3;by_cases c4:0≤x8_1
    ·rw [if_pos c4] at H;have c4b0:decide (0≤x8_1)=true:=decide_eq_true c4;clear c4;by_cases c5:x8_1 < (l0.length:Int)
     ·rw [if_pos c5] at H;have c5b0:decide (x8_1 < (l0.length:Int))=true:=decide_eq_true c5;clear c5;by_cases c6:x8_1 < (l1.length:Int)
      ·rw [if_pos c6] at H;have c6b0:decide (x8_1 < (l1.length:Int))=true:=decide_eq_true c6;clear c6;by_cases c7:(rd l0 x8_1)=(rd l1 x8_1)
       ·rw [if_pos c7] at H;have c7b0:((rd l0 x8_1) == (rd l1 x8_1))=true:=beq_iff_eq.mpr c7;have c7b1:((rd l0 x8_1) != (rd l1 x8_1))=false:=bne_eq_false_iff_eq.mpr c7;clear c7;have H':=qK H;clear H;have p174:0≤(x8_1:Int):=of_decide_eq_true (by first|(with_reducible assumption)|assumption);have q174:x8_1 < (l0.length:Int):=of_decide_eq_true (by first|(with_reducible assumption)|assumption);obtain ⟨ad174,e174,hx174_0⟩:=Kd.at_int HR0.out x8_1 p174 q174;cases e174
        replace p174:=eq_true p174;replace q174:=eq_true q174;have p175:0≤(x8_1:Int):=of_decide_eq_true (by first|(with_reducible assumption)|assumption);have q175:x8_1 < (l1.length:Int):=of_decide_eq_true (by first|(with_reducible assumption)|assumption);obtain ⟨ad175,e175,hx175_0⟩:=Kd.at_int HR1.out x8_1 p175 q175;cases e175
        replace p175:=eq_true p175;replace q175:=eq_true q175;go_wp2
        repeat (go_quiet (fail);try go_wp2)
        go_roundg k1
        case measure=>have:=HK1.out;omega
        case rel=>exact ⟨(wrap64 (x8_1 + 1)),(by first|rfl|(simp;done)|(simp [*];done)),H',⟨by have:=HK1.out;omega⟩,by repeat (first|exact Drawn0.refl _|apply Drawn0.step)⟩
       ·rw [if_neg c7] at H;have c7b0:((rd l0 x8_1) == (rd l1 x8_1))=false:=beq_eq_false_iff_ne.mpr c7;have c7b1:((rd l0 x8_1) != (rd l1 x8_1))=true:=bne_iff_ne.mpr c7;obtain rfl:=Option.some.inj H;have p174:0≤(x8_1:Int):=of_decide_eq_true (by first|(with_reducible assumption)|assumption);have q174:x8_1 < (l0.length:Int):=of_decide_eq_true (by first|(with_reducible assumption)|assumption);obtain ⟨ad174,e174,hx174_0⟩:=Kd.at_int HR0.out x8_1 p174 q174;cases e174
        replace p174:=eq_true p174;replace q174:=eq_true q174;have p175:0≤(x8_1:Int):=of_decide_eq_true (by first|(with_reducible assumption)|assumption);have q175:x8_1 < (l1.length:Int):=of_decide_eq_true (by first|(with_reducible assumption)|assumption);obtain ⟨ad175,e175,hx175_0⟩:=Kd.at_int HR1.out x8_1 p175 q175;cases e175
        replace p175:=eq_true p175;replace q175:=eq_true q175;have p176:0≤(x8_1:Int):=of_decide_eq_true (by first|(with_reducible assumption)|assumption);have q176:x8_1 < (l0.length:Int):=of_decide_eq_true (by first|(with_reducible assumption)|assumption);obtain ⟨ad176,e176,hx176_0⟩:=Kd.at_int HR0.out x8_1 p176 q176;obtain rfl:ad174=ad176:=(by injection e176);replace p176:=eq_true p176;replace q176:=eq_true q176;have p177:0≤(x8_1:Int):=of_decide_eq_true (by first|(with_reducible assumption)|assumption);have q177:x8_1 < (l1.length:Int):=of_decide_eq_true (by first|(with_reducible assumption)|assumption);obtain ⟨ad177,e177,hx177_0⟩:=Kd.at_int HR1.out x8_1 p177 q177;obtain rfl:ad175=ad177:=(by injection e177);replace p177:=eq_true p177;replace q177:=eq_true q177;go_wp2
        repeat (go_quiet (fail);try go_wp2)
        go_ret
        exact ⟨by first|rfl|(simp;done)|(simp [*];done),by repeat (first|exact Drawn0.refl _|apply Drawn0.step)⟩
      ·rw [if_neg c6] at H;exact absurd H (by simp)
     ·rw [if_neg c5] at H;exact absurd H (by simp)
    ·rw [if_neg c4] at H;exact absurd H (by simp)
   ·rw [if_neg c3] at H;have c3b0:decide (x8_1 < (l0.length:Int))=false:=decide_eq_false c3;clear c3;obtain rfl:=Option.some.inj H;go_wp2
    repeat (go_quiet (fail);try go_wp2)
    go_ret
    exact ⟨by first|rfl|(simp;done)|(simp [*];done),by repeat (first|exact Drawn0.refl _|apply Drawn0.step)⟩

end Go.Proofs.Ytecebaeifmddnaa.PFnExactBestOf
