/-
  A text of this claim's own, printed by a program of the session (wip/tools/xprint.py): functions of the program as Lean functions, each with what its call comes to.
-/
import Derived.Test.YtecebaeifmddnaaPFnOrderedx0
import Derived.Test.YtecebaeifmddnaaPFnOrderedx1
import Derived.Test.YtecebaeifmddnaaPFnOrderedx4
import Derived.Test.YtecebaeifmddnaaPFnOrderedx5
namespace Go.Proofs.Ytecebaeifmddnaa.PFnOrdered
open Go.Proofs.YtecebaeifmddnaaW.PrintWords renaming pw_below_drewN → qD, blk_cell → qC, below_drew1 → qO, below_alloc → qA, blk_frozen → qF, below_set → qS, blk_drewN → qN, blk_alloc → qL, blk_drew → qW, below_size → qZ, below_step → qT, blk_below → qB, blk_far → qR, blk_put → qP
open Go.Proofs.YtecebaeifmddnaaW.PrintWords.Aside0 renaming mk → qK
open Bool renaming true → Y, false → Z
open List renaming setIfInBounds_toArray → sIb, set_cons_zero → sZ, set_cons_succ → sS, map_toArray → mT, map_cons → mC, map_nil → mN, length_drop → lD, length_take → lT
open Go.Proofs.YtecebaeifmddnaaW.PrintWords.Kd renaming C_alloc → cL, C_drewN → cN, C_drew → cW, C_below → cB, R_alloc → rL, R_drewN → rN, R_drew → rW, R_below → rB
open Go.RowKit Go.Proofs.YtecebaeifmddnaaW.PrintWords Go.Proofs.YtecebaeifmddnaaW.PrintLast Go.Proofs.YtecebaeifmddnaaW.PrintMore
attribute [local go_sem] max2_int min2_int max_two min_two max_three min_three max_four min_four   -- for this text's walks alone
set_option linter.unusedVariables false
set_option linter.unusedSimpArgs false

/-! ### spec_l1Cur_pick: function 59 -/
def spec_l1Cur_pick.f (s0_0:List Int) (s0_1:Int) (s0_2:Int) (a1:Int):Option (Int × Int × Int):=if a1≤1 then (some (0,s0_1,s0_2)) else ((spec_l1Cur_next.f s0_0 s0_1 s0_2).bind fun bt270=>(if a1 > 200 then ((spec_l1Cur_next.f s0_0 bt270.2.1 bt270.2.2).bind fun bt273=>(if a1=0 then (none) else (some (Int.tmod (wrap64 ((wrap64 (bt270.1 * 256)) + bt273.1)) a1,bt273.2.1,bt273.2.2)))) else (if a1=0 then (none) else (some (Int.tmod bt270.1 a1,bt270.2.1,bt270.2.2)))))
set_option maxHeartbeats 8000000 in
set_option maxRecDepth 100000 in
theorem spec_l1Cur_pick.calls (g:Nat) (ac:List Int) (af:Int) (ag:Int) (a1:Int) (r1:Int) (r2:Int) (r3:Int) (w0 w:World) (hI:IsS65 w0 w g ac af ag) (hB:Below w0.heap.size w0 w) (h:spec_l1Cur_pick.f ac af ag a1=some (r1,r2,r3)) :
  Calls Try.prog 59 #[.pointer (some ⟨g,0,none⟩),.int .i64 a1] w fun e w'=>e=.returned (.int .i64 r1)∧IsS65 w0 w' g ac r2 r3∧Below w0.heap.size w0 w'∧KeepBut w w' g none:=by
 have ae:=qK hI;have HK:=qK (KeepBut.refl w g none);have HL:=qK hB.size;clear hI;have aA:=qK hB.size;have HB:=qK hB;clear hB;have H:(if a1≤1 then (some (0,af,ag)) else ((spec_l1Cur_next.f ac af ag).bind fun ab=>(if a1 > 200 then ((spec_l1Cur_next.f ac ab.2.1 ab.2.2).bind fun aa=>(if a1=0 then (none) else (some (Int.tmod (wrap64 ((wrap64 (ab.1 * 256)) + aa.1)) a1,aa.2.1,aa.2.2)))) else (if a1=0 then (none) else (some (Int.tmod ab.1 a1,ab.2.1,ab.2.2))))))=some (r1,r2,r3):=h;clear h;by_cases c3:a1≤1
 ·rw [if_pos c3] at H;have aq:decide (a1≤1)=true:=decide_eq_true c3;clear c3;simp only [Option.some.injEq,Prod.mk.injEq] at H;obtain ⟨rfl,rfl,rfl⟩:=H;go_enter Try.func59,Try.ntmps59
  go_wp2
  go_ret
  exact ⟨by rfl,ae.out,HB.out,HK.out⟩
 ·rw [if_neg c3] at H;have aq:decide (a1≤1)=false:=decide_eq_false c3;clear c3;replace H:=Option.bind_eq_some_iff.mp H;obtain ⟨⟨ah,ai,aj⟩,au,H⟩:=H;replace H:(if a1 > 200 then ((spec_l1Cur_next.f ac ai aj).bind fun aa=>(if a1=0 then (none) else (some (Int.tmod (wrap64 ((wrap64 (ah * 256)) + aa.1)) a1,aa.2.1,aa.2.2)))) else (if a1=0 then (none) else (some (Int.tmod ah a1,ai,aj))))=some (r1,r2,r3):=H;have A4:=qK au;clear au;by_cases c5:a1 > 200
  ·rw [if_pos c5] at H;have ar:decide (200 < a1)=true:=decide_eq_true c5;clear c5;replace H:=Option.bind_eq_some_iff.mp H;obtain ⟨⟨an,ao,ap⟩,av,H⟩:=H;replace H:(if a1=0 then (none) else (some (Int.tmod (wrap64 ((wrap64 (ah * 256)) + an)) a1,ao,ap)))=some (r1,r2,r3):=H;have A6:=qK av;clear av;by_cases c7:a1=0
   ·rw [if_pos c7] at H;exact absurd H (by simp)
   ·rw [if_neg c7] at H;have ay:(a1 == 0)=false:=beq_eq_false_iff_ne.mpr c7;have az:(a1 != 0)=true:=bne_iff_ne.mpr c7;simp only [Option.some.injEq,Prod.mk.injEq] at H;obtain ⟨rfl,rfl,rfl⟩:=H;go_enter Try.func59,Try.ntmps59
    go_wp2_with (first|((with_reducible refine gate_callee (f:=69) rfl ?_);refine goesL_ (some 9) rfl rfl Try.func69 (by kernel_rfl) rfl #[.pointer (some ⟨g,0,none⟩)] rfl (by (try simp only [mT,mC,mN]);first|done|rfl|(simp only [lD,lT];rfl)) ?_;(with_reducible refine (spec_l1Cur_next.calls g ac af ag ah ai aj w0 _ ?side1 ?side2 A4.out).mono ?_);(case side1=>repeat (first|(with_reducible first|exact ae.out|apply IsS65.alloc|apply IsS65.drewN|apply IsS65.drew|apply IsS65.set_1|apply IsS65.set_2)|exact ae.out));(case side2=>repeat (first|(with_reducible first|exact HB.out|apply qA|apply qD|apply qO|refine qS ?_ (IsS65.ge ae.out))|exact HB.out));rintro e w8 ⟨rfl,hi,hb,hk⟩;refine ⟨_,rfl,?_⟩;have ak:=qK (KeepBut.trans (HK.out) hk (.inl rfl));have al:=qK (hb);have am:=qK (hi);clear HK HB ae;have HK:=ak;have HB:=al;have ae:=am;clear ak al am;(try clear hb);(try clear hb2);(try clear hk);(try clear hi))|((with_reducible refine gate_callee (f:=69) rfl ?_);refine goesL_ (some 15) rfl rfl Try.func69 (by kernel_rfl) rfl #[.pointer (some ⟨g,0,none⟩)] rfl (by (try simp only [mT,mC,mN]);first|done|rfl|(simp only [lD,lT];rfl)) ?_;(with_reducible refine (spec_l1Cur_next.calls g ac ai aj an ao ap w0 _ ?side1 ?side2 A6.out).mono ?_);(case side1=>repeat (first|(with_reducible first|exact ae.out|apply IsS65.alloc|apply IsS65.drewN|apply IsS65.drew|apply IsS65.set_1|apply IsS65.set_2)|exact ae.out));(case side2=>repeat (first|(with_reducible first|exact HB.out|apply qA|apply qD|apply qO|refine qS ?_ (IsS65.ge ae.out))|exact HB.out));rintro e w9 ⟨rfl,hi,hb,hk⟩;refine ⟨_,rfl,?_⟩;have ak:=qK (KeepBut.trans (HK.out) hk (.inl rfl));have al:=qK (hb);have am:=qK (hi);clear HK HB ae;have HK:=ak;have HB:=al;have ae:=am;clear ak al am;(try clear hb);(try clear hb2);(try clear hk);(try clear hi)))
    go_ret
    exact ⟨by rfl,ae.out,HB.out,HK.out⟩
  ·rw [if_neg c5] at H;have ar:decide (200 < a1)=false:=decide_eq_false c5;clear c5;by_cases c10:a1=0
   ·rw [if_pos c10] at H;exact absurd H (by simp)
   ·rw [if_neg c10] at H;have aw:(a1 == 0)=false:=beq_eq_false_iff_ne.mpr c10;have ax:(a1 != 0)=true:=bne_iff_ne.mpr c10;simp only [Option.some.injEq,Prod.mk.injEq] at H;obtain ⟨rfl,rfl,rfl⟩:=H;go_enter Try.func59,Try.ntmps59
    go_wp2_with (first|((with_reducible refine gate_callee (f:=69) rfl ?_);refine goesL_ (some 9) rfl rfl Try.func69 (by kernel_rfl) rfl #[.pointer (some ⟨g,0,none⟩)] rfl (by (try simp only [mT,mC,mN]);first|done|rfl|(simp only [lD,lT];rfl)) ?_;(with_reducible refine (spec_l1Cur_next.calls g ac af ag ah ai aj w0 _ ?side1 ?side2 A4.out).mono ?_);(case side1=>repeat (first|(with_reducible first|exact ae.out|apply IsS65.alloc|apply IsS65.drewN|apply IsS65.drew|apply IsS65.set_1|apply IsS65.set_2)|exact ae.out));(case side2=>repeat (first|(with_reducible first|exact HB.out|apply qA|apply qD|apply qO|refine qS ?_ (IsS65.ge ae.out))|exact HB.out));rintro e aB ⟨rfl,hi,hb,hk⟩;refine ⟨_,rfl,?_⟩;have ak:=qK (KeepBut.trans (HK.out) hk (.inl rfl));have al:=qK (hb);have am:=qK (hi);clear HK HB ae;have HK:=ak;have HB:=al;have ae:=am;clear ak al am;(try clear hb);(try clear hb2);(try clear hk);(try clear hi)))
    go_ret
    exact ⟨by rfl,ae.out,HB.out,HK.out⟩

/-! ### spec_l1Cur_one: function 60 -/
def spec_l1Cur_one.f (s0_0:List Int) (s0_1:Int) (s0_2:Int) (a1:Int):Option (Bool × Int × Int):=(spec_l1Cur_pick.f s0_0 s0_1 s0_2 a1).bind fun bt276=>(some ((bt276.1 == 0),bt276.2.1,bt276.2.2))
set_option maxHeartbeats 8000000 in
set_option maxRecDepth 100000 in
theorem spec_l1Cur_one.calls (g:Nat) (aa:List Int) (ac:Int) (ae:Int) (a1:Int) (r1:Bool) (r2:Int) (r3:Int) (w0 w:World) (hI:IsS65 w0 w g aa ac ae) (hB:Below w0.heap.size w0 w) (h:spec_l1Cur_one.f aa ac ae a1=some (r1,r2,r3)) :
  Calls Try.prog 60 #[.pointer (some ⟨g,0,none⟩),.int .i64 a1] w fun e w'=>e=.returned (.bool r1)∧IsS65 w0 w' g aa r2 r3∧Below w0.heap.size w0 w'∧KeepBut w w' g none:=by
 have af:=qK hI;have HK:=qK (KeepBut.refl w g none);have HL:=qK hB.size;clear hI;have an:=qK hB.size;have HB:=qK hB;clear hB;have H:((spec_l1Cur_pick.f aa ac ae a1).bind fun ab=>(some ((ab.1 == 0),ab.2.1,ab.2.2)))=some (r1,r2,r3):=h;clear h;replace H:=Option.bind_eq_some_iff.mp H;obtain ⟨⟨ag,ah,ai⟩,aj,H⟩:=H;replace H:(some ((ag == 0),ah,ai))=some (r1,r2,r3):=H;have A3:=qK aj;clear aj;simp only [Option.some.injEq,Prod.mk.injEq] at H;obtain ⟨rfl,rfl,rfl⟩:=H;go_enter Try.func60,Try.ntmps60
 go_wp2_with (first|((with_reducible refine gate_callee (f:=59) rfl ?_);refine goesL_ (some 7) rfl rfl Try.func59 (by kernel_rfl) rfl #[.pointer (some ⟨g,0,none⟩),.int .i64 a1] rfl (by (try simp only [mT,mC,mN]);first|done|rfl|(simp only [lD,lT];rfl)) ?_;(with_reducible refine (spec_l1Cur_pick.calls g aa ac ae a1 ag ah ai w0 _ ?side1 ?side2 A3.out).mono ?_);(case side1=>repeat (first|(with_reducible first|exact af.out|apply IsS65.alloc|apply IsS65.drewN|apply IsS65.drew|apply IsS65.set_1|apply IsS65.set_2)|exact af.out));(case side2=>repeat (first|(with_reducible first|exact HB.out|apply qA|apply qD|apply qO|refine qS ?_ (IsS65.ge af.out))|exact HB.out));rintro e w4 ⟨rfl,hi,hb,hk⟩;refine ⟨_,rfl,?_⟩;have ak:=qK (KeepBut.trans (HK.out) hk (.inl rfl));have al:=qK (hb);have am:=qK (hi);clear HK HB af;have HK:=ak;have HB:=al;have af:=am;clear ak al am;(try clear hb);(try clear hb2);(try clear hk);(try clear hi)))
 go_ret
 exact ⟨by rfl,af.out,HB.out,HK.out⟩

/-! ### spec_l1Cur_among: function 61 -/
def spec_l1Cur_among.f (s0_0:List Int) (s0_1:Int) (s0_2:Int) (l1:List Int):Option (Int × Int × Int):=(spec_l1Cur_pick.f s0_0 s0_1 s0_2 (l1.length:Int)).bind fun bt279=>(if 0≤bt279.1 then (if bt279.1 < (l1.length:Int) then (some (rd l1 bt279.1,bt279.2.1,bt279.2.2)) else (none)) else (none))
set_option maxHeartbeats 8000000 in
set_option maxRecDepth 100000 in
theorem spec_l1Cur_among.calls (g:Nat) (ae:List Int) (af:Int) (ag:Int) (A1:Option Addr) (c1:Nat) (l1:List Int) (r1:Int) (r2:Int) (r3:Int) (w0 w:World) (hI:IsS65 w0 w g ae af ag) (hB:Below w0.heap.size w0 w) (ap:Kd.C (Kd.int .i64) w A1 l1.length l1) (aq:l1.length≤c1) (an:∀ ad,A1=some ad→0 < l1.length→ad.block ≠ g) (h:spec_l1Cur_among.f ae af ag l1=some (r1,r2,r3)) :
  Calls Try.prog 61 #[.pointer (some ⟨g,0,none⟩),.slice A1 l1.length c1] w fun e w'=>e=.returned (.int .i64 r1)∧IsS65 w0 w' g ae r2 r3∧Below w0.heap.size w0 w'∧KeepBut w w' g none:=by
 have ax:=qK ap;have aA:=qK aq;clear ap aq;have aj:=qK hI;have HK:=qK (KeepBut.refl w g none);have HL:=qK hB.size;clear hI;have aB:=qK hB.size;have HB:=qK hB;clear hB;have H:((spec_l1Cur_pick.f ae af ag (l1.length:Int)).bind fun ab=>(if 0≤ab.1 then (if ab.1 < (l1.length:Int) then (some (rd l1 ab.1,ab.2.1,ab.2.2)) else (none)) else (none)))=some (r1,r2,r3):=h;clear h;replace H:=Option.bind_eq_some_iff.mp H;obtain ⟨⟨aa,ak,al⟩,ar,H⟩:=H;replace H:(if 0≤aa then (if aa < (l1.length:Int) then (some (rd l1 aa,ak,al)) else (none)) else (none))=some (r1,r2,r3):=H;have A3:=qK ar;clear ar;by_cases c4:0≤aa
 ·rw [if_pos c4] at H;have ay:decide (0≤aa)=true:=decide_eq_true c4;clear c4;by_cases c5:aa < (l1.length:Int)
  ·rw [if_pos c5] at H;have az:decide (aa < (l1.length:Int))=true:=decide_eq_true c5;clear c5;simp only [Option.some.injEq,Prod.mk.injEq] at H;obtain ⟨rfl,rfl,rfl⟩:=H;go_enter Try.func61,Try.ntmps61
   go_wp2_with (first|((with_reducible refine gate_callee (f:=59) rfl ?_);refine goesL_ (some 9) rfl rfl Try.func59 (by kernel_rfl) rfl #[.pointer (some ⟨g,0,none⟩),.int .i64 (l1.length:Int)] rfl (by (try simp only [mT,mC,mN]);first|done|rfl|(simp only [lD,lT];rfl)) ?_;(with_reducible refine (spec_l1Cur_pick.calls g ae af ag (l1.length:Int) aa ak al w0 _ ?side1 ?side2 A3.out).mono ?_);(case side1=>repeat (first|(with_reducible first|exact aj.out|apply IsS65.alloc|apply IsS65.drewN|apply IsS65.drew|apply IsS65.set_1|apply IsS65.set_2)|exact aj.out));(case side2=>repeat (first|(with_reducible first|exact HB.out|apply qA|apply qD|apply qO|refine qS ?_ (IsS65.ge aj.out))|exact HB.out));rintro e w6 ⟨rfl,hi,hb,hk⟩;refine ⟨_,rfl,?_⟩;have au:=qK (KeepBut.trans (HK.out) hk (.inl rfl));have av:=qK (hb);have aw:=qK (hi);clear HK HB aj;have HK:=au;have HB:=av;have aj:=aw;clear au av aw;(try clear hb);(try clear hb2);(try clear hk);(try clear hi);have ah:0≤(aa:Int):=of_decide_eq_true (by assumption);have ai:aa < (l1.length:Int):=of_decide_eq_true (by assumption);obtain ⟨am,ao,ac⟩:=Kd.at_int ax.out aa ah ai;cases ao;replace ac:=keep_cell HK.out ac (by first|(rw [add_block];exact an _ rfl (by omega))|exact an _ rfl (by omega)|exact an am rfl (by omega));replace ah:=eq_true ah;replace ai:=eq_true ai))
   go_ret
   exact ⟨by rfl,aj.out,HB.out,HK.out⟩
  ·rw [if_neg c5] at H;exact absurd H (by simp)
 ·rw [if_neg c4] at H;exact absurd H (by simp)

/-! ### spec_l1Cur_stats: function 41 -/
mutual
def spec_l1Cur_stats.j0 : Nat→Int→List Int→Int→Int→Option (List Int × (List (List Int)) × Int × Int)
 | 0,_,_,_,_=>none
 | k + 1,x4,x1000,x1001,x1002=>spec_l1Cur_stats.l0 k x4 0 x1000 x1001 x1002 ([]:List Int) ([]:List (List Int))
def spec_l1Cur_stats.l0 : Nat→Int→Int→List Int→Int→Int→List Int→List (List Int)→Option (List Int × (List (List Int)) × Int × Int)
 | 0,_,_,_,_,_,_,_=>none
 | k + 1,x4,x5,x1000,x1001,x1002,x285000,x285001=>if x5 < x4 then ((spec_l1Cur_pick.f x1000 x1001 x1002 50).bind fun bt297=>(if x285000.length < 17592186044416 then (spec_l1Cur_stats.l1 k x4 x5 ([]:List Int) 0 x1000 bt297.2.1 bt297.2.2 (x285000 ++ [wrap64 (1 + bt297.1)]) x285001) else (none))) else (if x4 > 0 then ((spec_l1Cur_one.f x1000 x1001 x1002 20).bind fun bt315=>(if bt315.1=true then ((spec_l1Cur_among.f x1000 bt315.2.1 bt315.2.2 (([0,50,51]:List Int))).bind fun bt321=>(if 0 < (x285000.length:Int) then (some ((x285000.set (0:Int).toNat bt321.1),x285001,bt321.2.1,bt321.2.2)) else (none))) else (some (x285000,x285001,bt315.2.1,bt315.2.2)))) else (some (x285000,x285001,x1001,x1002)))
def spec_l1Cur_stats.l1 : Nat→Int→Int→List Int→Int→List Int→Int→Int→List Int→List (List Int)→Option (List Int × (List (List Int)) × Int × Int)
 | 0,_,_,_,_,_,_,_,_,_=>none
 | k + 1,x4,x5,x6,x7,x1000,x1001,x1002,x285000,x285001=>if x7 < x5 then ((spec_l1Cur_among.f x1000 x1001 x1002 (([1,1,2,5,10]:List Int))).bind fun bt306=>(if x6.length < 17592186044416 then (spec_l1Cur_stats.l1 k x4 x5 (x6 ++ [bt306.1]) (wrap64 (x7 + 1)) x1000 bt306.2.1 bt306.2.2 x285000 x285001) else (none))) else (if x285001.length < 5864062014805 then (spec_l1Cur_stats.l0 k x4 (wrap64 (x5 + 1)) x1000 x1001 x1002 x285000 (x285001 ++ [x6])) else (none))
end
def spec_l1Cur_stats.f (k:Nat) (s0_0:List Int) (s0_1:Int) (s0_2:Int):Option (List Int × (List (List Int)) × Int × Int):=(spec_l1Cur_pick.f s0_0 s0_1 s0_2 4).bind fun bt285=>((spec_l1Cur_one.f s0_0 bt285.2.1 bt285.2.2 20).bind fun bt288=>(if bt288.1=true then ((spec_l1Cur_among.f s0_0 bt288.2.1 bt288.2.2 (([0,5,6,7]:List Int))).bind fun bt294=>(spec_l1Cur_stats.j0 k bt294.1 s0_0 bt294.2.1 bt294.2.2)) else (spec_l1Cur_stats.j0 k (wrap64 (1 + bt285.1)) s0_0 bt288.2.1 bt288.2.2)))
theorem spec_l1Cur_stats.mono_l : ∀ k,(∀ y0 y1 y2 y3,LeO (spec_l1Cur_stats.j0 k y0 y1 y2 y3) (spec_l1Cur_stats.j0 (k + 1) y0 y1 y2 y3))∧(∀ y0 y1 y2 y3 y4 y5 y6,LeO (spec_l1Cur_stats.l0 k y0 y1 y2 y3 y4 y5 y6) (spec_l1Cur_stats.l0 (k + 1) y0 y1 y2 y3 y4 y5 y6))∧(∀ y0 y1 y2 y3 y4 y5 y6 y7 y8,LeO (spec_l1Cur_stats.l1 k y0 y1 y2 y3 y4 y5 y6 y7 y8) (spec_l1Cur_stats.l1 (k + 1) y0 y1 y2 y3 y4 y5 y6 y7 y8))
 | 0=>⟨fun _ _ _ _ r h=>by simp [spec_l1Cur_stats.j0] at h,fun _ _ _ _ _ _ _ r h=>by simp [spec_l1Cur_stats.l0] at h,fun _ _ _ _ _ _ _ _ _ r h=>by simp [spec_l1Cur_stats.l1] at h⟩
 | k + 1=>by
  obtain ⟨aa,ab,ac⟩:=spec_l1Cur_stats.mono_l k;refine ⟨?_,?_,?_⟩
  ·intro y0 y1 y2 y3;unfold spec_l1Cur_stats.j0
   repeat' first
   | (with_reducible exact aa _ _ _ _)
   | (with_reducible exact ab _ _ _ _ _ _ _)
   | (with_reducible exact ac _ _ _ _ _ _ _ _ _)
   | (with_reducible exact LeO.refl _)
   | (with_reducible exact LeO.none _)
   | (with_reducible refine LeO.ite ?_ ?_)
   | (with_reducible refine LeO.bind ?_ (fun _=>?_))
   | exact aa _ _ _ _
   | exact ab _ _ _ _ _ _ _
   | exact ac _ _ _ _ _ _ _ _ _
   | exact LeO.none _
   | refine LeO.ite ?_ ?_
   | refine LeO.bind ?_ (fun _=>?_)
  ·intro y0 y1 y2 y3 y4 y5 y6;unfold spec_l1Cur_stats.l0
   repeat' first
   | (with_reducible exact aa _ _ _ _)
   | (with_reducible exact ab _ _ _ _ _ _ _)
   | (with_reducible exact ac _ _ _ _ _ _ _ _ _)
   | (with_reducible exact LeO.refl _)
   | (with_reducible exact LeO.none _)
   | (with_reducible refine LeO.ite ?_ ?_)
   | (with_reducible refine LeO.bind ?_ (fun _=>?_))
   | exact aa _ _ _ _
   | exact ab _ _ _ _ _ _ _
   | exact ac _ _ _ _ _ _ _ _ _
   | exact LeO.none _
   | refine LeO.ite ?_ ?_
   | refine LeO.bind ?_ (fun _=>?_)
  ·intro y0 y1 y2 y3 y4 y5 y6 y7 y8;unfold spec_l1Cur_stats.l1
   repeat' first
   | (with_reducible exact aa _ _ _ _)
   | (with_reducible exact ab _ _ _ _ _ _ _)
   | (with_reducible exact ac _ _ _ _ _ _ _ _ _)
   | (with_reducible exact LeO.refl _)
   | (with_reducible exact LeO.none _)
   | (with_reducible refine LeO.ite ?_ ?_)
   | (with_reducible refine LeO.bind ?_ (fun _=>?_))
   | exact aa _ _ _ _
   | exact ab _ _ _ _ _ _ _
   | exact ac _ _ _ _ _ _ _ _ _
   | exact LeO.none _
   | refine LeO.ite ?_ ?_
   | refine LeO.bind ?_ (fun _=>?_)
theorem spec_l1Cur_stats.mono : ∀ a0 a1 a2 k,LeO (spec_l1Cur_stats.f k a0 a1 a2) (spec_l1Cur_stats.f (k + 1) a0 a1 a2):=by
 intro a0 a1 a2 k;obtain ⟨aa,ab,ac⟩:=spec_l1Cur_stats.mono_l k;unfold spec_l1Cur_stats.f
 repeat' first
   | (with_reducible exact aa _ _ _ _)
   | (with_reducible exact ab _ _ _ _ _ _ _)
   | (with_reducible exact ac _ _ _ _ _ _ _ _ _)
   | (with_reducible exact LeO.refl _)
   | (with_reducible exact LeO.none _)
   | (with_reducible refine LeO.ite ?_ ?_)
   | (with_reducible refine LeO.bind ?_ (fun _=>?_))
   | exact aa _ _ _ _
   | exact ab _ _ _ _ _ _ _
   | exact ac _ _ _ _ _ _ _ _ _
   | exact LeO.none _
   | refine LeO.ite ?_ ?_
   | refine LeO.bind ?_ (fun _=>?_)
def spec_l1Cur_stats.T8 : Bool × List (List Nat × List Nat):=(true,[([],[]),([0],[0]),([],[]),([2],[2]),([3],[3]),([4],[4]),([1,5,3],[1,5]),([0,1,2,3,4,5,6],[]),([7,6,6,0,1,2,3,4,5,6],[6,7])])
def spec_l1Cur_stats.B8 : List Nat:=[0,1,0,4,12,28,63,127,255]
theorem spec_l1Cur_stats.tab8 : rtab .any (opsOf Try.f41 8)=spec_l1Cur_stats.T8:=by kernel_rfl
theorem spec_l1Cur_stats.bits8 : waitsOk spec_l1Cur_stats.T8.2 spec_l1Cur_stats.B8=true:=by kernel_rfl
set_option maxHeartbeats 8000000 in
set_option maxRecDepth 100000 in
theorem spec_l1Cur_stats.calls (k:Nat) (g:Nat) (am:List Int) (bB:Int) (bC:Int) (r1:List Int) (r2:List (List Int)) (r3:Int) (r4:Int) (w0 w:World) (hI:IsS65 w0 w g am bB bC) (hB:Below w0.heap.size w0 w) (h:spec_l1Cur_stats.f k am bB bC=some (r1,r2,r3,r4)) :
  Calls Try.prog 41 #[.pointer (some ⟨g,0,none⟩)] w fun e w'=>∃ dR el:Value,e=.returned (.agg #[dR,el])∧Kd.R (Kd.int .i64) 3 w' w.heap.size (fun _=>True) dR r1∧Kd.S (Kd.slice 3 (Kd.int .i64)) 22 w' w.heap.size (fun k_=>some k_ ≠ (dR:Value).ownBlock) el r2∧IsS65 w0 w' g am r3 r4∧Below w0.heap.size w0 w'∧KeepBut w w' g none:=by
 have eQ:=Try.underlying29;have aj:=qK hI;have HK:=qK (KeepBut.refl w g none);have HL:=qK hB.size;clear hI;have em:=qK hB.size;have HB:=qK hB;clear hB;have H:((spec_l1Cur_pick.f am bB bC 4).bind fun bE=>((spec_l1Cur_one.f am bE.2.1 bE.2.2 20).bind fun aR=>(if aR.1=true then ((spec_l1Cur_among.f am aR.2.1 aR.2.2 (([0,5,6,7]:List Int))).bind fun aE=>(spec_l1Cur_stats.j0 k aE.1 am aE.2.1 aE.2.2)) else (spec_l1Cur_stats.j0 k (wrap64 (1 + bE.1)) am aR.2.1 aR.2.2))))=some (r1,r2,r3,r4):=h;clear h;replace H:=Option.bind_eq_some_iff.mp H;obtain ⟨⟨bF,cj,ck⟩,en,H⟩:=H;replace H:((spec_l1Cur_one.f am cj ck 20).bind fun aR=>(if aR.1=true then ((spec_l1Cur_among.f am aR.2.1 aR.2.2 (([0,5,6,7]:List Int))).bind fun aE=>(spec_l1Cur_stats.j0 k aE.1 am aE.2.1 aE.2.2)) else (spec_l1Cur_stats.j0 k (wrap64 (1 + bF)) am aR.2.1 aR.2.2)))=some (r1,r2,r3,r4):=H;have A2:=qK en;clear en;replace H:=Option.bind_eq_some_iff.mp H;obtain ⟨⟨cl,bj,bk⟩,eo,H⟩:=H;replace H:(if cl=true then ((spec_l1Cur_among.f am bj bk (([0,5,6,7]:List Int))).bind fun aE=>(spec_l1Cur_stats.j0 k aE.1 am aE.2.1 aE.2.2)) else (spec_l1Cur_stats.j0 k (wrap64 (1 + bF)) am bj bk))=some (r1,r2,r3,r4):=H;have A3:=qK eo;clear eo;have dS:=qK H;clear H;go_enter Try.func41,Try.ntmps41
 go_upto_if 13 with (first|((with_reducible refine gate_dst (N:=2) rfl ?_);refine box_event ?hg (N:=2) ?hd (cs:=#[.slice none 0 0,.slice none 0 0]) (t:=29) ?hr ?_;(case hd=>rfl);(case hg=>rfl);(case hr=>(go_simp;try rfl));intro ak hg w5 hbox hb;have az:=qK (IsS65.below (aj.out) hb);have aA:=qK (KeepBut.trans (HK.out) (KeepBut.of_below hb g none) (.inl rfl));have aB:=qK (qT (HB.out) hb);have aC:=qK (hbox);have aD:=qK ((by rw [hg];exact (keep_size (w:=w) (g:=g) (row:=none) (HK.out)):w.heap.size≤ak));have aH:=qK ((Nat.le_trans em.out (by rw [hg];exact (keep_size (w:=w) (g:=g) (row:=none) (HK.out)):w.heap.size≤ak):w0.heap.size≤ak));have aI:=qK ((by rw [hg];exact Nat.ne_of_lt (IsS65.lt (show IsS65 w0 _ g am bB bC from aj.out)):g ≠ ak));have be:=qK aI.out.symm;clear aj HK HB;have aj:=az;have HK:=aA;have HB:=aB;have af:=aC;have ao:=aD;have aN:=aH;have ag:=aI;have aG:=be;clear az aA aB aC aD aH aI be;clear hb hbox hg)|((with_reducible refine gate_dst (N:=3) rfl ?_);refine box_event ?hg (N:=3) ?hd (cs:=#[.slice none 0 0,.slice none 0 0]) (t:=29) ?hr ?_;(case hd=>rfl);(case hg=>rfl);(case hr=>(go_simp;try rfl));intro al hg w6 hbox hb;have az:=qK (IsS65.below (by repeat (first|(with_reducible first|exact aj.out|apply IsS65.alloc|apply IsS65.drewN|apply IsS65.drew|apply IsS65.set_1|apply IsS65.set_2|refine IsS65.far ?_ ag.out _)|exact aj.out)) hb);have aA:=qK (qB (g:=ak) (o:=_) (by exact af.out) hb);have aB:=qK (KeepBut.trans (by repeat (first|(with_reducible first|exact HK.out|apply KeepBut.set_|apply keep_drewN|apply keep_drew|apply keep_alloc|refine keep_far ?_ ao.out _)|exact HK.out)) (KeepBut.of_below hb g none) (.inl rfl));have aC:=qK (qT (HB.out) hb);have aD:=qK (hbox);have aH:=qK ((by rw [hg];exact (keep_size (w:=w) (g:=g) (row:=none) (by repeat (first|(with_reducible first|exact HK.out|apply KeepBut.set_|apply keep_drewN|apply keep_drew|apply keep_alloc|refine keep_far ?_ ao.out _)|exact HK.out))):w.heap.size≤al));have aI:=qK ((Nat.le_trans em.out (by rw [hg];exact (keep_size (w:=w) (g:=g) (row:=none) (by repeat (first|(with_reducible first|exact HK.out|apply KeepBut.set_|apply keep_drewN|apply keep_drew|apply keep_alloc|refine keep_far ?_ ao.out _)|exact HK.out))):w.heap.size≤al):w0.heap.size≤al));have be:=qK ((by rw [hg];exact Nat.ne_of_lt (blk_lt (g:=ak) (o:=_) (by exact af.out)):ak ≠ al));have bG:=qK be.out.symm;have dT:=qK ((by rw [hg];exact Nat.ne_of_lt (IsS65.lt (show IsS65 w0 _ g am bB bC from by repeat (first|(with_reducible first|exact aj.out|apply IsS65.alloc|apply IsS65.drewN|apply IsS65.drew|apply IsS65.set_1|apply IsS65.set_2|refine IsS65.far ?_ ag.out _)|exact aj.out))):g ≠ al));have cA:=qK dT.out.symm;clear aj af HK HB;have aj:=az;have af:=aA;have HK:=aB;have HB:=aC;have ac:=aD;have ap:=aH;have aQ:=aI;have au:=be;have aK:=bG;have ah:=dT;have aw:=cA;clear az aA aB aC aD aH aI be bG dT cA hb hbox hg;have eR:=aK.out;have eS:=au.out;have eT:=aw.out;have eU:=ah.out;have bu:w6.cell? ⟨al,0,none⟩=some (.slice none 0 0):=(qC ac.out 0).trans rfl;have bv:w6.cell? ⟨al,1,none⟩=some (.slice none 0 0):=(qC ac.out 1).trans rfl;have bw:=qF ac.out 0;have bx:=qF ac.out 1)|((with_reducible refine gate_callee (f:=59) rfl ?_);refine goesL_ (some 10) rfl rfl Try.func59 (by kernel_rfl) rfl #[.pointer (some ⟨g,0,none⟩),.int .i64 4] rfl (by (try simp only [mT,mC,mN]);first|done|rfl|(simp only [lD,lT];rfl)) ?_;(with_reducible refine (spec_l1Cur_pick.calls g am bB bC 4 bF cj ck w0 _ ?side1 ?side2 A2.out).mono ?_);(case side1=>repeat (first|(with_reducible first|exact aj.out|apply IsS65.alloc|apply IsS65.drewN|apply IsS65.drew|apply IsS65.set_1|apply IsS65.set_2|refine IsS65.far ?_ ag.out _|refine IsS65.far ?_ ah.out _)|exact aj.out));(case side2=>repeat (first|(with_reducible first|exact HB.out|apply qA|apply qD|apply qO|refine qS ?_ (IsS65.ge aj.out)|refine qS ?_ aN.out|refine qS ?_ aQ.out)|exact HB.out));rintro e fl ⟨rfl,hi,hb,hk⟩;refine ⟨_,rfl,?_⟩;have az:=qK (KeepBut.blk hk (g':=ak) (o:=.cells #[.slice none 0 0,.slice none 0 0] 29 (0,0)) (by (with_reducible repeat (first|refine qN ?_ _|refine qW ?_|refine qL ?_ _));refine qR ?_ au.out _;(with_reducible repeat (first|refine qN ?_ _|refine qW ?_|refine qL ?_ _));refine qR ?_ au.out _;(with_reducible repeat (first|refine qN ?_ _|refine qW ?_|refine qL ?_ _));exact af.out) aG.out (by simp));have aA:=qK (KeepBut.blk hk (g':=al) (o:=.cells #[.slice none 0 0,.slice none 0 0] 29 (0,0)) (by (with_reducible repeat (first|refine qN ?_ _|refine qW ?_|refine qL ?_ _));refine qP (cs:=#[.slice none 0 0,.slice none 0 0]) ?_ 1 _ rfl;(with_reducible repeat (first|refine qN ?_ _|refine qW ?_|refine qL ?_ _));refine qP (cs:=#[.slice none 0 0,.slice none 0 0]) ?_ 0 _ rfl;(with_reducible repeat (first|refine qN ?_ _|refine qW ?_|refine qL ?_ _));exact ac.out) aw.out (by simp));have aB:=qK (KeepBut.trans (by repeat (first|(with_reducible first|exact HK.out|apply KeepBut.set_|apply keep_drewN|apply keep_drew|apply keep_alloc|refine keep_far ?_ ao.out _|refine keep_far ?_ ap.out _)|exact HK.out)) hk (.inl rfl));have aC:=qK (hb);have aD:=qK (hi);clear af ac HK HB aj;have af:=az;have ac:=aA;have HK:=aB;have HB:=aC;have aj:=aD;clear az aA aB aC aD;(try clear hb);(try clear hb2);(try clear hk);(try clear hi))|((with_reducible refine gate_callee (f:=60) rfl ?_);refine goesL_ (some 13) rfl rfl Try.func60 (by kernel_rfl) rfl #[.pointer (some ⟨g,0,none⟩),.int .i64 20] rfl (by (try simp only [mT,mC,mN]);first|done|rfl|(simp only [lD,lT];rfl)) ?_;(with_reducible refine (spec_l1Cur_one.calls g am cj ck 20 cl bj bk w0 _ ?side1 ?side2 A3.out).mono ?_);(case side1=>repeat (first|(with_reducible first|exact aj.out|apply IsS65.alloc|apply IsS65.drewN|apply IsS65.drew|apply IsS65.set_1|apply IsS65.set_2|refine IsS65.far ?_ ag.out _|refine IsS65.far ?_ ah.out _)|exact aj.out));(case side2=>repeat (first|(with_reducible first|exact HB.out|apply qA|apply qD|apply qO|refine qS ?_ (IsS65.ge aj.out)|refine qS ?_ aN.out|refine qS ?_ aQ.out)|exact HB.out));rintro e fm ⟨rfl,hi,hb,hk⟩;refine ⟨_,rfl,?_⟩;have az:=qK (KeepBut.blk hk (g':=ak) (o:=_) (by exact af.out) aG.out (by simp));have aA:=qK (KeepBut.blk hk (g':=al) (o:=_) (by exact ac.out) aw.out (by simp));have aB:=qK (KeepBut.trans (by repeat (first|(with_reducible first|exact HK.out|apply KeepBut.set_|apply keep_drewN|apply keep_drew|apply keep_alloc|refine keep_far ?_ ao.out _|refine keep_far ?_ ap.out _)|exact HK.out)) hk (.inl rfl));have aC:=qK (hb);have aD:=qK (hi);clear af ac HK HB aj;have af:=az;have ac:=aA;have HK:=aB;have HB:=aC;have aj:=aD;clear az aA aB aC aD;(try clear hb);(try clear hb2);(try clear hk);(try clear hi)))
 (try simp only [Act.put,List.setIfInBounds_toArray,List.set_cons_zero,List.set_cons_succ]);go_cut [4] (fun v4 wc=>∃ (kq:Nat) (aT:Int) (aq:Int) (ar:Int),v4=.int .i64 aT∧Aside0 (spec_l1Cur_stats.j0 kq aT am aq ar=some (r1,r2,r3,r4))∧Aside0 (kq≤k)∧Aside0 (wc.heap[ak]?=some (.cells #[(.slice none 0 0),(.slice none 0 0)] 29 (0,0)))∧Aside0 (wc.heap[al]?=some (.cells #[(.slice none 0 0),(.slice none 0 0)] 29 (0,0)))∧Aside0 (IsS65 w0 wc g am aq ar)∧Aside0 (KeepBut w wc g none)∧Aside0 (Below w0.heap.size w0 wc))
 case first =>
  have H:=dS.out;clear dS;by_cases c12:cl=true
  ·subst c12;have H1:((spec_l1Cur_among.f am bj bk (([0,5,6,7]:List Int))).bind fun aE=>(spec_l1Cur_stats.j0 k aE.1 am aE.2.1 aE.2.2))=some (r1,r2,r3,r4):=by rw [if_pos rfl] at H;exact H
   clear H;have H:=H1;clear H1;obtain ⟨cm,bm⟩:∃ y_:List Int,y_=(([0,5,6,7]:List Int)):=⟨_,rfl⟩;replace H:((spec_l1Cur_among.f am bj bk cm).bind fun aE=>(spec_l1Cur_stats.j0 k aE.1 am aE.2.1 aE.2.2))=some (r1,r2,r3,r4):=by first|(rw [bm];with_reducible exact H)|(have bd:=(Option.bind_some _ _).symm.trans H;rw [bm];with_reducible exact bd)|(have bd:=(Option.bind_some _ _).symm.trans H;with_reducible exact bd)|with_reducible exact H|(rw [bm];exact H)|exact H
   have cd:=qK bm;clear bm;replace H:=Option.bind_eq_some_iff.mp H;obtain ⟨⟨cn,co,cp⟩,cC,H⟩:=H;replace H:(spec_l1Cur_stats.j0 k cn am co cp)=some (r1,r2,r3,r4):=H;have eV:=qK cC;clear cC;have H':=qK H;clear H;go_wp2_with (first|((with_reducible refine gate_dst (N:=15) rfl ?_);refine Kd.R_lit (Kd.int .i64) _ 3 ?hg (N:=15) ?hd (xs:=([0,5,6,7]:List Int)) (inner:=[.int .i64 0,.int .i64 5,.int .i64 6,.int .i64 7]) (ok:=fun _=>True) (okp:=fun _=>True) ?hr ?hp (fun _ hk=>hk) trivial (Below.refl _ _) (Nat.le_refl _) (by simp) ?_;(case hd=>rfl);(case hg=>rfl);(case hr=>(go_simp;try rfl));(case hp=>exact (Reps.one (show Kd.M (Kd.int .i64) _ _ _ 0 [.int .i64 0] from rfl) (Reps.one (show Kd.M (Kd.int .i64) _ _ _ 5 [.int .i64 5] from rfl) (Reps.one (show Kd.M (Kd.int .i64) _ _ _ 6 [.int .i64 6] from rfl) (Reps.one (show Kd.M (Kd.int .i64) _ _ _ 7 [.int .i64 7] from rfl) (Reps.none _ _))))));intro eW fn bH hb hg_ hnew_;clear hg_ hnew_;(first|rw [← cd.out] at bH|(simp only [Int.reduceToNat] at bH;rw [← cd.out] at bH));have az:=qK (Kd.R_lower bH (keep_size (w:=w) (g:=g) (row:=none) (by repeat (first|(with_reducible first|exact HK.out|apply KeepBut.set_|apply keep_drewN|apply keep_drew|apply keep_alloc|refine keep_far ?_ ao.out _|refine keep_far ?_ ap.out _)|exact HK.out))));have aA:=qK (IsS65.below (by repeat (first|(with_reducible first|exact aj.out|apply IsS65.alloc|apply IsS65.drewN|apply IsS65.drew|apply IsS65.set_1|apply IsS65.set_2|refine IsS65.far ?_ ag.out _|refine IsS65.far ?_ ah.out _)|exact aj.out)) hb);have aB:=qK (qB (g:=ak) (o:=_) (by exact af.out) hb);have aC:=qK (qB (g:=al) (o:=_) (by exact ac.out) hb);have aD:=qK (KeepBut.trans (by repeat (first|(with_reducible first|exact HK.out|apply KeepBut.set_|apply keep_drewN|apply keep_drew|apply keep_alloc|refine keep_far ?_ ao.out _|refine keep_far ?_ ap.out _)|exact HK.out)) (KeepBut.of_below hb g none) (.inl rfl));have aH:=qK (qT (HB.out) hb);clear aj af ac HK HB;have bf:=az;have aj:=aA;have af:=aB;have ac:=aC;have HK:=aD;have HB:=aH;clear az aA aB aC aD aH hb bH;obtain ⟨dU,dV,dW⟩:=Kd.R_slice bf.out;subst dW)|((with_reducible refine gate_callee (f:=61) rfl ?_);refine goesL_ (some 16) rfl rfl Try.func61 (by kernel_rfl) rfl #[.pointer (some ⟨g,0,none⟩),.slice dU cm.length dV] rfl (by (try simp only [mT,mC,mN]);first|done|rfl|(simp only [lD,lT];rfl)) ?_;(with_reducible refine (spec_l1Cur_among.calls g am bj bk _ _ cm cn co cp w0 _ ?side1 ?side2 ?side3 ?side4 ?side5 eV.out).mono ?_);(case side1=>repeat (first|(with_reducible first|exact aj.out|apply IsS65.alloc|apply IsS65.drewN|apply IsS65.drew|apply IsS65.set_1|apply IsS65.set_2|refine IsS65.far ?_ ag.out _|refine IsS65.far ?_ ah.out _)|exact aj.out));(case side2=>repeat (first|(with_reducible first|exact HB.out|apply qA|apply qD|apply qO|refine qS ?_ (IsS65.ge aj.out)|refine qS ?_ aN.out|refine qS ?_ aQ.out)|exact HB.out));(case side3=>exact (Kd.R_reads' bf.out).2.2);(case side4=>exact (Kd.R_reads' bf.out).2.1);(case side5=>exact far_slice (IsS65.own_ne aj.out bf.out (by decide)));rintro e fo ⟨rfl,hi,hb,hk⟩;refine ⟨_,rfl,?_⟩;have az:=qK (KeepBut.blk hk (g':=ak) (o:=_) (by exact af.out) aG.out (by simp));have aA:=qK (KeepBut.blk hk (g':=al) (o:=_) (by exact ac.out) aw.out (by simp));have aB:=qK (Kd.R_mono (Kd.R_keep (IsS65.apart (show IsS65 w0 _ g am bj bk from by repeat (first|(with_reducible first|exact aj.out|apply IsS65.alloc|apply IsS65.drewN|apply IsS65.drew|apply IsS65.set_1|apply IsS65.set_2|refine IsS65.far ?_ ag.out _|refine IsS65.far ?_ ah.out _)|exact aj.out)) bf.out (by decide)) hk (fun _ h=>h.2)) (fun _ h=>h.1));have aC:=qK (KeepBut.trans (by repeat (first|(with_reducible first|exact HK.out|apply KeepBut.set_|apply keep_drewN|apply keep_drew|apply keep_alloc|refine keep_far ?_ ao.out _|refine keep_far ?_ ap.out _)|exact HK.out)) hk (.inl rfl));have aD:=qK (hb);have aH:=qK (hi);clear af ac bf HK HB aj;have af:=az;have ac:=aA;have bf:=aB;have HK:=aC;have HB:=aD;have aj:=aH;clear az aA aB aC aD aH;(try clear hb);(try clear hb2);(try clear hk);(try clear hi)))
   go_meet
   case rel=>exact ⟨_,(cn),(co),(cp),(by rfl),H',⟨by first|omega|exact Nat.le_refl _⟩,⟨af.out⟩,⟨ac.out⟩,⟨by repeat (first|(with_reducible first|exact aj.out|apply IsS65.alloc|apply IsS65.drewN|apply IsS65.drew|apply IsS65.set_1|apply IsS65.set_2|refine IsS65.far ?_ ag.out _|refine IsS65.far ?_ ah.out _)|exact aj.out)⟩,⟨by repeat (first|(with_reducible first|exact HK.out|apply KeepBut.set_|apply keep_drewN|apply keep_drew|apply keep_alloc|refine keep_far ?_ ao.out _|refine keep_far ?_ ap.out _)|exact HK.out)⟩,⟨HB.out⟩⟩
  ·replace c12:=Bool.eq_false_iff.mpr c12;subst c12;have H1:(spec_l1Cur_stats.j0 k (wrap64 (1 + bF)) am bj bk)=some (r1,r2,r3,r4):=by rw [if_neg (show ¬ (false=true) by decide)] at H;exact H
   clear H;have H:=H1;clear H1;have H':=qK H;clear H;go_wp2
   go_meet
   case rel=>exact ⟨_,(wrap64 (1 + bF)),(bj),(bk),(by rfl),H',⟨by first|omega|exact Nat.le_refl _⟩,⟨af.out⟩,⟨ac.out⟩,⟨by repeat (first|(with_reducible first|exact aj.out|apply IsS65.alloc|apply IsS65.drewN|apply IsS65.drew|apply IsS65.set_1|apply IsS65.set_2|refine IsS65.far ?_ ag.out _|refine IsS65.far ?_ ah.out _)|exact aj.out)⟩,⟨by repeat (first|(with_reducible first|exact HK.out|apply KeepBut.set_|apply keep_drewN|apply keep_drew|apply keep_alloc|refine keep_far ?_ ao.out _|refine keep_far ?_ ap.out _)|exact HK.out)⟩,⟨HB.out⟩⟩
 case rest =>
  clear dS;try clear c1
  try clear p2
  try clear c4
  try clear c5
  try clear c6
  try clear p6
  try clear c7
  try clear c8
  try clear c12
  try clear bu
  try clear bv
  try clear bw
  try clear bx
  obtain ⟨kq,aT,aq,ar,rfl,HA,dd,af,ac,aj,HK,HB⟩:=hcut;cases kq with
  | zero=>exact absurd HA.out (by simp [spec_l1Cur_stats.j0])
  | succ kj3 =>
   have H:=HA.out;clear HA;simp only [spec_l1Cur_stats.j0] at H;have H':=qK H;clear H;go_wp2
   go_loopg [5] kj3 (fun kq v5 w'=>∃ (aU:Int) (ax:Int) (ay:Int) (ae:List Int) (ai:List (List Int)) (av:Value) (an:Value),v5=.int .i64 aU∧Aside0 (spec_l1Cur_stats.l0 kq aT aU am ax ay ae ai=some (r1,r2,r3,r4))∧Aside0 (kq≤kj3)∧Aside0 (Kd.R (Kd.int .i64) 3 w' w.heap.size (fun _=>True) av ae)∧Aside0 (Kd.S (Kd.slice 3 (Kd.int .i64)) 22 w' w.heap.size (fun k_=>some k_ ≠ (av:Value).ownBlock) an ai)∧Aside0 (w'.heap[ak]?=some (.cells #[(.slice none 0 0),(.slice none 0 0)] 29 (0,0)))∧Aside0 (w'.heap[al]?=some (.cells #[av,an] 29 (0,0)))∧Aside0 (IsS65 w0 w' g am ax ay)∧Aside0 (KeepBut w w' g none)∧Aside0 (Below w0.heap.size w0 w'))
   case atStart=>exact ⟨(0),(aq),(ar),(([]:List Int)),(([]:List (List Int))),(.slice none 0 0),(.slice none 0 0),(by rfl),H',⟨Nat.le_refl _⟩,⟨by first|exact Kd.R_nil _ _ _ _ _|exact Kd.N_nil _ _ _ _ _|exact Kd.V_nil _ _ _ _ _|exact Kd.Q_nil _ _ _ _ _|exact Kd.S_nil _ _ _ _ _⟩,⟨by first|exact Kd.S_nil _ _ _ _ _|exact Kd.N_nil _ _ _ _ _|exact Kd.V_nil _ _ _ _ _|exact Kd.Q_nil _ _ _ _ _|exact Kd.R_nil _ _ _ _ _⟩,⟨af.out⟩,⟨ac.out⟩,⟨by repeat (first|(with_reducible first|exact aj.out|apply IsS65.alloc|apply IsS65.drewN|apply IsS65.drew|apply IsS65.set_1|apply IsS65.set_2|refine IsS65.far ?_ ag.out _|refine IsS65.far ?_ ah.out _)|exact aj.out)⟩,⟨by repeat (first|(with_reducible first|exact HK.out|apply KeepBut.set_|apply keep_drewN|apply keep_drew|apply keep_alloc|refine keep_far ?_ ao.out _|refine keep_far ?_ ap.out _)|exact HK.out)⟩,⟨HB.out⟩⟩
   case round =>
    clear H';try clear c1
    try clear p2
    try clear c4
    try clear c5
    try clear c6
    try clear p6
    try clear c7
    try clear c8
    try clear c12
    try clear bu
    try clear bv
    try clear bw
    try clear bx
    try clear p2
    try clear p6
    obtain ⟨aU,ax,ay,ae,ai,av,an,rfl,HA,de,aa,ab,af,ac,aj,HK,HB⟩:=hrel;cases gk with
    | zero=>exact absurd HA.out (by simp [spec_l1Cur_stats.l0])
    | succ k2 =>
     have H:=HA.out;clear HA;simp only [spec_l1Cur_stats.l0] at H;by_cases c18:aU < aT
     ·rw [if_pos c18] at H;have ce:decide (aU < aT)=true:=decide_eq_true c18;clear c18;replace H:=Option.bind_eq_some_iff.mp H;obtain ⟨⟨bI,bO,bP⟩,cD,H⟩:=H;replace H:(if ae.length < 17592186044416 then (spec_l1Cur_stats.l1 k2 aT aU ([]:List Int) 0 am bO bP (ae ++ [wrap64 (1 + bI)]) ai) else (none))=some (r1,r2,r3,r4):=H;have eX:=qK cD;clear cD;by_cases c20:ae.length < 17592186044416
      ·rw [if_pos c20] at H;have cE:=qK c20;clear c20;obtain ⟨aJ,bn⟩:∃ y_:List Int,y_=(ae ++ [wrap64 (1 + bI)]):=⟨_,rfl⟩;replace H:(spec_l1Cur_stats.l1 k2 aT aU ([]:List Int) 0 am bO bP aJ ai)=some (r1,r2,r3,r4):=by first|(rw [bn];with_reducible exact H)|(have bd:=(Option.bind_some _ _).symm.trans H;rw [bn];with_reducible exact bd)|(have bd:=(Option.bind_some _ _).symm.trans H;with_reducible exact bd)|with_reducible exact H|(rw [bn];exact H)|exact H
       have cF:=qK bn;clear bn;have H':=qK H;clear H;try go_wp2
       (try (rw [drewN_self wr];generalize hq_:World.drewN wr _=wr;have az:Aside0 (Kd.R (Kd.int .i64) 3 wr w.heap.size (fun _=>True) av ae):=⟨by rw [← hq_];exact aa.out⟩;have aA:Aside0 (Kd.S (Kd.slice 3 (Kd.int .i64)) 22 wr w.heap.size (fun k_=>some k_ ≠ (av:Value).ownBlock) an ai):=⟨by rw [← hq_];exact ab.out⟩;have aB:Aside0 (wr.heap[ak]?=some (.cells #[.slice none 0 0,.slice none 0 0] 29 (0,0))):=⟨by rw [← hq_];exact af.out⟩;have aC:Aside0 (wr.heap[al]?=some (.cells #[av,an] 29 (0,0))):=⟨by rw [← hq_];exact ac.out⟩;have aD:Aside0 (IsS65 w0 wr g am ax ay):=⟨by rw [← hq_];exact (by repeat (first|(with_reducible first|exact aj.out|apply IsS65.alloc|apply IsS65.drewN|apply IsS65.drew|apply IsS65.set_1|apply IsS65.set_2|refine IsS65.far ?_ ag.out _|refine IsS65.far ?_ ah.out _)|exact aj.out))⟩;have aH:Aside0 (KeepBut w wr g none):=⟨by rw [← hq_];exact (by repeat (first|(with_reducible first|exact HK.out|apply KeepBut.set_|apply keep_drewN|apply keep_drew|apply keep_alloc|refine keep_far ?_ ao.out _|refine keep_far ?_ ap.out _)|exact HK.out))⟩;have aI:Aside0 (Below w0.heap.size w0 wr):=⟨by rw [← hq_];exact (HB.out)⟩;clear aa ab af ac aj HK HB hq_;have aa:=az;have ab:=aA;have af:=aB;have ac:=aC;have aj:=aD;have HK:=aH;have HB:=aI;clear az aA aB aC aD aH aI));have az:=qK (rW aa.out);have aA:=qK (Kd.S_drew ab.out);have aB:=qK (qW af.out);have aC:=qK (qW ac.out);have aD:=qK (IsS65.drew aj.out);have aH:=qK (keep_drew HK.out);have aI:=qK (qO HB.out);clear aa ab af ac aj HK HB;have aa:=az;have ab:=aA;have af:=aB;have ac:=aC;have aj:=aD;have HK:=aH;have HB:=aI;clear az aA aB aC aD aH aI;refine start_ (n:=9) (S:=fun w'=>w'.cell? ⟨al,0,none⟩=some (av)∧w'.cell? ⟨al,1,none⟩=some (an)) (ds:=[8]) #[Z,Z,Z,Z,Z,Z,Z,Z,Z] (by kernel_rfl) rfl rfl ⟨(qC ac.out 0).trans rfl,(qC ac.out 1).trans rfl⟩ (fun hHeld=>?_);refine with_tabW spec_l1Cur_stats.tab8 spec_l1Cur_stats.bits8 (fun HT_ HW_=>?_);generalize wr.drew=w21 at aa ab af ac aj HK HB hHeld ⊢
       refine pure_ (i:=0) (N:=some 22) (v:=?_) (a':=?_) #[Y,Z,Z,Z,Z,Z,Z,Z,Z] rfl rfl (any_of HT_.out (by kernel_rfl)) (fun _ _ _ h=>h) (Or.inl ⟨by rfl,?_⟩) ?_ ?_;rotate_left
       ·intro w';go_simp;with_reducible rfl
       rotate_left
       ·simp only [Act.put,sIb,sZ,sS,i64_w,i32_w];rfl
       refine pure_ (i:=2) (N:=some 24) (v:=?_) (a':=?_) #[Y,Z,Y,Z,Z,Z,Z,Z,Z] rfl rfl (any_of HT_.out (by kernel_rfl)) (fun _ _ _ h=>h) (Or.inl ⟨by rfl,?_⟩) ?_ ?_;rotate_left
       ·intro w';go_simp;with_reducible rfl
       rotate_left
       ·simp only [Act.put,sIb,sZ,sS,i64_w,i32_w];rfl
       refine take_ (i:=1) (N:=some 23) (v:=?_) (a':=?_) #[Y,Y,Y,Z,Z,Z,Z,Z,Z] rfl rfl (take_ofW HT_.out HW_.out (by kernel_rfl)) (fun _ _ _ h=>h) (Or.inl ⟨by rfl,?_⟩) hHeld ?_ ?_;rotate_left
       ·rintro w' ⟨s0,s1⟩;go_simp;with_reducible rfl
       rotate_left
       ·simp only [Act.put,sIb,sZ,sS,i64_w,i32_w];rfl
       refine one_ (i:=3) (N:=some 25) #[Y,Y,Y,Y,Z,Z,Z,Z,Z] rfl rfl (one_of HT_.out (by kernel_rfl)) (by decide) (fun K hK=>?_);refine goes_ Try.func59 (by kernel_rfl) rfl #[.pointer (some ⟨g,0,none⟩),.int .i64 50] (by rfl) rfl rfl (by (try simp only [mT,mC,mN]);first|done|rfl|(simp only [lD,lT];rfl)) ?_;with_reducible refine (spec_l1Cur_pick.calls g am ax ay 50 bI bO bP w0 _ ?side1 ?side2 eX.out).mono ?_
       (case side1=>repeat (first|(with_reducible first|exact aj.out|apply IsS65.alloc|apply IsS65.drewN|apply IsS65.drew|apply IsS65.set_1|apply IsS65.set_2|refine IsS65.far ?_ ag.out _|refine IsS65.far ?_ ah.out _)|exact aj.out));(case side2=>repeat (first|(with_reducible first|exact HB.out|apply qA|apply qD|apply qO|refine qS ?_ (IsS65.ge aj.out)|refine qS ?_ aN.out|refine qS ?_ aQ.out)|exact HB.out));rintro e fp ⟨rfl,hi,hb,hk⟩;refine ⟨_,rfl,?_⟩;have az:=qK (Kd.R_mono (Kd.R_keep (IsS65.apart (show IsS65 w0 _ g am ax ay from by repeat (first|(with_reducible first|exact aj.out|apply IsS65.alloc|apply IsS65.drewN|apply IsS65.drew|apply IsS65.set_1|apply IsS65.set_2|refine IsS65.far ?_ ag.out _|refine IsS65.far ?_ ah.out _)|exact aj.out)) aa.out (by decide)) hk (fun _ h=>h.2)) (fun _ h=>h.1));have aA:=qK (Kd.S_mono (Kd.S_keep (IsS65.apartS (show IsS65 w0 _ g am ax ay from by repeat (first|(with_reducible first|exact aj.out|apply IsS65.alloc|apply IsS65.drewN|apply IsS65.drew|apply IsS65.set_1|apply IsS65.set_2|refine IsS65.far ?_ ag.out _|refine IsS65.far ?_ ah.out _)|exact aj.out)) ab.out (by decide)) hk (fun _ h=>h.2)) (fun _ h=>h.1));have aB:=qK (KeepBut.blk hk (g':=ak) (o:=_) (by exact af.out) aG.out (by simp));have aC:=qK (KeepBut.blk hk (g':=al) (o:=_) (by exact ac.out) aw.out (by simp));have aD:=qK (KeepBut.trans (by repeat (first|(with_reducible first|exact HK.out|apply KeepBut.set_|apply keep_drewN|apply keep_drew|apply keep_alloc|refine keep_far ?_ ao.out _|refine keep_far ?_ ap.out _)|exact HK.out)) hk (.inl rfl));have aH:=qK (hb);have aI:=qK (hi);clear aa ab af ac HK HB aj;have aa:=az;have ab:=aA;have af:=aB;have ac:=aC;have HK:=aD;have HB:=aH;have aj:=aI;clear az aA aB aC aD aH aI;(try clear hb);(try clear hb2);(try clear hk);(try clear hi);refine hK.out _ _ ⟨(qC ac.out 0).trans rfl,(qC ac.out 1).trans rfl⟩ (fun hHeld=>?_);clear hK K;refine norm_ (a':=?_) ?_ ?_;rotate_left
       ·show Act.put _ (some 25) _=_
        simp only [Act.put,sIb,sZ,sS,i64_w,i32_w];rfl
       refine pure_ (i:=4) (N:=some 26) (v:=?_) (a':=?_) #[Y,Y,Y,Y,Y,Z,Z,Z,Z] rfl rfl (any_of HT_.out (by kernel_rfl)) (fun _ _ _ h=>h) (Or.inl ⟨by rfl,?_⟩) ?_ ?_;rotate_left
       ·intro w';go_simp;with_reducible rfl
       rotate_left
       ·simp only [Act.put,sIb,sZ,sS,i64_w,i32_w];rfl
       refine one_ (i:=5) (N:=some 27) #[Y,Y,Y,Y,Y,Y,Z,Z,Z] rfl rfl (one_of HT_.out (by kernel_rfl)) (by decide) (fun K hK=>?_);refine value_ (w1:=?_) (v:=?_) (by rfl) rfl ?_ ?_;rotate_left 2
       ·go_simp;constructor
        ·rfl
        ·rfl
       refine hK.out _ _ ⟨(qC (qL ac.out _) 0).trans rfl,(qC (qL ac.out _) 1).trans rfl⟩ (fun hHeld=>?_);clear hK K;refine norm_ (a':=?_) ?_ ?_;rotate_left
       ·show Act.put _ (some 27) _=_
        simp only [Act.put,sIb,sZ,sS,i64_w,i32_w];rfl
       refine one_ (i:=6) (N:=some 28) #[Y,Y,Y,Y,Y,Y,Y,Z,Z] rfl rfl (one_of HT_.out (by kernel_rfl)) (by decide) (fun K hK=>?_);refine Kd.R_append_step (Kd.int .i64) w.heap.size (by rfl) (.tmp 23) (.tmp 27) 22 3 (.int .i64 0) 8 rfl Try.underlying22 info3 rfl (by decide) (by omega) av ae (wrap64 (1 + bI)) [.int .i64 (wrap64 (1 + bI))] (fun _=>True) (fun _=>False) rfl rfl ?aP (fun _ hk=>hk.elim) ?aF ?aO (Below.refl _ _) ?aS ?aL ?_;(case aP=>exact rfl);(case aF=>exact (fun _ _=>trivial));(case aO=>exact aa.out);(case aS=>exact (keep_size (w:=w) (g:=g) (row:=none) (by repeat (first|(with_reducible first|exact HK.out|apply KeepBut.set_|apply keep_drewN|apply keep_drew|apply keep_alloc|refine keep_far ?_ ao.out _|refine keep_far ?_ ap.out _)|exact HK.out))));(case aL=>have:=cE.out;omega);intro eY eZ ho hb hg hat;rw [← cF.out] at ho;have az:=qK (Kd.S_after (ok:=(fun _=>True)) (Kd.S_mono ab.out (fun _ hk=>⟨trivial,hk⟩)) hg hat);have aA:=qK (blk_grown (g:=ak) (o:=_) (by exact af.out) hg (Kd.R_ne aa.out af.out (by decide)));have aB:=qK (blk_grown (g:=al) (o:=_) (by exact ac.out) hg (Kd.R_ne aa.out ac.out (by decide)));have aC:=qK (IsS65.grown (by repeat (first|(with_reducible first|exact aj.out|apply IsS65.alloc|apply IsS65.drewN|apply IsS65.drew|apply IsS65.set_1|apply IsS65.set_2|refine IsS65.far ?_ ag.out _|refine IsS65.far ?_ ah.out _)|exact aj.out)) hg (IsS65.own_ne aj.out aa.out (by decide)));have aD:=qK (below_weaken (HB.out) HL.out hb);have aH:=qK (KeepBut.trans (by repeat (first|(with_reducible first|exact HK.out|apply KeepBut.set_|apply keep_drewN|apply keep_drew|apply keep_alloc|refine keep_far ?_ ao.out _|refine keep_far ?_ ap.out _)|exact HK.out)) (KeepBut.of_grown hg g) (Kd.R_base2 aa.out));have aI:=qK (ho);clear ab af ac aj HB HK aa;have ab:=az;have af:=aA;have ac:=aB;have aj:=aC;have HB:=aD;have HK:=aH;have cf:=aI;clear az aA aB aC aD aH aI ho hb hg hat;obtain ⟨aY,aZ,dX⟩:=Kd.R_slice cf.out;subst dX;refine hK.out _ _ ⟨(qC ac.out 0).trans rfl,(qC ac.out 1).trans rfl⟩ (fun hHeld=>?_);clear hK K;refine norm_ (a':=?_) ?_ ?_;rotate_left
       ·show Act.put _ (some 28) _=_
        simp only [Act.put,sIb,sZ,sS,i64_w,i32_w];rfl
       refine pure_ (i:=7) (N:=some 29) (v:=?_) (a':=?_) #[Y,Y,Y,Y,Y,Y,Y,Y,Z] rfl rfl (any_of HT_.out (by kernel_rfl)) (fun _ _ _ h=>h) (Or.inl ⟨by rfl,?_⟩) ?_ ?_;rotate_left
       ·intro w';go_simp;with_reducible rfl
       rotate_left
       ·simp only [Act.put,sIb,sZ,sS,i64_w,i32_w];rfl
       refine last_ (i:=8) (N:=none) #[Y,Y,Y,Y,Y,Y,Y,Y,Y] rfl rfl (one_of HT_.out (by kernel_rfl)) (by decide) (fun K hK=>?_);have fa:eZ.cell? ⟨al,0,none⟩=some (av):=(qC ac.out 0).trans rfl;have ep:=qF ac.out 0;have df:=au.out;have dg:=aK.out;refine skip_ (w1:=?_) (by rfl) rfl ?_ ?_;rotate_left
       ·go_simp;rfl
       refine hK.out _ _ ?_;clear hK K;refine done_ (done_of HT_.out (by kernel_rfl)) ?_;try go_wp2
       go_loopg [6,7] k2 (fun kq v6 v7 w'=>∃ (bc:List Int) (bi:Int) (aq:Int) (ar:Int),v7=.int .i64 bi∧Aside0 (spec_l1Cur_stats.l1 kq aT aU bc bi am aq ar aJ ai=some (r1,r2,r3,r4))∧Aside0 (kq≤k2)∧Aside0 (Kd.R (Kd.int .i64) 3 w' w.heap.size (fun k_=>some k_ ≠ ((.slice aY aJ.length aZ):Value).ownBlock) v6 bc)∧Aside0 (Kd.R (Kd.int .i64) 3 w' w.heap.size (fun k_=>some k_ ≠ (v6:Value).ownBlock) (.slice aY aJ.length aZ) aJ)∧Aside0 (Kd.S (Kd.slice 3 (Kd.int .i64)) 22 w' w.heap.size (fun k_=>some k_ ≠ (v6:Value).ownBlock∧some k_ ≠ ((.slice aY aJ.length aZ):Value).ownBlock) an ai)∧Aside0 (w'.heap[ak]?=some (.cells #[(.slice none 0 0),(.slice none 0 0)] 29 (0,0)))∧Aside0 (w'.heap[al]?=some (.cells #[(.slice aY aJ.length aZ),an] 29 (0,0)))∧Aside0 (IsS65 w0 w' g am aq ar)∧Aside0 (KeepBut w w' g none)∧Aside0 (Below w0.heap.size w0 w'))
       case atStart=>exact ⟨(([]:List Int)),(0),(bO),(bP),(by rfl),H',⟨Nat.le_refl _⟩,⟨by first|exact Kd.R_nil _ _ _ _ _|exact Kd.N_nil _ _ _ _ _|exact Kd.V_nil _ _ _ _ _|exact Kd.Q_nil _ _ _ _ _|exact Kd.S_nil _ _ _ _ _⟩,⟨Kd.R_mono (Kd.R_far (p:=⟨al,0,none⟩) (Kd.R_types cf.out ac.out (by decide)) (fun _ hk=>hk.2) (.slice aY aJ.length aZ)) (fun _ hk=>(by simp [Value.ownBlock]))⟩,⟨Kd.S_mono (Kd.S_far (p:=⟨al,0,none⟩) (Kd.S_types ab.out ac.out (by decide)) (fun _ hk=>hk.2) (.slice aY aJ.length aZ)) (fun _ hk=>⟨(by simp [Value.ownBlock]),hk.1.2⟩)⟩,⟨by (with_reducible repeat (first|refine qN ?_ _|refine qW ?_|refine qL ?_ _));refine qR ?_ au.out _;(with_reducible repeat (first|refine qN ?_ _|refine qW ?_|refine qL ?_ _));exact af.out⟩,⟨by (with_reducible repeat (first|refine qN ?_ _|refine qW ?_|refine qL ?_ _));refine qP (cs:=#[av,an]) ?_ 0 _ rfl;(with_reducible repeat (first|refine qN ?_ _|refine qW ?_|refine qL ?_ _));exact ac.out⟩,⟨by repeat (first|(with_reducible first|exact aj.out|apply IsS65.alloc|apply IsS65.drewN|apply IsS65.drew|apply IsS65.set_1|apply IsS65.set_2|refine IsS65.far ?_ ag.out _|refine IsS65.far ?_ ah.out _)|exact aj.out)⟩,⟨by repeat (first|(with_reducible first|exact HK.out|apply KeepBut.set_|apply keep_drewN|apply keep_drew|apply keep_alloc|refine keep_far ?_ ao.out _|refine keep_far ?_ ap.out _)|exact HK.out)⟩,⟨by repeat (first|(with_reducible first|exact HB.out|apply qA|apply qD|apply qO|refine qS ?_ (IsS65.ge aj.out)|refine qS ?_ aN.out|refine qS ?_ aQ.out)|exact HB.out)⟩⟩
       case round =>
        clear H';try clear c1
        try clear c2
        try clear p2
        try clear c4
        try clear c5
        try clear c6
        try clear p6
        try clear c7
        try clear c8
        try clear c12
        try clear c18
        try clear ce
        try clear c20
        try clear bu
        try clear bv
        try clear bw
        try clear bx
        try clear p2
        try clear p6
        obtain ⟨bc,bi,aq,ar,rfl,HA,dh,aV,aa,ab,af,ac,aj,HK,HB⟩:=hrel;cases gk with
        | zero=>exact absurd HA.out (by simp [spec_l1Cur_stats.l1])
        | succ k3 =>
         have H:=HA.out;clear HA;simp only [spec_l1Cur_stats.l1] at H;by_cases c26:bi < aU
         ·rw [if_pos c26] at H;have cG:decide (bi < aU)=true:=decide_eq_true c26;clear c26;obtain ⟨bD,bo⟩:∃ y_:List Int,y_=(([1,1,2,5,10]:List Int)):=⟨_,rfl⟩;replace H:((spec_l1Cur_among.f am aq ar bD).bind fun bJ=>(if bc.length < 17592186044416 then (spec_l1Cur_stats.l1 k3 aT aU (bc ++ [bJ.1]) (wrap64 (bi + 1)) am bJ.2.1 bJ.2.2 aJ ai) else (none)))=some (r1,r2,r3,r4):=by first|(rw [bo];with_reducible exact H)|(have bd:=(Option.bind_some _ _).symm.trans H;rw [bo];with_reducible exact bd)|(have bd:=(Option.bind_some _ _).symm.trans H;with_reducible exact bd)|with_reducible exact H|(rw [bo];exact H)|exact H
          have cg:=qK bo;clear bo;replace H:=Option.bind_eq_some_iff.mp H;obtain ⟨⟨bK,bQ,bR⟩,cH,H⟩:=H;replace H:(if bc.length < 17592186044416 then (spec_l1Cur_stats.l1 k3 aT aU (bc ++ [bK]) (wrap64 (bi + 1)) am bQ bR aJ ai) else (none))=some (r1,r2,r3,r4):=H;have fb:=qK cH;clear cH;by_cases c28:bc.length < 17592186044416
          ·rw [if_pos c28] at H;have cI:=qK c28;clear c28;obtain ⟨cJ,bp⟩:∃ y_:List Int,y_=(bc ++ [bK]):=⟨_,rfl⟩;replace H:(spec_l1Cur_stats.l1 k3 aT aU cJ (wrap64 (bi + 1)) am bQ bR aJ ai)=some (r1,r2,r3,r4):=by first|(rw [bp];with_reducible exact H)|(have bd:=(Option.bind_some _ _).symm.trans H;rw [bp];with_reducible exact bd)|(have bd:=(Option.bind_some _ _).symm.trans H;with_reducible exact bd)|with_reducible exact H|(rw [bp];exact H)|exact H
           have cK:=qK bp;clear bp;have H':=qK H;clear H;go_wp2_with (first|((with_reducible refine gate_dst (N:=37) rfl ?_);refine Kd.R_lit (Kd.int .i64) _ 3 ?hg (N:=37) ?hd (xs:=([1,1,2,5,10]:List Int)) (inner:=[.int .i64 1,.int .i64 1,.int .i64 2,.int .i64 5,.int .i64 10]) (ok:=fun _=>True) (okp:=fun _=>True) ?hr ?hp (fun _ hk=>hk) trivial (Below.refl _ _) (Nat.le_refl _) (by simp) ?_;(case hd=>rfl);(case hg=>rfl);(case hr=>(go_simp;try rfl));(case hp=>exact (Reps.one (show Kd.M (Kd.int .i64) _ _ _ 1 [.int .i64 1] from rfl) (Reps.one (show Kd.M (Kd.int .i64) _ _ _ 1 [.int .i64 1] from rfl) (Reps.one (show Kd.M (Kd.int .i64) _ _ _ 2 [.int .i64 2] from rfl) (Reps.one (show Kd.M (Kd.int .i64) _ _ _ 5 [.int .i64 5] from rfl) (Reps.one (show Kd.M (Kd.int .i64) _ _ _ 10 [.int .i64 10] from rfl) (Reps.none _ _)))))));intro fc fq bq hb hg_ hnew_;clear hg_ hnew_;(first|rw [← cg.out] at bq|(simp only [Int.reduceToNat] at bq;rw [← cg.out] at bq));have az:=qK (Kd.R_elder' aV.out (Kd.R_base bq) hb);have aA:=qK (Kd.R_elder' aa.out (Kd.R_base bq) hb);have aB:=qK (Kd.S_elder' ab.out (Kd.R_base bq) hb);have aC:=qK (Kd.R_lower (Kd.R_new' (Kd.R_new' bq (Kd.R_lt aV.out)) (Kd.R_lt aa.out)) (keep_size (w:=w) (g:=g) (row:=none) (by repeat (first|(with_reducible first|exact HK.out|apply KeepBut.set_|apply keep_drewN|apply keep_drew|apply keep_alloc|refine keep_far ?_ ao.out _|refine keep_far ?_ ap.out _)|exact HK.out))));have aD:=qK (qB (g:=ak) (o:=_) (by exact af.out) hb);have aH:=qK (qB (g:=al) (o:=_) (by exact ac.out) hb);have aI:=qK (IsS65.below (by repeat (first|(with_reducible first|exact aj.out|apply IsS65.alloc|apply IsS65.drewN|apply IsS65.drew|apply IsS65.set_1|apply IsS65.set_2|refine IsS65.far ?_ ag.out _|refine IsS65.far ?_ ah.out _)|exact aj.out)) hb);have be:=qK (KeepBut.trans (by repeat (first|(with_reducible first|exact HK.out|apply KeepBut.set_|apply keep_drewN|apply keep_drew|apply keep_alloc|refine keep_far ?_ ao.out _|refine keep_far ?_ ap.out _)|exact HK.out)) (KeepBut.of_below hb g none) (.inl rfl));have bG:=qK (qT (HB.out) hb);clear aV aa ab af ac aj HK HB;have aV:=az;have aa:=aA;have ab:=aB;have aW:=aC;have af:=aD;have ac:=aH;have aj:=aI;have HK:=be;have HB:=bG;clear az aA aB aC aD aH aI be bG hb bq;obtain ⟨bS,bT,dY⟩:=Kd.R_slice aW.out;subst dY)|((with_reducible refine gate_callee (f:=61) rfl ?_);refine goesL_ (some 38) rfl rfl Try.func61 (by kernel_rfl) rfl #[.pointer (some ⟨g,0,none⟩),.slice bS bD.length bT] rfl (by (try simp only [mT,mC,mN]);first|done|rfl|(simp only [lD,lT];rfl)) ?_;(with_reducible refine (spec_l1Cur_among.calls g am aq ar _ _ bD bK bQ bR w0 _ ?side1 ?side2 ?side3 ?side4 ?side5 fb.out).mono ?_);(case side1=>repeat (first|(with_reducible first|exact aj.out|apply IsS65.alloc|apply IsS65.drewN|apply IsS65.drew|apply IsS65.set_1|apply IsS65.set_2|refine IsS65.far ?_ ag.out _|refine IsS65.far ?_ ah.out _)|exact aj.out));(case side2=>repeat (first|(with_reducible first|exact HB.out|apply qA|apply qD|apply qO|refine qS ?_ (IsS65.ge aj.out)|refine qS ?_ aN.out|refine qS ?_ aQ.out)|exact HB.out));(case side3=>exact (Kd.R_reads' aW.out).2.2);(case side4=>exact (Kd.R_reads' aW.out).2.1);(case side5=>exact far_slice (IsS65.own_ne aj.out aW.out (by decide)));rintro e fr ⟨rfl,hi,hb,hk⟩;refine ⟨_,rfl,?_⟩;have az:=qK (Kd.R_mono (Kd.R_keep (IsS65.apart (show IsS65 w0 _ g am aq ar from by repeat (first|(with_reducible first|exact aj.out|apply IsS65.alloc|apply IsS65.drewN|apply IsS65.drew|apply IsS65.set_1|apply IsS65.set_2|refine IsS65.far ?_ ag.out _|refine IsS65.far ?_ ah.out _)|exact aj.out)) aV.out (by decide)) hk (fun _ h=>h.2)) (fun _ h=>h.1));have aA:=qK (Kd.R_mono (Kd.R_keep (IsS65.apart (show IsS65 w0 _ g am aq ar from by repeat (first|(with_reducible first|exact aj.out|apply IsS65.alloc|apply IsS65.drewN|apply IsS65.drew|apply IsS65.set_1|apply IsS65.set_2|refine IsS65.far ?_ ag.out _|refine IsS65.far ?_ ah.out _)|exact aj.out)) aa.out (by decide)) hk (fun _ h=>h.2)) (fun _ h=>h.1));have aB:=qK (Kd.S_mono (Kd.S_keep (IsS65.apartS (show IsS65 w0 _ g am aq ar from by repeat (first|(with_reducible first|exact aj.out|apply IsS65.alloc|apply IsS65.drewN|apply IsS65.drew|apply IsS65.set_1|apply IsS65.set_2|refine IsS65.far ?_ ag.out _|refine IsS65.far ?_ ah.out _)|exact aj.out)) ab.out (by decide)) hk (fun _ h=>h.2)) (fun _ h=>h.1));have aC:=qK (KeepBut.blk hk (g':=ak) (o:=_) (by exact af.out) aG.out (by simp));have aD:=qK (KeepBut.blk hk (g':=al) (o:=_) (by exact ac.out) aw.out (by simp));have aH:=qK (Kd.R_mono (Kd.R_keep (IsS65.apart (show IsS65 w0 _ g am aq ar from by repeat (first|(with_reducible first|exact aj.out|apply IsS65.alloc|apply IsS65.drewN|apply IsS65.drew|apply IsS65.set_1|apply IsS65.set_2|refine IsS65.far ?_ ag.out _|refine IsS65.far ?_ ah.out _)|exact aj.out)) aW.out (by decide)) hk (fun _ h=>h.2)) (fun _ h=>h.1));have aI:=qK (KeepBut.trans (by repeat (first|(with_reducible first|exact HK.out|apply KeepBut.set_|apply keep_drewN|apply keep_drew|apply keep_alloc|refine keep_far ?_ ao.out _|refine keep_far ?_ ap.out _)|exact HK.out)) hk (.inl rfl));have be:=qK (hb);have bG:=qK (hi);clear aV aa ab af ac aW HK HB aj;have aV:=az;have aa:=aA;have ab:=aB;have af:=aC;have ac:=aD;have aW:=aH;have HK:=aI;have HB:=be;have aj:=bG;clear az aA aB aC aD aH aI be bG;(try clear hb);(try clear hb2);(try clear hk);(try clear hi))|((with_reducible refine gate_builtin (b:=.append) (xs:=#[.tmp 35,.tmp 39]) rfl ?_);at_builtin;refine Kd.R_append (Kd.int .i64) w.heap.size rfl (.tmp 35) (.tmp 39) 22 3 (.int .i64 0) 8 rfl Try.underlying22 info3 rfl (by decide) (by omega) u6 bc bK [.int .i64 bK] (fun k_=>some k_ ≠ (.slice aY aJ.length aZ:Value).ownBlock∧some k_ ≠ (.slice bS bD.length bT:Value).ownBlock) (fun _=>False) rfl rfl ?aP (fun _ hk=>hk.elim) ?aF ?aO (Below.refl _ _) ?aS ?aL ?_;(case aP=>exact rfl);(case aF=>exact (fun k_ hk=>⟨Kd.fresh' (Kd.R_lt aa.out) k_ hk,Kd.fresh' (Kd.R_lt aW.out) k_ hk⟩));(case aO=>exact aV.out);(case aS=>exact (keep_size (w:=w) (g:=g) (row:=none) (by repeat (first|(with_reducible first|exact HK.out|apply KeepBut.set_|apply keep_drewN|apply keep_drew|apply keep_alloc|refine keep_far ?_ ao.out _|refine keep_far ?_ ap.out _)|exact HK.out))));(case aL=>have:=cI.out;omega);intro fd fs ho hb hg hat;rw [← cK.out] at ho;have az:=qK (Kd.R_after (ok:=(fun k_=>some k_ ≠ (.slice bS bD.length bT:Value).ownBlock)) (Kd.R_mono aa.out (fun _ hk=>⟨hk.2,hk.1⟩)) hg hat);have aA:=qK (Kd.S_after (ok:=(fun k_=>some k_ ≠ (.slice aY aJ.length aZ:Value).ownBlock∧some k_ ≠ (.slice bS bD.length bT:Value).ownBlock)) (Kd.S_mono ab.out (fun _ hk=>⟨⟨hk.1.2,hk.2⟩,hk.1.1⟩)) hg hat);have aB:=qK (blk_grown (g:=ak) (o:=_) (by exact af.out) hg (Kd.R_ne aV.out af.out (by decide)));have aC:=qK (blk_grown (g:=al) (o:=_) (by exact ac.out) hg (Kd.R_ne aV.out ac.out (by decide)));have aD:=qK (IsS65.grown (by repeat (first|(with_reducible first|exact aj.out|apply IsS65.alloc|apply IsS65.drewN|apply IsS65.drew|apply IsS65.set_1|apply IsS65.set_2|refine IsS65.far ?_ ag.out _|refine IsS65.far ?_ ah.out _)|exact aj.out)) hg (IsS65.own_ne aj.out aV.out (by decide)));have aH:=qK (Kd.R_after (ok:=(fun k_=>some k_ ≠ (.slice aY aJ.length aZ:Value).ownBlock)) (Kd.R_mono aW.out (fun _ hk=>⟨hk.2,hk.1.2⟩)) hg hat);have aI:=qK (below_weaken (HB.out) HL.out hb);have be:=qK (KeepBut.trans (by repeat (first|(with_reducible first|exact HK.out|apply KeepBut.set_|apply keep_drewN|apply keep_drew|apply keep_alloc|refine keep_far ?_ ao.out _|refine keep_far ?_ ap.out _)|exact HK.out)) (KeepBut.of_grown hg g) (Kd.R_base2 aV.out));have bG:=qK (ho);clear aa ab af ac aj aW HB HK aV;have aa:=az;have ab:=aA;have af:=aB;have ac:=aC;have aj:=aD;have aW:=aH;have HB:=aI;have HK:=be;have cM:=bG;clear az aA aB aC aD aH aI be bG;clear ho hb hg hat))
           go_roundg k3
           case measure=>have:=dd.out;have:=de.out;have:=dh.out;omega
           case rel=>exact ⟨(cJ),(wrap64 (bi + 1)),(bQ),(bR),(by rfl),H',⟨by have:=dd.out;have:=de.out;have:=dh.out;omega⟩,⟨Kd.R_mono cM.out (fun _ hk=>hk.1)⟩,⟨Kd.R_mono aa.out (fun _ hk=>hk.2)⟩,⟨Kd.S_mono ab.out (fun _ hk=>⟨hk.2,hk.1.1⟩)⟩,⟨af.out⟩,⟨ac.out⟩,⟨by repeat (first|(with_reducible first|exact aj.out|apply IsS65.alloc|apply IsS65.drewN|apply IsS65.drew|apply IsS65.set_1|apply IsS65.set_2|refine IsS65.far ?_ ag.out _|refine IsS65.far ?_ ah.out _)|exact aj.out)⟩,⟨by repeat (first|(with_reducible first|exact HK.out|apply KeepBut.set_|apply keep_drewN|apply keep_drew|apply keep_alloc|refine keep_far ?_ ao.out _|refine keep_far ?_ ap.out _)|exact HK.out)⟩,⟨HB.out⟩⟩
          ·rw [if_neg c28] at H;exact absurd H (by simp)
         ·rw [if_neg c26] at H;have cG:decide (bi < aU)=false:=decide_eq_false c26;clear c26;by_cases c34:ai.length < 5864062014805
          ·rw [if_pos c34] at H;have cO:=qK c34;clear c34;obtain ⟨bL,br⟩:∃ y_:List (List Int),y_=(ai ++ [bc]):=⟨_,rfl⟩;replace H:(spec_l1Cur_stats.l0 k3 aT (wrap64 (aU + 1)) am aq ar aJ bL)=some (r1,r2,r3,r4):=by first|(rw [br];with_reducible exact H)|(have bd:=(Option.bind_some _ _).symm.trans H;rw [br];with_reducible exact bd)|(have bd:=(Option.bind_some _ _).symm.trans H;with_reducible exact bd)|with_reducible exact H|(rw [br];exact H)|exact H
           have cP:=qK br;clear br;have H':=qK H;clear H;have eq:=aK.out;have er:=au.out;have es:=aw.out;have et:=ah.out;have di:wr.cell? ⟨al,0,none⟩=some (.slice aY aJ.length aZ):=(qC ac.out 0).trans rfl;have dj:wr.cell? ⟨al,1,none⟩=some (an):=(qC ac.out 1).trans rfl;have dk:=qF ac.out 0;have dl:=qF ac.out 1;obtain ⟨cQ,cR,dZ⟩:=Kd.R_slice aV.out;subst dZ;go_wp2_with (first|((with_reducible refine gate_builtin (b:=.append) (xs:=#[.tmp 42,.tmp 44]) rfl ?_);at_builtin;refine Kd.S_append (Kd.slice 3 (Kd.int .i64)) w.heap.size rfl (.tmp 42) (.tmp 44) 23 22 (.slice none 0 0) 24 rfl Try.underlying23 info22 rfl (by decide) (by omega) an ai bc [.slice cQ bc.length cR] (fun k_=>some k_ ≠ (.slice aY aJ.length aZ:Value).ownBlock) (fun k_=>some k_=(.slice cQ bc.length cR:Value).ownBlock) rfl rfl ?aP (fun k_ hk_=>((Kd.R_mono (ok':=fun k_=>((fun k_=>some k_ ≠ (.slice aY aJ.length aZ:Value).ownBlock)) k_∧some k_ ≠ (an:Value).ownBlock) (Kd.R_apart' (aV.out) (Kd.S_typed ab.out) (by decide)) (fun k_ hk=>⟨hk.1,hk.2⟩))).1 k_ hk_.symm) ?aF ?aO (Below.refl _ _) ?aS ?aL ?_;(case aP=>exact Kd.M_row (Kd.R_mono (Kd.R_tight rfl (Kd.R_mono (ok':=fun k_=>((fun k_=>some k_ ≠ (.slice aY aJ.length aZ:Value).ownBlock)) k_∧some k_ ≠ (an:Value).ownBlock) (Kd.R_apart' (aV.out) (Kd.S_typed ab.out) (by decide)) (fun k_ hk=>⟨hk.1,hk.2⟩))) (fun _ h_=>h_)));(case aF=>exact (fun k_ hk=>Kd.fresh' (Kd.R_lt aa.out) k_ hk));(case aO=>exact (Kd.S_mono ab.out (fun k_ hk=>⟨hk.2,fun e_=>hk.1 e_⟩)));(case aS=>exact (keep_size (w:=w) (g:=g) (row:=none) (by repeat (first|(with_reducible first|exact HK.out|apply KeepBut.set_|apply keep_drewN|apply keep_drew|apply keep_alloc|refine keep_far ?_ ao.out _|refine keep_far ?_ ap.out _)|exact HK.out))));(case aL=>have:=cO.out;omega);intro fe eu ho hb hg hat;rw [← cP.out] at ho;have az:=qK (Kd.R_over' aa.out (Kd.S_typed ab.out) (by decide) hg);have aA:=qK (blk_grown (g:=ak) (o:=_) (by exact af.out) hg (Kd.S_ne ab.out af.out (by decide)));have aB:=qK (blk_grown (g:=al) (o:=_) (by exact ac.out) hg (Kd.S_ne ab.out ac.out (by decide)));have aC:=qK (IsS65.grown (by repeat (first|(with_reducible first|exact aj.out|apply IsS65.alloc|apply IsS65.drewN|apply IsS65.drew|apply IsS65.set_1|apply IsS65.set_2|refine IsS65.far ?_ ag.out _|refine IsS65.far ?_ ah.out _)|exact aj.out)) hg (IsS65.own_neS aj.out ab.out (by decide)));have aD:=qK (below_weaken (HB.out) HL.out hb);have aH:=qK (KeepBut.trans (by repeat (first|(with_reducible first|exact HK.out|apply KeepBut.set_|apply keep_drewN|apply keep_drew|apply keep_alloc|refine keep_far ?_ ao.out _|refine keep_far ?_ ap.out _)|exact HK.out)) (KeepBut.of_grown hg g) (Kd.S_base2 ab.out));have aI:=qK (ho);clear aa af ac aj HB HK ab aV;have aa:=az;have af:=aA;have ac:=aB;have aj:=aC;have HB:=aD;have HK:=aH;have ch:=aI;clear az aA aB aC aD aH aI ho hb hg hat;obtain ⟨cq,cr,ea⟩:=Kd.S_slice ch.out;subst ea;have dm:eu.cell? ⟨al,0,none⟩=some (.slice aY aJ.length aZ):=(qC ac.out 0).trans rfl;have dn:eu.cell? ⟨al,1,none⟩=some (an):=(qC ac.out 1).trans rfl;have dp:=qF ac.out 0;have dq:=qF ac.out 1))
           go_roundg k3
           case measure=>have:=dd.out;have:=de.out;have:=dh.out;omega
           case rel=>exact ⟨(wrap64 (aU + 1)),(aq),(ar),(aJ),(bL),(.slice aY aJ.length aZ),(.slice cq bL.length cr),(by rfl),H',⟨by have:=dd.out;have:=de.out;have:=dh.out;omega⟩,⟨Kd.R_mono (Kd.R_far (p:=⟨al,1,none⟩) (Kd.R_types aa.out ac.out (by decide)) (fun _ hk=>hk.2) (.slice cq bL.length cr)) (fun _ hk=>trivial)⟩,⟨Kd.S_mono (Kd.S_far (p:=⟨al,1,none⟩) (Kd.S_types ch.out ac.out (by decide)) (fun _ hk=>hk.2) (.slice cq bL.length cr)) (fun _ hk=>hk.1)⟩,⟨by (with_reducible repeat (first|refine qN ?_ _|refine qW ?_|refine qL ?_ _));refine qR ?_ au.out _;(with_reducible repeat (first|refine qN ?_ _|refine qW ?_|refine qL ?_ _));exact af.out⟩,⟨by (with_reducible repeat (first|refine qN ?_ _|refine qW ?_|refine qL ?_ _));refine qP (cs:=#[.slice aY aJ.length aZ,an]) ?_ 1 _ rfl;(with_reducible repeat (first|refine qN ?_ _|refine qW ?_|refine qL ?_ _));exact ac.out⟩,⟨by repeat (first|(with_reducible first|exact aj.out|apply IsS65.alloc|apply IsS65.drewN|apply IsS65.drew|apply IsS65.set_1|apply IsS65.set_2|refine IsS65.far ?_ ag.out _|refine IsS65.far ?_ ah.out _)|exact aj.out)⟩,⟨by repeat (first|(with_reducible first|exact HK.out|apply KeepBut.set_|apply keep_drewN|apply keep_drew|apply keep_alloc|refine keep_far ?_ ao.out _|refine keep_far ?_ ap.out _)|exact HK.out)⟩,⟨by repeat (first|(with_reducible first|exact HB.out|apply qA|apply qD|apply qO|refine qS ?_ (IsS65.ge aj.out)|refine qS ?_ aN.out|refine qS ?_ aQ.out)|exact HB.out)⟩⟩
          ·rw [if_neg c34] at H;exact absurd H (by simp)
      ·rw [if_neg c20] at H;exact absurd H (by simp)
     ·rw [if_neg c18] at H;have ce:decide (aU < aT)=false:=decide_eq_false c18;clear c18;by_cases c42:aT > 0
      ·rw [if_pos c42] at H;have cS:decide (0 < aT)=true:=decide_eq_true c42;clear c42;replace H:=Option.bind_eq_some_iff.mp H;obtain ⟨⟨cT,bg,bh⟩,cU,H⟩:=H;replace H:(if cT=true then ((spec_l1Cur_among.f am bg bh (([0,50,51]:List Int))).bind fun aX=>(if 0 < (ae.length:Int) then (some ((ae.set (0:Int).toNat aX.1),ai,aX.2.1,aX.2.2)) else (none))) else (some (ae,ai,bg,bh)))=some (r1,r2,r3,r4):=H;have ev:=qK cU;clear cU;by_cases c44:cT=true
       ·subst c44;have H1:((spec_l1Cur_among.f am bg bh (([0,50,51]:List Int))).bind fun aX=>(if 0 < (ae.length:Int) then (some ((ae.set (0:Int).toNat aX.1),ai,aX.2.1,aX.2.2)) else (none)))=some (r1,r2,r3,r4):=by rw [if_pos rfl] at H;exact H
        clear H;have H:=H1;clear H1;obtain ⟨bz,bs⟩:∃ y_:List Int,y_=(([0,50,51]:List Int)):=⟨_,rfl⟩;replace H:((spec_l1Cur_among.f am bg bh bz).bind fun aX=>(if 0 < (ae.length:Int) then (some ((ae.set (0:Int).toNat aX.1),ai,aX.2.1,aX.2.2)) else (none)))=some (r1,r2,r3,r4):=by first|(rw [bs];with_reducible exact H)|(have bd:=(Option.bind_some _ _).symm.trans H;rw [bs];with_reducible exact bd)|(have bd:=(Option.bind_some _ _).symm.trans H;with_reducible exact bd)|with_reducible exact H|(rw [bs];exact H)|exact H
        have ci:=qK bs;clear bs;replace H:=Option.bind_eq_some_iff.mp H;obtain ⟨⟨bb,bU,bV⟩,cV,H⟩:=H;replace H:(if 0 < (ae.length:Int) then (some ((ae.set (0:Int).toNat bb),ai,bU,bV)) else (none))=some (r1,r2,r3,r4):=H;have ff:=qK cV;clear cV;by_cases c46:0 < (ae.length:Int)
        ·rw [if_pos c46] at H;have ew:decide (0 < (ae.length:Int))=true:=decide_eq_true c46;have ex:decide (0 < ae.length)=true:=decide_eq_true (by omega);clear c46;obtain ⟨cX,bt⟩:∃ y_:List Int,y_=(ae.set (0:Int).toNat bb):=⟨_,rfl⟩;replace H:(some (cX,ai,bU,bV))=some (r1,r2,r3,r4):=by first|(rw [bt];with_reducible exact H)|(have bd:=(Option.bind_some _ _).symm.trans H;rw [bt];with_reducible exact bd)|(have bd:=(Option.bind_some _ _).symm.trans H;with_reducible exact bd)|with_reducible exact H|(rw [bt];exact H)|exact H
         have cY:=qK bt;clear bt;simp only [Option.some.injEq,Prod.mk.injEq] at H;obtain ⟨rfl,rfl,rfl,rfl⟩:=H;try go_wp2_with (first|(go_at_call 60;(with_reducible refine (spec_l1Cur_one.calls g am ax ay 20 true bg bh w0 _ ?side1 ?side2 ev.out).mono ?_);(case side1=>repeat (first|(with_reducible first|exact aj.out|apply IsS65.alloc|apply IsS65.drewN|apply IsS65.drew|apply IsS65.set_1|apply IsS65.set_2|refine IsS65.far ?_ ag.out _|refine IsS65.far ?_ ah.out _)|exact aj.out));(case side2=>repeat (first|(with_reducible first|exact HB.out|apply qA|apply qD|apply qO|refine qS ?_ (IsS65.ge aj.out)|refine qS ?_ aN.out|refine qS ?_ aQ.out)|exact HB.out));rintro e fg ⟨rfl,hi,hb,hk⟩;have az:=qK (Kd.R_mono (Kd.R_keep (IsS65.apart (show IsS65 w0 _ g am ax ay from by repeat (first|(with_reducible first|exact aj.out|apply IsS65.alloc|apply IsS65.drewN|apply IsS65.drew|apply IsS65.set_1|apply IsS65.set_2|refine IsS65.far ?_ ag.out _|refine IsS65.far ?_ ah.out _)|exact aj.out)) aa.out (by decide)) hk (fun _ h=>h.2)) (fun _ h=>h.1));have aA:=qK (Kd.S_mono (Kd.S_keep (IsS65.apartS (show IsS65 w0 _ g am ax ay from by repeat (first|(with_reducible first|exact aj.out|apply IsS65.alloc|apply IsS65.drewN|apply IsS65.drew|apply IsS65.set_1|apply IsS65.set_2|refine IsS65.far ?_ ag.out _|refine IsS65.far ?_ ah.out _)|exact aj.out)) ab.out (by decide)) hk (fun _ h=>h.2)) (fun _ h=>h.1));have aB:=qK (KeepBut.blk hk (g':=ak) (o:=_) (by exact af.out) aG.out (by simp));have aC:=qK (KeepBut.blk hk (g':=al) (o:=_) (by exact ac.out) aw.out (by simp));have aD:=qK (KeepBut.trans (by repeat (first|(with_reducible first|exact HK.out|apply KeepBut.set_|apply keep_drewN|apply keep_drew|apply keep_alloc|refine keep_far ?_ ao.out _|refine keep_far ?_ ap.out _)|exact HK.out)) hk (.inl rfl));have aH:=qK (hb);have aI:=qK (hi);clear aa ab af ac HK HB aj;have aa:=az;have ab:=aA;have af:=aB;have ac:=aC;have HK:=aD;have HB:=aH;have aj:=aI;clear az aA aB aC aD aH aI;(try clear hb);(try clear hb2);(try clear hk);(try clear hi)))
         have az:=qK (rW aa.out);have aA:=qK (Kd.S_drew ab.out);have aB:=qK (qW af.out);have aC:=qK (qW ac.out);have aD:=qK (IsS65.drew aj.out);have aH:=qK (keep_drew HK.out);have aI:=qK (qO HB.out);clear aa ab af ac aj HK HB;have aa:=az;have ab:=aA;have af:=aB;have ac:=aC;have aj:=aD;have HK:=aH;have HB:=aI;clear az aA aB aC aD aH aI;refine start_ (n:=7) (S:=fun w'=>w'.cell? ⟨al,0,none⟩=some (av)∧w'.cell? ⟨al,1,none⟩=some (an)) (ds:=[6]) #[Z,Z,Z,Z,Z,Z,Z] (by kernel_rfl) rfl rfl ⟨(qC ac.out 0).trans rfl,(qC ac.out 1).trans rfl⟩ (fun hHeld=>?_);generalize fg.drew=w49 at aa ab af ac aj HK HB hHeld ⊢
         refine pure_ (i:=0) (N:=some 53) (v:=?_) (a':=?_) #[Y,Z,Z,Z,Z,Z,Z] rfl rfl (by kernel_rfl) (fun _ _ _ h=>h) (Or.inl ⟨by rfl,?_⟩) ?_ ?_;rotate_left
         ·intro w';go_simp;with_reducible rfl
         rotate_left
         ·simp only [Act.put,sIb,sZ,sS,i64_w,i32_w];rfl
         refine pure_ (i:=2) (N:=some 55) (v:=?_) (a':=?_) #[Y,Z,Y,Z,Z,Z,Z] rfl rfl (by kernel_rfl) (fun _ _ _ h=>h) (Or.inl ⟨by rfl,?_⟩) ?_ ?_;rotate_left
         ·intro w';go_simp;with_reducible rfl
         rotate_left
         ·simp only [Act.put,sIb,sZ,sS,i64_w,i32_w];rfl
         refine take_ (i:=1) (N:=some 54) (v:=?_) (a':=?_) #[Y,Y,Y,Z,Z,Z,Z] rfl rfl (by kernel_rfl) (fun _ _ _ h=>h) (Or.inl ⟨by rfl,?_⟩) hHeld ?_ ?_;rotate_left
         ·rintro w' ⟨s0,s1⟩;go_simp;with_reducible rfl
         rotate_left
         ·simp only [Act.put,sIb,sZ,sS,i64_w,i32_w];rfl
         refine one_ (i:=3) (N:=some 56) #[Y,Y,Y,Y,Z,Z,Z] rfl rfl (by kernel_rfl) (by decide) (fun K hK=>?_);refine Kd.R_lit_step (Kd.int .i64) _ 3 ?hg (N:=56) ?hd (xs:=([0,50,51]:List Int)) (inner:=[.int .i64 0,.int .i64 50,.int .i64 51]) (ok:=fun _=>True) (okp:=fun _=>True) ?hr ?hp (fun _ hk=>hk) trivial (Below.refl _ _) (Nat.le_refl _) (by simp) ?_;(case hd=>rfl);(case hg=>rfl);(case hr=>(go_simp;try rfl));(case hp=>exact (Reps.one (show Kd.M (Kd.int .i64) _ _ _ 0 [.int .i64 0] from rfl) (Reps.one (show Kd.M (Kd.int .i64) _ _ _ 50 [.int .i64 50] from rfl) (Reps.one (show Kd.M (Kd.int .i64) _ _ _ 51 [.int .i64 51] from rfl) (Reps.none _ _)))));intro fh ft bA hb hg_ hnew_;clear hg_ hnew_;(first|rw [← ci.out] at bA|(simp only [Int.reduceToNat] at bA;rw [← ci.out] at bA));have az:=qK (Kd.R_elder' aa.out (Kd.R_base bA) hb);have aA:=qK (Kd.S_elder' ab.out (Kd.R_base bA) hb);have aB:=qK (Kd.R_lower (Kd.R_new' bA (Kd.R_lt aa.out)) (keep_size (w:=w) (g:=g) (row:=none) (by repeat (first|(with_reducible first|exact HK.out|apply KeepBut.set_|apply keep_drewN|apply keep_drew|apply keep_alloc|refine keep_far ?_ ao.out _|refine keep_far ?_ ap.out _)|exact HK.out))));have aC:=qK (qB (g:=ak) (o:=_) (by exact af.out) hb);have aD:=qK (qB (g:=al) (o:=_) (by exact ac.out) hb);have aH:=qK (IsS65.below (by repeat (first|(with_reducible first|exact aj.out|apply IsS65.alloc|apply IsS65.drewN|apply IsS65.drew|apply IsS65.set_1|apply IsS65.set_2|refine IsS65.far ?_ ag.out _|refine IsS65.far ?_ ah.out _)|exact aj.out)) hb);have aI:=qK (KeepBut.trans (by repeat (first|(with_reducible first|exact HK.out|apply KeepBut.set_|apply keep_drewN|apply keep_drew|apply keep_alloc|refine keep_far ?_ ao.out _|refine keep_far ?_ ap.out _)|exact HK.out)) (KeepBut.of_below hb g none) (.inl rfl));have be:=qK (qT (HB.out) hb);clear aa ab af ac aj HK HB;have aa:=az;have ab:=aA;have ba:=aB;have af:=aC;have ac:=aD;have aj:=aH;have HK:=aI;have HB:=be;clear az aA aB aC aD aH aI be hb bA;obtain ⟨bW,bX,eb⟩:=Kd.R_slice ba.out;subst eb;refine hK.out _ _ ⟨(qC ac.out 0).trans rfl,(qC ac.out 1).trans rfl⟩ (fun hHeld=>?_);clear hK K;refine norm_ (a':=?_) ?_ ?_;rotate_left
         ·show Act.put _ (some 56) _=_
          simp only [Act.put,sIb,sZ,sS,i64_w,i32_w];rfl
         refine one_ (i:=4) (N:=some 57) #[Y,Y,Y,Y,Y,Z,Z] rfl rfl (by kernel_rfl) (by decide) (fun K hK=>?_);refine goes_ Try.func61 (by kernel_rfl) rfl #[.pointer (some ⟨g,0,none⟩),.slice bW bz.length bX] (by rfl) rfl rfl (by (try simp only [mT,mC,mN]);first|done|rfl|(simp only [lD,lT];rfl)) ?_;with_reducible refine (spec_l1Cur_among.calls g am bg bh _ _ bz bb bU bV w0 _ ?side1 ?side2 ?side3 ?side4 ?side5 ff.out).mono ?_
         (case side1=>repeat (first|(with_reducible first|exact aj.out|apply IsS65.alloc|apply IsS65.drewN|apply IsS65.drew|apply IsS65.set_1|apply IsS65.set_2|refine IsS65.far ?_ ag.out _|refine IsS65.far ?_ ah.out _)|exact aj.out));(case side2=>repeat (first|(with_reducible first|exact HB.out|apply qA|apply qD|apply qO|refine qS ?_ (IsS65.ge aj.out)|refine qS ?_ aN.out|refine qS ?_ aQ.out)|exact HB.out));(case side3=>exact (Kd.R_reads' ba.out).2.2);(case side4=>exact (Kd.R_reads' ba.out).2.1);(case side5=>exact far_slice (IsS65.own_ne aj.out ba.out (by decide)));rintro e bY ⟨rfl,hi,hb,hk⟩;refine ⟨_,rfl,?_⟩;have az:=qK (Kd.R_mono (Kd.R_keep (IsS65.apart (show IsS65 w0 _ g am bg bh from by repeat (first|(with_reducible first|exact aj.out|apply IsS65.alloc|apply IsS65.drewN|apply IsS65.drew|apply IsS65.set_1|apply IsS65.set_2|refine IsS65.far ?_ ag.out _|refine IsS65.far ?_ ah.out _)|exact aj.out)) aa.out (by decide)) hk (fun _ h=>h.2)) (fun _ h=>h.1));have aA:=qK (Kd.S_mono (Kd.S_keep (IsS65.apartS (show IsS65 w0 _ g am bg bh from by repeat (first|(with_reducible first|exact aj.out|apply IsS65.alloc|apply IsS65.drewN|apply IsS65.drew|apply IsS65.set_1|apply IsS65.set_2|refine IsS65.far ?_ ag.out _|refine IsS65.far ?_ ah.out _)|exact aj.out)) ab.out (by decide)) hk (fun _ h=>h.2)) (fun _ h=>h.1));have aB:=qK (KeepBut.blk hk (g':=ak) (o:=_) (by exact af.out) aG.out (by simp));have aC:=qK (KeepBut.blk hk (g':=al) (o:=_) (by exact ac.out) aw.out (by simp));have aD:=qK (Kd.R_mono (Kd.R_keep (IsS65.apart (show IsS65 w0 _ g am bg bh from by repeat (first|(with_reducible first|exact aj.out|apply IsS65.alloc|apply IsS65.drewN|apply IsS65.drew|apply IsS65.set_1|apply IsS65.set_2|refine IsS65.far ?_ ag.out _|refine IsS65.far ?_ ah.out _)|exact aj.out)) ba.out (by decide)) hk (fun _ h=>h.2)) (fun _ h=>h.1));have aH:=qK (KeepBut.trans (by repeat (first|(with_reducible first|exact HK.out|apply KeepBut.set_|apply keep_drewN|apply keep_drew|apply keep_alloc|refine keep_far ?_ ao.out _|refine keep_far ?_ ap.out _)|exact HK.out)) hk (.inl rfl));have aI:=qK (hb);have be:=qK (hi);clear aa ab af ac ba HK HB aj;have aa:=az;have ab:=aA;have af:=aB;have ac:=aC;have ba:=aD;have HK:=aH;have HB:=aI;have aj:=be;clear az aA aB aC aD aH aI be;(try clear hb);(try clear hb2);(try clear hk);(try clear hi);have ec:0≤(0:Int):=(by omega);have ed:(0:Int) < ((ae.length:Int):Int):=of_decide_eq_true (by assumption);have fi:(0 < ae.length)=True:=eq_true (by omega);obtain ⟨aM,bl,cZ,da,ee,fj,db⟩:=Kd.R_form aa.out (by omega);(first|cases cZ|(injection cZ with ea_ en_ ec_;(first|subst ea_|(injection ea_ with ea_;subst ea_));subst ec_;clear en_));have dc:=qK da;have fk:=qK db;clear da ee db;obtain ⟨bM,bN⟩:=Kd.R_celln 0 aa.out (0:Int) ec ed;(try rw [show ((0:Int)).toNat=0 from rfl] at bM);(try simp only [Nat.reduceMul,Nat.zero_mul,Nat.zero_add,Nat.reduceAdd] at bM);(try rw [show ((0:Int)).toNat=0 from rfl] at bN);(try simp only [Nat.reduceMul,Nat.zero_mul,Nat.zero_add,Nat.reduceAdd] at bN);replace ec:=eq_true ec;replace ed:=eq_true ed;have HN0_go47:=qK (show g ≠ aM from by have h_:=IsS65.own_ne aj.out aa.out (by decide);intro e_;exact h_ (by rw [e_];rfl));have ct:=Kd.R_putn aa.out (0:Int) bb;rw [← cY.out] at ct;have ef:=qK ct;clear ct;refine hK.out _ _ ⟨(qC ac.out 0).trans rfl,(qC ac.out 1).trans rfl⟩ (fun hHeld=>?_);clear hK K;refine norm_ (a':=?_) ?_ ?_;rotate_left
         ·show Act.put _ (some 57) _=_
          simp only [Act.put,sIb,sZ,sS,i64_w,i32_w];rfl
         refine pure_ (i:=5) (N:=some 58) (v:=?_) (a':=?_) #[Y,Y,Y,Y,Y,Y,Z] rfl rfl (by kernel_rfl) (fun _ _ _ h=>h) (Or.inl ⟨by rfl,?_⟩) ?_ ?_;rotate_left
         ·intro w';go_simp;with_reducible rfl
         rotate_left
         ·simp only [Act.put,sIb,sZ,sS,i64_w,i32_w];rfl
         refine last_ (i:=6) (N:=none) #[Y,Y,Y,Y,Y,Y,Y] rfl rfl (by kernel_rfl) (by decide) (fun K hK=>?_);refine skip_ (w1:=?_) (by rfl) rfl ?_ ?_;rotate_left
         ·go_simp;rfl
         refine hK.out _ _ ?_;clear hK K;refine done_ (by kernel_rfl) ?_;have az:Aside0 (Kd.R (Kd.int .i64) 3 (bY.setCell ⟨aM,0,none⟩ (.int .i64 bb)) w.heap.size (fun k_=>some k_ ≠ (.slice bW bz.length bX:Value).ownBlock) (.slice (some ⟨aM,0,none⟩) ae.length bl) cX):=⟨Kd.R_mono ef.out (fun _ hk=>hk.2)⟩;have aA:Aside0 (Kd.S (Kd.slice 3 (Kd.int .i64)) 22 (bY.setCell ⟨aM,0,none⟩ (.int .i64 bb)) w.heap.size (fun k_=>some k_ ≠ (.slice (some ⟨aM,0,none⟩) ae.length bl:Value).ownBlock∧some k_ ≠ (.slice bW bz.length bX:Value).ownBlock) an ai):=⟨Kd.S_mono (Kd.S_far (p:=⟨aM,0,none⟩) (Kd.S_mono ab.out (fun k_ hk=>(⟨hk,fun e_=>hk.1 (by rw [e_];rfl)⟩:_∧k_ ≠ aM))) (fun _ hk=>hk.2) (.int .i64 bb)) (fun _ hk=>⟨hk.1.1,hk.1.2⟩)⟩;have aB:Aside0 (Kd.R (Kd.int .i64) 3 (bY.setCell ⟨aM,0,none⟩ (.int .i64 bb)) w.heap.size (fun k_=>some k_ ≠ (.slice (some ⟨aM,0,none⟩) ae.length bl:Value).ownBlock) (.slice bW bz.length bX) bz):=⟨Kd.R_mono (Kd.R_far (p:=⟨aM,0,none⟩) (Kd.R_mono ba.out (fun k_ hk=>(⟨hk,fun e_=>hk.2 (by rw [e_];rfl)⟩:_∧k_ ≠ aM))) (fun _ hk=>hk.2) (.int .i64 bb)) (fun _ hk=>hk.1.2)⟩;have aC:Aside0 ((bY.setCell ⟨aM,0,none⟩ (.int .i64 bb)).heap[ak]?=some (.cells #[.slice none 0 0,.slice none 0 0] 29 (0,0))):=⟨by (with_reducible repeat (first|refine qN ?_ _|refine qW ?_|refine qL ?_ _));refine qR ?_ (by have h_:=Kd.R_ne aa.out af.out (by decide);intro e_;exact h_ (by rw [e_];rfl)) _;(with_reducible repeat (first|refine qN ?_ _|refine qW ?_|refine qL ?_ _));exact af.out⟩;have aD:Aside0 ((bY.setCell ⟨aM,0,none⟩ (.int .i64 bb)).heap[al]?=some (.cells #[.slice (some ⟨aM,0,none⟩) ae.length bl,an] 29 (0,0))):=⟨by (with_reducible repeat (first|refine qN ?_ _|refine qW ?_|refine qL ?_ _));refine qR ?_ (by have h_:=Kd.R_ne aa.out ac.out (by decide);intro e_;exact h_ (by rw [e_];rfl)) _;(with_reducible repeat (first|refine qN ?_ _|refine qW ?_|refine qL ?_ _));exact ac.out⟩;have aH:Aside0 (IsS65 w0 (bY.setCell ⟨aM,0,none⟩ (.int .i64 bb)) g am bU bV):=⟨by repeat (first|(with_reducible first|exact aj.out|apply IsS65.alloc|apply IsS65.drewN|apply IsS65.drew|apply IsS65.set_1|apply IsS65.set_2|refine IsS65.far ?_ HN0_go47.out _|refine IsS65.far ?_ ag.out _|refine IsS65.far ?_ ah.out _)|exact aj.out)⟩;have aI:Aside0 (KeepBut w (bY.setCell ⟨aM,0,none⟩ (.int .i64 bb)) g none):=⟨by repeat (first|(with_reducible first|exact HK.out|apply KeepBut.set_|apply keep_drewN|apply keep_drew|apply keep_alloc|refine keep_far ?_ dc.out _|refine keep_far ?_ ao.out _|refine keep_far ?_ ap.out _)|exact HK.out)⟩;have be:Aside0 (Below w0.heap.size w0 (bY.setCell ⟨aM,0,none⟩ (.int .i64 bb))):=⟨by repeat (first|(with_reducible first|exact HB.out|apply qA|apply qD|apply qO|refine qS ?_ (Nat.le_trans HL.out dc.out)|refine qS ?_ (IsS65.ge aj.out)|refine qS ?_ aN.out|refine qS ?_ aQ.out)|exact HB.out)⟩;(try clear aa);(try clear ab);(try clear ba);(try clear af);(try clear ac);(try clear aj);(try clear HK);(try clear HB);generalize (bY.setCell ⟨aM,0,none⟩ (.int .i64 bb))=w55 at az aA aB aC aD aH aI be ⊢
         have aa:=az;have ab:=aA;have ba:=aB;have af:=aC;have ac:=aD;have aj:=aH;have HK:=aI;have HB:=be;clear az aA aB aC aD aH aI be;have ey:=aK.out;have ez:=au.out;have eA:=aw.out;have eB:=ah.out;have dr:w55.cell? ⟨al,0,none⟩=some (.slice (some ⟨aM,0,none⟩) ae.length bl):=(qC ac.out 0).trans rfl;have dt:w55.cell? ⟨al,1,none⟩=some (an):=(qC ac.out 1).trans rfl;have du:=qF ac.out 0;have dv:=qF ac.out 1;have eC:=aG.out;have eD:=ag.out;have dw:w55.cell? ⟨ak,0,none⟩=some (.slice none 0 0):=(qC af.out 0).trans rfl;have dx:w55.cell? ⟨ak,1,none⟩=some (.slice none 0 0):=(qC af.out 1).trans rfl;have dy:=qF af.out 0;have dz:=qF af.out 1;obtain ⟨cu,cv,eg⟩:=Kd.S_slice ab.out;subst eg;try go_wp2
         refine bodyPost_ret (results_cell_row rfl _ _ ak 29 #[.slice (some ⟨aM,0,none⟩) ae.length bl,.slice cu ai.length cv] (0,0) _ rfl (by (with_reducible repeat (first|refine qN ?_ _|refine qW ?_|refine qL ?_ _));refine qP (cs:=#[.slice (some ⟨aM,0,none⟩) ae.length bl,.slice none 0 0]) ?_ 1 _ rfl;(with_reducible repeat (first|refine qN ?_ _|refine qW ?_|refine qL ?_ _));refine qP (cs:=#[.slice none 0 0,.slice none 0 0]) ?_ 0 _ rfl;(with_reducible repeat (first|refine qN ?_ _|refine qW ?_|refine qL ?_ _));exact af.out) Try.underlying29 rfl (by kernel_rfl)) rfl ?_;exact ⟨_,_,by rfl,Kd.R_mono (Kd.R_far (p:=⟨ak,1,none⟩) (Kd.R_far (p:=⟨ak,0,none⟩) (Kd.R_types aa.out af.out (by decide)) (fun _ hk=>hk.2) (.slice (some ⟨aM,0,none⟩) ae.length bl)) (fun _ hk=>hk.2) (.slice cu ai.length cv)) (fun _ hk=>trivial),Kd.S_mono (Kd.S_far (p:=⟨ak,1,none⟩) (Kd.S_far (p:=⟨ak,0,none⟩) (Kd.S_types ab.out af.out (by decide)) (fun _ hk=>hk.2) (.slice (some ⟨aM,0,none⟩) ae.length bl)) (fun _ hk=>hk.2) (.slice cu ai.length cv)) (fun _ hk=>hk.1.1),by repeat (first|(with_reducible first|exact aj.out|apply IsS65.alloc|apply IsS65.drewN|apply IsS65.drew|apply IsS65.set_1|apply IsS65.set_2|refine IsS65.far ?_ ag.out _|refine IsS65.far ?_ ah.out _)|exact aj.out),by repeat (first|(with_reducible first|exact HB.out|apply qA|apply qD|apply qO|refine qS ?_ (IsS65.ge aj.out)|refine qS ?_ aN.out|refine qS ?_ aQ.out)|exact HB.out),by repeat (first|(with_reducible first|exact HK.out|apply KeepBut.set_|apply keep_drewN|apply keep_drew|apply keep_alloc|refine keep_far ?_ ao.out _|refine keep_far ?_ ap.out _)|exact HK.out)⟩
        ·rw [if_neg c46] at H;exact absurd H (by simp)
       ·replace c44:=Bool.eq_false_iff.mpr c44;subst c44;have H1:(some (ae,ai,bg,bh))=some (r1,r2,r3,r4):=by rw [if_neg (show ¬ (false=true) by decide)] at H;exact H
        clear H;have H:=H1;clear H1;simp only [Option.some.injEq,Prod.mk.injEq] at H;obtain ⟨rfl,rfl,rfl,rfl⟩:=H;go_wp2_with (first|(go_at_call 60;(with_reducible refine (spec_l1Cur_one.calls g am ax ay 20 false bg bh w0 _ ?side1 ?side2 ev.out).mono ?_);(case side1=>repeat (first|(with_reducible first|exact aj.out|apply IsS65.alloc|apply IsS65.drewN|apply IsS65.drew|apply IsS65.set_1|apply IsS65.set_2|refine IsS65.far ?_ ag.out _|refine IsS65.far ?_ ah.out _)|exact aj.out));(case side2=>repeat (first|(with_reducible first|exact HB.out|apply qA|apply qD|apply qO|refine qS ?_ (IsS65.ge aj.out)|refine qS ?_ aN.out|refine qS ?_ aQ.out)|exact HB.out));rintro e dA ⟨rfl,hi,hb,hk⟩;have az:=qK (Kd.R_mono (Kd.R_keep (IsS65.apart (show IsS65 w0 _ g am ax ay from by repeat (first|(with_reducible first|exact aj.out|apply IsS65.alloc|apply IsS65.drewN|apply IsS65.drew|apply IsS65.set_1|apply IsS65.set_2|refine IsS65.far ?_ ag.out _|refine IsS65.far ?_ ah.out _)|exact aj.out)) aa.out (by decide)) hk (fun _ h=>h.2)) (fun _ h=>h.1));have aA:=qK (Kd.S_mono (Kd.S_keep (IsS65.apartS (show IsS65 w0 _ g am ax ay from by repeat (first|(with_reducible first|exact aj.out|apply IsS65.alloc|apply IsS65.drewN|apply IsS65.drew|apply IsS65.set_1|apply IsS65.set_2|refine IsS65.far ?_ ag.out _|refine IsS65.far ?_ ah.out _)|exact aj.out)) ab.out (by decide)) hk (fun _ h=>h.2)) (fun _ h=>h.1));have aB:=qK (KeepBut.blk hk (g':=ak) (o:=_) (by exact af.out) aG.out (by simp));have aC:=qK (KeepBut.blk hk (g':=al) (o:=_) (by exact ac.out) aw.out (by simp));have aD:=qK (KeepBut.trans (by repeat (first|(with_reducible first|exact HK.out|apply KeepBut.set_|apply keep_drewN|apply keep_drew|apply keep_alloc|refine keep_far ?_ ao.out _|refine keep_far ?_ ap.out _)|exact HK.out)) hk (.inl rfl));have aH:=qK (hb);have aI:=qK (hi);clear aa ab af ac HK HB aj;have aa:=az;have ab:=aA;have af:=aB;have ac:=aC;have HK:=aD;have HB:=aH;have aj:=aI;clear az aA aB aC aD aH aI;(try clear hb);(try clear hb2);(try clear hk);(try clear hi);have eE:=aK.out;have eF:=au.out;have eG:=aw.out;have eH:=ah.out;have dB:dA.cell? ⟨al,0,none⟩=some (av):=(qC ac.out 0).trans rfl;have dC:dA.cell? ⟨al,1,none⟩=some (an):=(qC ac.out 1).trans rfl;have dD:=qF ac.out 0;have dE:=qF ac.out 1;obtain ⟨bZ,ca,eh⟩:=Kd.R_slice aa.out;subst eh;have eI:=aG.out;have eJ:=ag.out;have dF:dA.cell? ⟨ak,0,none⟩=some (.slice none 0 0):=(qC af.out 0).trans rfl;have dG:dA.cell? ⟨ak,1,none⟩=some (.slice none 0 0):=(qC af.out 1).trans rfl;have dH:=qF af.out 0;have dI:=qF af.out 1;obtain ⟨cw,cx,ei⟩:=Kd.S_slice ab.out;subst ei))
        refine bodyPost_ret (results_cell_row rfl _ _ ak 29 #[.slice bZ ae.length ca,.slice cw ai.length cx] (0,0) _ rfl (by (with_reducible repeat (first|refine qN ?_ _|refine qW ?_|refine qL ?_ _));refine qP (cs:=#[.slice bZ ae.length ca,.slice none 0 0]) ?_ 1 _ rfl;(with_reducible repeat (first|refine qN ?_ _|refine qW ?_|refine qL ?_ _));refine qP (cs:=#[.slice none 0 0,.slice none 0 0]) ?_ 0 _ rfl;(with_reducible repeat (first|refine qN ?_ _|refine qW ?_|refine qL ?_ _));exact af.out) Try.underlying29 rfl (by kernel_rfl)) rfl ?_;exact ⟨_,_,by rfl,Kd.R_mono (Kd.R_far (p:=⟨ak,1,none⟩) (Kd.R_far (p:=⟨ak,0,none⟩) (Kd.R_types aa.out af.out (by decide)) (fun _ hk=>hk.2) (.slice bZ ae.length ca)) (fun _ hk=>hk.2) (.slice cw ai.length cx)) (fun _ hk=>trivial),Kd.S_mono (Kd.S_far (p:=⟨ak,1,none⟩) (Kd.S_far (p:=⟨ak,0,none⟩) (Kd.S_types ab.out af.out (by decide)) (fun _ hk=>hk.2) (.slice bZ ae.length ca)) (fun _ hk=>hk.2) (.slice cw ai.length cx)) (fun _ hk=>hk.1),by repeat (first|(with_reducible first|exact aj.out|apply IsS65.alloc|apply IsS65.drewN|apply IsS65.drew|apply IsS65.set_1|apply IsS65.set_2|refine IsS65.far ?_ ag.out _|refine IsS65.far ?_ ah.out _)|exact aj.out),by repeat (first|(with_reducible first|exact HB.out|apply qA|apply qD|apply qO|refine qS ?_ (IsS65.ge aj.out)|refine qS ?_ aN.out|refine qS ?_ aQ.out)|exact HB.out),by repeat (first|(with_reducible first|exact HK.out|apply KeepBut.set_|apply keep_drewN|apply keep_drew|apply keep_alloc|refine keep_far ?_ ao.out _|refine keep_far ?_ ap.out _)|exact HK.out)⟩
      ·rw [if_neg c42] at H;have cS:decide (0 < aT)=false:=decide_eq_false c42;clear c42;simp only [Option.some.injEq,Prod.mk.injEq] at H;obtain ⟨rfl,rfl,rfl,rfl⟩:=H;have eK:=aK.out;have eL:=au.out;have eM:=aw.out;have eN:=ah.out;have dJ:wr.cell? ⟨al,0,none⟩=some (av):=(qC ac.out 0).trans rfl;have dK:wr.cell? ⟨al,1,none⟩=some (an):=(qC ac.out 1).trans rfl;have dL:=qF ac.out 0;have dM:=qF ac.out 1;obtain ⟨cb,cc,ej⟩:=Kd.R_slice aa.out;subst ej;have eO:=aG.out;have eP:=ag.out;have dN:wr.cell? ⟨ak,0,none⟩=some (.slice none 0 0):=(qC af.out 0).trans rfl;have dO:wr.cell? ⟨ak,1,none⟩=some (.slice none 0 0):=(qC af.out 1).trans rfl;have dP:=qF af.out 0;have dQ:=qF af.out 1;obtain ⟨cy,cz,ek⟩:=Kd.S_slice ab.out;subst ek;go_wp2
       refine bodyPost_ret (results_cell_row rfl _ _ ak 29 #[.slice cb ae.length cc,.slice cy ai.length cz] (0,0) _ rfl (by (with_reducible repeat (first|refine qN ?_ _|refine qW ?_|refine qL ?_ _));refine qP (cs:=#[.slice cb ae.length cc,.slice none 0 0]) ?_ 1 _ rfl;(with_reducible repeat (first|refine qN ?_ _|refine qW ?_|refine qL ?_ _));refine qP (cs:=#[.slice none 0 0,.slice none 0 0]) ?_ 0 _ rfl;(with_reducible repeat (first|refine qN ?_ _|refine qW ?_|refine qL ?_ _));exact af.out) Try.underlying29 rfl (by kernel_rfl)) rfl ?_;exact ⟨_,_,by rfl,Kd.R_mono (Kd.R_far (p:=⟨ak,1,none⟩) (Kd.R_far (p:=⟨ak,0,none⟩) (Kd.R_types aa.out af.out (by decide)) (fun _ hk=>hk.2) (.slice cb ae.length cc)) (fun _ hk=>hk.2) (.slice cy ai.length cz)) (fun _ hk=>trivial),Kd.S_mono (Kd.S_far (p:=⟨ak,1,none⟩) (Kd.S_far (p:=⟨ak,0,none⟩) (Kd.S_types ab.out af.out (by decide)) (fun _ hk=>hk.2) (.slice cb ae.length cc)) (fun _ hk=>hk.2) (.slice cy ai.length cz)) (fun _ hk=>hk.1),by repeat (first|(with_reducible first|exact aj.out|apply IsS65.alloc|apply IsS65.drewN|apply IsS65.drew|apply IsS65.set_1|apply IsS65.set_2|refine IsS65.far ?_ ag.out _|refine IsS65.far ?_ ah.out _)|exact aj.out),by repeat (first|(with_reducible first|exact HB.out|apply qA|apply qD|apply qO|refine qS ?_ (IsS65.ge aj.out)|refine qS ?_ aN.out|refine qS ?_ aQ.out)|exact HB.out),by repeat (first|(with_reducible first|exact HK.out|apply KeepBut.set_|apply keep_drewN|apply keep_drew|apply keep_alloc|refine keep_far ?_ ao.out _|refine keep_far ?_ ap.out _)|exact HK.out)⟩

/-! ### spec_l1Cur_order: function 42 -/
mutual
def spec_l1Cur_order.l0 : Nat→Int→List Int→Int→List Int→Int→Int→Option (List Int × Int × Int)
 | 0,_,_,_,_,_,_=>none
 | k + 1,x1,x5,x7,x1000,x1001,x1002=>if x7 < x1 then (if x5.length < 17592186044416 then (spec_l1Cur_order.l0 k x1 (x5 ++ [x7]) (wrap64 (x7 + 1)) x1000 x1001 x1002) else (none)) else (spec_l1Cur_order.l1 k x1 x5 ([]:List Int) x1000 x1001 x1002)
def spec_l1Cur_order.l1 : Nat→Int→List Int→List Int→List Int→Int→Int→Option (List Int × Int × Int)
 | 0,_,_,_,_,_,_=>none
 | k + 1,x1,x5,x6,x1000,x1001,x1002=>if (x5.length:Int) > 0 then ((spec_l1Cur_pick.f x1000 x1001 x1002 (x5.length:Int)).bind fun bt328=>(if 0≤bt328.1 then (if bt328.1 < (x5.length:Int) then (if x6.length < 17592186044416 then ((spec_l11Without.f k x5 (rd x5 bt328.1)).bind fun t335=>(spec_l1Cur_order.l1 k x1 t335 (x6 ++ [rd x5 bt328.1]) x1000 bt328.2.1 bt328.2.2)) else (none)) else (none)) else (none))) else (if x1 > 0 then ((spec_l1Cur_one.f x1000 x1001 x1002 20).bind fun bt338=>(if bt338.1=true then ((spec_l1Cur_pick.f x1000 bt338.2.1 bt338.2.2 (wrap64 (x1 + 1))).bind fun bt341=>(if 0 < (x6.length:Int) then (some ((x6.set (0:Int).toNat bt341.1),bt341.2.1,bt341.2.2)) else (none))) else (some (x6,bt338.2.1,bt338.2.2)))) else (some (x6,x1001,x1002)))
end
def spec_l1Cur_order.f (k:Nat) (s0_0:List Int) (s0_1:Int) (s0_2:Int) (a1:Int):Option (List Int × Int × Int):=spec_l1Cur_order.l0 k a1 ([]:List Int) 0 s0_0 s0_1 s0_2
theorem spec_l1Cur_order.mono_l : ∀ k,(∀ y0 y1 y2 y3 y4 y5,LeO (spec_l1Cur_order.l0 k y0 y1 y2 y3 y4 y5) (spec_l1Cur_order.l0 (k + 1) y0 y1 y2 y3 y4 y5))∧(∀ y0 y1 y2 y3 y4 y5,LeO (spec_l1Cur_order.l1 k y0 y1 y2 y3 y4 y5) (spec_l1Cur_order.l1 (k + 1) y0 y1 y2 y3 y4 y5))
 | 0=>⟨fun _ _ _ _ _ _ r h=>by simp [spec_l1Cur_order.l0] at h,fun _ _ _ _ _ _ r h=>by simp [spec_l1Cur_order.l1] at h⟩
 | k + 1=>by
  obtain ⟨aa,ab⟩:=spec_l1Cur_order.mono_l k;refine ⟨?_,?_⟩
  ·intro y0 y1 y2 y3 y4 y5;unfold spec_l1Cur_order.l0
   repeat' first
   | (with_reducible exact aa _ _ _ _ _ _)
   | (with_reducible exact ab _ _ _ _ _ _)
   | (with_reducible exact spec_l11Without.mono _ _ _)
   | (with_reducible exact LeO.refl _)
   | (with_reducible exact LeO.none _)
   | (with_reducible refine LeO.ite ?_ ?_)
   | (with_reducible refine LeO.bind ?_ (fun _=>?_))
   | exact aa _ _ _ _ _ _
   | exact ab _ _ _ _ _ _
   | exact spec_l11Without.mono _ _ _
   | exact LeO.none _
   | refine LeO.ite ?_ ?_
   | refine LeO.bind ?_ (fun _=>?_)
  ·intro y0 y1 y2 y3 y4 y5;unfold spec_l1Cur_order.l1
   repeat' first
   | (with_reducible exact aa _ _ _ _ _ _)
   | (with_reducible exact ab _ _ _ _ _ _)
   | (with_reducible exact spec_l11Without.mono _ _ _)
   | (with_reducible exact LeO.refl _)
   | (with_reducible exact LeO.none _)
   | (with_reducible refine LeO.ite ?_ ?_)
   | (with_reducible refine LeO.bind ?_ (fun _=>?_))
   | exact aa _ _ _ _ _ _
   | exact ab _ _ _ _ _ _
   | exact spec_l11Without.mono _ _ _
   | exact LeO.none _
   | refine LeO.ite ?_ ?_
   | refine LeO.bind ?_ (fun _=>?_)
theorem spec_l1Cur_order.mono : ∀ a0 a1 a2 a3 k,LeO (spec_l1Cur_order.f k a0 a1 a2 a3) (spec_l1Cur_order.f (k + 1) a0 a1 a2 a3):=by
 intro a0 a1 a2 a3 k;obtain ⟨aa,ab⟩:=spec_l1Cur_order.mono_l k;unfold spec_l1Cur_order.f
 repeat' first
   | (with_reducible exact aa _ _ _ _ _ _)
   | (with_reducible exact ab _ _ _ _ _ _)
   | (with_reducible exact spec_l11Without.mono _ _ _)
   | (with_reducible exact LeO.refl _)
   | (with_reducible exact LeO.none _)
   | (with_reducible refine LeO.ite ?_ ?_)
   | (with_reducible refine LeO.bind ?_ (fun _=>?_))
   | exact aa _ _ _ _ _ _
   | exact ab _ _ _ _ _ _
   | exact spec_l11Without.mono _ _ _
   | exact LeO.none _
   | refine LeO.ite ?_ ?_
   | refine LeO.bind ?_ (fun _=>?_)
set_option maxHeartbeats 8000000 in
set_option maxRecDepth 100000 in
theorem spec_l1Cur_order.calls (k:Nat) (g:Nat) (ag:List Int) (az:Int) (aA:Int) (a1:Int) (r1:List Int) (r2:Int) (r3:Int) (w0 w:World) (hI:IsS65 w0 w g ag az aA) (hB:Below w0.heap.size w0 w) (h:spec_l1Cur_order.f k ag az aA a1=some (r1,r2,r3)) :
  Calls Try.prog 42 #[.pointer (some ⟨g,0,none⟩),.int .i64 a1] w fun e w'=>∃ bK:Value,e=.returned (bK)∧Kd.R (Kd.int .i64) 3 w' w.heap.size (fun _=>True) bK r1∧IsS65 w0 w' g ag r2 r3∧Below w0.heap.size w0 w'∧KeepBut w w' g none:=by
 have ah:=qK hI;have HK:=qK (KeepBut.refl w g none);have HL:=qK hB.size;clear hI;have ch:=qK hB.size;have HB:=qK hB;clear hB;have H:(spec_l1Cur_order.l0 k a1 ([]:List Int) 0 ag az aA)=some (r1,r2,r3):=h;clear h;have H':=qK H;clear H;go_enter Try.func42,Try.ntmps42
 go_wp2
 go_loopg [5,7] k (fun kq v5 v7 w'=>∃ (aB:List Int) (ak:Int),v7=.int .i64 ak∧Aside0 (spec_l1Cur_order.l0 kq a1 aB ak ag az aA=some (r1,r2,r3))∧Aside0 (kq≤k)∧Aside0 (Kd.R (Kd.int .i64) 3 w' w.heap.size (fun _=>True) v5 aB)∧Aside0 (IsS65 w0 w' g ag az aA)∧Aside0 (KeepBut w w' g none)∧Aside0 (Below w0.heap.size w0 w'))
 case atStart=>exact ⟨(([]:List Int)),(0),(by rfl),H',⟨Nat.le_refl _⟩,⟨by first|exact Kd.R_nil _ _ _ _ _|exact Kd.N_nil _ _ _ _ _|exact Kd.V_nil _ _ _ _ _|exact Kd.Q_nil _ _ _ _ _|exact Kd.S_nil _ _ _ _ _⟩,⟨ah.out⟩,⟨HK.out⟩,⟨HB.out⟩⟩
 case round =>
  clear H';try clear p2
  obtain ⟨aB,ak,rfl,HA,br,aa,ah,HK,HB⟩:=hrel;cases gk with
  | zero=>exact absurd HA.out (by simp [spec_l1Cur_order.l0])
  | succ k1 =>
   have H:=HA.out;clear HA;simp only [spec_l1Cur_order.l0] at H;by_cases c3:ak < a1
   ·rw [if_pos c3] at H;have aZ:decide (ak < a1)=true:=decide_eq_true c3;clear c3;by_cases c4:aB.length < 17592186044416
    ·rw [if_pos c4] at H;have bu:=qK c4;clear c4;obtain ⟨ba,av⟩:∃ y_:List Int,y_=(aB ++ [ak]):=⟨_,rfl⟩;replace H:(spec_l1Cur_order.l0 k1 a1 ba (wrap64 (ak + 1)) ag az aA)=some (r1,r2,r3):=by first|(rw [av];with_reducible exact H)|(have aD:=(Option.bind_some _ _).symm.trans H;rw [av];with_reducible exact aD)|(have aD:=(Option.bind_some _ _).symm.trans H;with_reducible exact aD)|with_reducible exact H|(rw [av];exact H)|exact H
     have bb:=qK av;clear av;have H':=qK H;clear H;go_wp2_with (first|((with_reducible refine gate_builtin (b:=.append) (xs:=#[.tmp 14,.tmp 16]) rfl ?_);at_builtin;refine Kd.R_append (Kd.int .i64) w.heap.size rfl (.tmp 14) (.tmp 16) 22 3 (.int .i64 0) 8 rfl Try.underlying22 info3 rfl (by decide) (by omega) u5 aB ak [.int .i64 ak] (fun _=>True) (fun _=>False) rfl rfl ?aP (fun _ hk=>hk.elim) ?aF ?aO (Below.refl _ _) ?aS ?aL ?_;(case aP=>exact rfl);(case aF=>exact (fun _ _=>trivial));(case aO=>exact aa.out);(case aS=>exact (keep_size (w:=w) (g:=g) (row:=none) (HK.out)));(case aL=>have:=bu.out;omega);intro bS w5 ho hb hg hat;rw [← bb.out] at ho;have al:=qK (IsS65.grown (ah.out) hg (IsS65.own_ne ah.out aa.out (by decide)));have am:=qK (below_weaken (HB.out) HL.out hb);have an:=qK (KeepBut.trans (HK.out) (KeepBut.of_grown hg g) (Kd.R_base2 aa.out));have ao:=qK (ho);clear ah HB HK aa;have ah:=al;have HB:=am;have HK:=an;have bc:=ao;clear al am an ao;clear ho hb hg hat))
     go_roundg k1
     case measure=>have:=br.out;omega
     case rel=>exact ⟨(ba),(wrap64 (ak + 1)),(by rfl),H',⟨by have:=br.out;omega⟩,⟨bc.out⟩,⟨ah.out⟩,⟨HK.out⟩,⟨HB.out⟩⟩
    ·rw [if_neg c4] at H;exact absurd H (by simp)
   ·rw [if_neg c3] at H;have aZ:decide (ak < a1)=false:=decide_eq_false c3;clear c3;have H':=qK H;clear H;go_wp2
    go_loopg [5,6] k1 (fun kq v5 v6 w'=>∃ (ae:List Int) (ai:List Int) (ab:Int) (ac:Int),Aside0 (spec_l1Cur_order.l1 kq a1 ae ai ag ab ac=some (r1,r2,r3))∧Aside0 (kq≤k1)∧Aside0 (Kd.R (Kd.int .i64) 3 w' w.heap.size (fun k_=>some k_ ≠ (v6:Value).ownBlock) v5 ae)∧Aside0 (Kd.R (Kd.int .i64) 3 w' w.heap.size (fun k_=>some k_ ≠ (v5:Value).ownBlock) v6 ai)∧Aside0 (IsS65 w0 w' g ag ab ac)∧Aside0 (KeepBut w w' g none)∧Aside0 (Below w0.heap.size w0 w'))
    case atStart=>exact ⟨(aB),(([]:List Int)),(az),(aA),H',⟨Nat.le_refl _⟩,⟨Kd.R_mono aa.out (fun _ hk=>(by simp [Value.ownBlock]))⟩,⟨by first|exact Kd.R_nil _ _ _ _ _|exact Kd.N_nil _ _ _ _ _|exact Kd.V_nil _ _ _ _ _|exact Kd.Q_nil _ _ _ _ _|exact Kd.S_nil _ _ _ _ _⟩,⟨ah.out⟩,⟨HK.out⟩,⟨HB.out⟩⟩
    case round =>
     clear H';try clear p2
     try clear c3
     try clear aZ
     try clear c4
     try clear p2
     obtain ⟨ae,ai,ab,ac,HA,bL,aa,af,ah,HK,HB⟩:=hrel;cases gk with
     | zero=>exact absurd HA.out (by simp [spec_l1Cur_order.l1])
     | succ k2 =>
      have H:=HA.out;clear HA;simp only [spec_l1Cur_order.l1] at H;by_cases c6:(ae.length:Int) > 0
      ·rw [if_pos c6] at H;have bv:decide (0 < (ae.length:Int))=true:=decide_eq_true c6;have bw:decide (0 < ae.length)=true:=decide_eq_true (by omega);clear c6;replace H:=Option.bind_eq_some_iff.mp H;obtain ⟨⟨aj,aE,aG⟩,bM,H⟩:=H;replace H:(if 0≤aj then (if aj < (ae.length:Int) then (if ai.length < 17592186044416 then ((spec_l11Without.f k2 ae (rd ae aj)).bind fun aC=>(spec_l1Cur_order.l1 k2 a1 aC (ai ++ [rd ae aj]) ag aE aG)) else (none)) else (none)) else (none))=some (r1,r2,r3):=H;have A7:=qK bM;clear bM;by_cases c8:0≤aj
       ·rw [if_pos c8] at H;have bT:decide (0≤aj)=true:=decide_eq_true c8;clear c8;by_cases c9:aj < (ae.length:Int)
        ·rw [if_pos c9] at H;have bU:decide (aj < (ae.length:Int))=true:=decide_eq_true c9;clear c9;by_cases c10:ai.length < 17592186044416
         ·rw [if_pos c10] at H;have bd:=qK c10;clear c10;obtain ⟨aR,aw⟩:∃ y_:List Int,y_=(ai ++ [rd ae aj]):=⟨_,rfl⟩;replace H:((spec_l11Without.f k2 ae (rd ae aj)).bind fun aC=>(spec_l1Cur_order.l1 k2 a1 aC aR ag aE aG))=some (r1,r2,r3):=by first|(rw [aw];with_reducible exact H)|(have aD:=(Option.bind_some _ _).symm.trans H;rw [aw];with_reducible exact aD)|(have aD:=(Option.bind_some _ _).symm.trans H;with_reducible exact aD)|with_reducible exact H|(rw [aw];exact H)|exact H
          have be:=qK aw;clear aw;replace H:=Option.bind_eq_some_iff.mp H;obtain ⟨aC,bf,H⟩:=H;replace H:(spec_l1Cur_order.l1 k2 a1 aC aR ag aE aG)=some (r1,r2,r3):=H;have bV:=qK bf;clear bf;have H':=qK H;clear H;obtain ⟨bW,bg,bx⟩:=Kd.R_slice aa.out;subst bx;go_wp2_with (first|((with_reducible refine gate_callee (f:=59) rfl ?_);refine goesL_ (some 25) rfl rfl Try.func59 (by kernel_rfl) rfl #[.pointer (some ⟨g,0,none⟩),.int .i64 (ae.length:Int)] rfl (by (try simp only [mT,mC,mN]);first|done|rfl|(simp only [lD,lT];rfl)) ?_;(with_reducible refine (spec_l1Cur_pick.calls g ag ab ac (ae.length:Int) aj aE aG w0 _ ?side1 ?side2 A7.out).mono ?_);(case side1=>repeat (first|(with_reducible first|exact ah.out|apply IsS65.alloc|apply IsS65.drewN|apply IsS65.drew|apply IsS65.set_1|apply IsS65.set_2)|exact ah.out));(case side2=>repeat (first|(with_reducible first|exact HB.out|apply qA|apply qD|apply qO|refine qS ?_ (IsS65.ge ah.out))|exact HB.out));rintro e ci ⟨rfl,hi,hb,hk⟩;refine ⟨_,rfl,?_⟩;have al:=qK (Kd.R_mono (Kd.R_keep (IsS65.apart (show IsS65 w0 _ g ag ab ac from ah.out) aa.out (by decide)) hk (fun _ h=>h.2)) (fun _ h=>h.1));have am:=qK (Kd.R_mono (Kd.R_keep (IsS65.apart (show IsS65 w0 _ g ag ab ac from ah.out) af.out (by decide)) hk (fun _ h=>h.2)) (fun _ h=>h.1));have an:=qK (KeepBut.trans (HK.out) hk (.inl rfl));have ao:=qK (hb);have aq:=qK (hi);clear aa af HK HB ah;have aa:=al;have af:=am;have HK:=an;have HB:=ao;have ah:=aq;clear al am an ao aq;(try clear hb);(try clear hb2);(try clear hk);(try clear hi);have aT:0≤(aj:Int):=of_decide_eq_true (by assumption);have aU:aj < (ae.length:Int):=of_decide_eq_true (by assumption);obtain ⟨aM,bz,bs⟩:=Kd.at_int (Kd.R_reads' aa.out).2.2 aj aT aU;cases bz;replace aT:=eq_true aT;replace aU:=eq_true aU)|((with_reducible refine gate_builtin (b:=.append) (xs:=#[.tmp 28,.tmp 30]) rfl ?_);at_builtin;refine Kd.R_append (Kd.int .i64) w.heap.size rfl (.tmp 28) (.tmp 30) 22 3 (.int .i64 0) 8 rfl Try.underlying22 info3 rfl (by decide) (by omega) u6 ai (rd ae aj) [.int .i64 (rd ae aj)] (fun k_=>some k_ ≠ (.slice (some aM) ae.length bg:Value).ownBlock) (fun _=>False) rfl rfl ?aP (fun _ hk=>hk.elim) ?aF ?aO (Below.refl _ _) ?aS ?aL ?_;(case aP=>exact rfl);(case aF=>exact (fun k_ hk=>Kd.fresh' (Kd.R_lt aa.out) k_ hk));(case aO=>exact af.out);(case aS=>exact (keep_size (w:=w) (g:=g) (row:=none) (HK.out)));(case aL=>have:=bd.out;omega);intro bX cj ho hb hg hat;rw [← be.out] at ho;have al:=qK (Kd.R_after (ok:=(fun _=>True)) (Kd.R_mono aa.out (fun _ hk=>⟨trivial,hk⟩)) hg hat);have am:=qK (IsS65.grown (ah.out) hg (IsS65.own_ne ah.out af.out (by decide)));have an:=qK (below_weaken (HB.out) HL.out hb);have ao:=qK (KeepBut.trans (HK.out) (KeepBut.of_grown hg g) (Kd.R_base2 af.out));have aq:=qK (ho);clear aa ah HB HK af;have aa:=al;have ah:=am;have HB:=an;have HK:=ao;have ax:=aq;clear al am an ao aq;clear ho hb hg hat)|((with_reducible refine gate_callee (f:=53) rfl ?_);refine goesL_ (some 34) rfl rfl Try.func53 (by kernel_rfl) rfl #[.slice (some aM) ae.length bg,.int .i64 (rd ae aj)] rfl (by (try simp only [mT,mC,mN]);first|done|rfl|(simp only [lD,lT];rfl)) ?_;(with_reducible refine (spec_l11Without.calls k2 _ _ ae (rd ae aj) aC _ ?side1 ?side2 bV.out).mono ?_);(case side1=>exact (Kd.R_reads' aa.out).2.2);(case side2=>exact (Kd.R_reads' aa.out).2.1);rintro e ck ⟨bY,rfl,bt,hb⟩;refine ⟨_,rfl,?_⟩;have al:=qK (Kd.R_elder' aa.out (Kd.R_base bt) hb);have am:=qK (Kd.R_elder' ax.out (Kd.R_base bt) hb);have an:=qK (Kd.R_lower (Kd.R_new' (Kd.R_new' bt (Kd.R_lt aa.out)) (Kd.R_lt ax.out)) (keep_size (w:=w) (g:=g) (row:=none) (HK.out)));have ao:=qK (IsS65.below (ah.out) hb);have aq:=qK (KeepBut.trans (HK.out) (KeepBut.of_below hb g none) (.inl rfl));have bN:=qK (qT (HB.out) hb);clear aa ax ah HK HB;have aa:=al;have ax:=am;have bh:=an;have ah:=ao;have HK:=aq;have HB:=bN;clear al am an ao aq bN;(try clear hb);(try clear hb2);(try clear hk);(try clear hi);(try clear bt)))
          go_roundg k2
          case measure=>have:=br.out;have:=bL.out;omega
          case rel=>exact ⟨(aC),(aR),(aE),(aG),H',⟨by have:=br.out;have:=bL.out;omega⟩,⟨Kd.R_mono bh.out (fun _ hk=>hk.2)⟩,⟨Kd.R_mono ax.out (fun _ hk=>hk.2)⟩,⟨ah.out⟩,⟨HK.out⟩,⟨HB.out⟩⟩
         ·rw [if_neg c10] at H;exact absurd H (by simp)
        ·rw [if_neg c9] at H;exact absurd H (by simp)
       ·rw [if_neg c8] at H;exact absurd H (by simp)
      ·rw [if_neg c6] at H;have bv:decide (0 < (ae.length:Int))=false:=decide_eq_false c6;have bw:decide (0 < ae.length)=false:=decide_eq_false (by omega);clear c6;by_cases c16:a1 > 0
       ·rw [if_pos c16] at H;have bi:decide (0 < a1)=true:=decide_eq_true c16;clear c16;replace H:=Option.bind_eq_some_iff.mp H;obtain ⟨⟨bj,ar,au⟩,bk,H⟩:=H;replace H:(if bj=true then ((spec_l1Cur_pick.f ag ar au (wrap64 (a1 + 1))).bind fun ap=>(if 0 < (ai.length:Int) then (some ((ai.set (0:Int).toNat ap.1),ap.2.1,ap.2.2)) else (none))) else (some (ai,ar,au)))=some (r1,r2,r3):=H;have bO:=qK bk;clear bk;by_cases c18:bj=true
        ·subst c18;have H1:((spec_l1Cur_pick.f ag ar au (wrap64 (a1 + 1))).bind fun ap=>(if 0 < (ai.length:Int) then (some ((ai.set (0:Int).toNat ap.1),ap.2.1,ap.2.2)) else (none)))=some (r1,r2,r3):=by rw [if_pos rfl] at H;exact H
         clear H;have H:=H1;clear H1;replace H:=Option.bind_eq_some_iff.mp H;obtain ⟨⟨aH,aV,aW⟩,bl,H⟩:=H;replace H:(if 0 < (ai.length:Int) then (some ((ai.set (0:Int).toNat aH),aV,aW)) else (none))=some (r1,r2,r3):=H;have bZ:=qK bl;clear bl;by_cases c20:0 < (ai.length:Int)
         ·rw [if_pos c20] at H;have bP:decide (0 < (ai.length:Int))=true:=decide_eq_true c20;have bQ:decide (0 < ai.length)=true:=decide_eq_true (by omega);clear c20;obtain ⟨bm,ay⟩:∃ y_:List Int,y_=(ai.set (0:Int).toNat aH):=⟨_,rfl⟩;replace H:(some (bm,aV,aW))=some (r1,r2,r3):=by first|(rw [ay];with_reducible exact H)|(have aD:=(Option.bind_some _ _).symm.trans H;rw [ay];with_reducible exact aD)|(have aD:=(Option.bind_some _ _).symm.trans H;with_reducible exact aD)|with_reducible exact H|(rw [ay];exact H)|exact H
          have bn:=qK ay;clear ay;simp only [Option.some.injEq,Prod.mk.injEq] at H;obtain ⟨rfl,rfl,rfl⟩:=H;obtain ⟨bA,bB,bC⟩:=Kd.R_slice aa.out;subst bC;go_wp2_with (first|(go_at_call 60;(with_reducible refine (spec_l1Cur_one.calls g ag ab ac 20 true ar au w0 _ ?side1 ?side2 bO.out).mono ?_);(case side1=>repeat (first|(with_reducible first|exact ah.out|apply IsS65.alloc|apply IsS65.drewN|apply IsS65.drew|apply IsS65.set_1|apply IsS65.set_2)|exact ah.out));(case side2=>repeat (first|(with_reducible first|exact HB.out|apply qA|apply qD|apply qO|refine qS ?_ (IsS65.ge ah.out))|exact HB.out));rintro e cl ⟨rfl,hi,hb,hk⟩;have al:=qK (Kd.R_mono (Kd.R_keep (IsS65.apart (show IsS65 w0 _ g ag ab ac from ah.out) aa.out (by decide)) hk (fun _ h=>h.2)) (fun _ h=>h.1));have am:=qK (Kd.R_mono (Kd.R_keep (IsS65.apart (show IsS65 w0 _ g ag ab ac from ah.out) af.out (by decide)) hk (fun _ h=>h.2)) (fun _ h=>h.1));have an:=qK (KeepBut.trans (HK.out) hk (.inl rfl));have ao:=qK (hb);have aq:=qK (hi);clear aa af HK HB ah;have aa:=al;have af:=am;have HK:=an;have HB:=ao;have ah:=aq;clear al am an ao aq;(try clear hb);(try clear hb2);(try clear hk);(try clear hi))|((with_reducible refine gate_callee (f:=59) rfl ?_);refine goesL_ (some 45) rfl rfl Try.func59 (by kernel_rfl) rfl #[.pointer (some ⟨g,0,none⟩),.int .i64 (wrap64 (a1 + 1))] rfl (by (try simp only [mT,mC,mN]);first|done|rfl|(simp only [lD,lT];rfl)) ?_;(with_reducible refine (spec_l1Cur_pick.calls g ag ar au (wrap64 (a1 + 1)) aH aV aW w0 _ ?side1 ?side2 bZ.out).mono ?_);(case side1=>repeat (first|(with_reducible first|exact ah.out|apply IsS65.alloc|apply IsS65.drewN|apply IsS65.drew|apply IsS65.set_1|apply IsS65.set_2)|exact ah.out));(case side2=>repeat (first|(with_reducible first|exact HB.out|apply qA|apply qD|apply qO|refine qS ?_ (IsS65.ge ah.out))|exact HB.out));rintro e bR ⟨rfl,hi,hb,hk⟩;refine ⟨_,rfl,?_⟩;have al:=qK (Kd.R_mono (Kd.R_keep (IsS65.apart (show IsS65 w0 _ g ag ar au from ah.out) aa.out (by decide)) hk (fun _ h=>h.2)) (fun _ h=>h.1));have am:=qK (Kd.R_mono (Kd.R_keep (IsS65.apart (show IsS65 w0 _ g ag ar au from ah.out) af.out (by decide)) hk (fun _ h=>h.2)) (fun _ h=>h.1));have an:=qK (KeepBut.trans (HK.out) hk (.inl rfl));have ao:=qK (hb);have aq:=qK (hi);clear aa af HK HB ah;have aa:=al;have af:=am;have HK:=an;have HB:=ao;have ah:=aq;clear al am an ao aq;(try clear hb);(try clear hb2);(try clear hk);(try clear hi);have bD:0≤(0:Int):=(by omega);have bE:(0:Int) < ((ai.length:Int):Int):=of_decide_eq_true (by assumption);have ca:(0 < ai.length)=True:=eq_true (by omega);obtain ⟨aI,aX,bo,bp,bF,cb,bq⟩:=Kd.R_form af.out (by omega);(first|cases bo|(injection bo with ea_ en_ ec_;(first|subst ea_|(injection ea_ with ea_;subst ea_));subst ec_;clear en_));have bG:=qK bp;have cc:=qK bq;clear bp bF bq;obtain ⟨aJ,aK⟩:=Kd.R_celln 0 af.out (0:Int) bD bE;(try rw [show ((0:Int)).toNat=0 from rfl] at aJ);(try simp only [Nat.reduceMul,Nat.zero_mul,Nat.zero_add,Nat.reduceAdd] at aJ);(try rw [show ((0:Int)).toNat=0 from rfl] at aK);(try simp only [Nat.reduceMul,Nat.zero_mul,Nat.zero_add,Nat.reduceAdd] at aK);replace bD:=eq_true bD;replace bE:=eq_true bE;obtain ⟨aN,aQ⟩:=Kd.R_celln 0 af.out (0:Int) (by omega) (of_decide_eq_true (by assumption));(try simp only [Int.reduceToNat,Int.toNat_zero,Int.toNat_ofNat,Nat.reduceMul,Nat.zero_mul,Nat.zero_add] at aN aQ);(try rw [show ((0:Int)).toNat=0 from rfl] at aN);(try rw [show ((0:Int)).toNat=0 from rfl] at aQ);have aY:=Kd.R_putg af.out (0:Int) aH)|((with_reducible refine gate_store (t:=3) (p:=46) rfl ?_);refine store_event (t:=3) (p:=46) (v:=?vo_w26) (w1:=(bR.setCell ⟨aI,(0:Int).toNat,none⟩ (.int .i64 aH))) ?hg ?ho ?hn ?hr ?_;(case ho=>rfl);(case hg=>rfl);(case hn=>rfl);(case hr=>(go_simp;try rfl));intro bH hw;have hg:bR.grownBy bH (some aI):=(by rw [hw];exact aY.2);have hp_:Kd.R (Kd.int .i64) 3 bH w.heap.size (fun k_=>some k_ ≠ (.slice bA ae.length bB:Value).ownBlock) (.slice (some ⟨aI,0,none⟩) ai.length aX) bm:=(by rw [hw,bn.out];exact aY.1);clear aY;have al:=qK (Kd.R_after (v:=(.slice (some ⟨aI,0,none⟩) ai.length aX)) (v1:=(.slice (some ⟨aI,0,none⟩) ai.length aX)) (ok:=(fun _=>True)) (Kd.R_mono aa.out (fun _ hk=>⟨trivial,hk⟩)) hg (.inl rfl));have am:=qK (hp_);have an:=qK (IsS65.grown (ah.out) hg (IsS65.own_ne ah.out af.out (by decide)));have ao:=qK ((by rw [hw];exact qS (HB.out) (Nat.le_trans HL.out bG.out):Below w0.heap.size w0 bH));have aq:=qK (KeepBut.trans (HK.out) (KeepBut.of_grown hg g) (Kd.R_base2 af.out));clear aa af ah HB HK;have aa:=al;have af:=am;have ah:=an;have HB:=ao;have HK:=aq;clear al am an ao aq;clear hg hw hp_))
          go_ret
          exact ⟨_,by rfl,Kd.R_mono af.out (fun _ hk=>trivial),ah.out,HB.out,HK.out⟩
         ·rw [if_neg c20] at H;exact absurd H (by simp)
        ·replace c18:=Bool.eq_false_iff.mpr c18;subst c18;have H1:(some (ai,ar,au))=some (r1,r2,r3):=by rw [if_neg (show ¬ (false=true) by decide)] at H;exact H
         clear H;have H:=H1;clear H1;simp only [Option.some.injEq,Prod.mk.injEq] at H;obtain ⟨rfl,rfl,rfl⟩:=H;obtain ⟨cd,ce,bI⟩:=Kd.R_slice aa.out;subst bI;go_wp2_with (first|(go_at_call 60;(with_reducible refine (spec_l1Cur_one.calls g ag ab ac 20 false ar au w0 _ ?side1 ?side2 bO.out).mono ?_);(case side1=>repeat (first|(with_reducible first|exact ah.out|apply IsS65.alloc|apply IsS65.drewN|apply IsS65.drew|apply IsS65.set_1|apply IsS65.set_2)|exact ah.out));(case side2=>repeat (first|(with_reducible first|exact HB.out|apply qA|apply qD|apply qO|refine qS ?_ (IsS65.ge ah.out))|exact HB.out));rintro e cm ⟨rfl,hi,hb,hk⟩;have al:=qK (Kd.R_mono (Kd.R_keep (IsS65.apart (show IsS65 w0 _ g ag ab ac from ah.out) aa.out (by decide)) hk (fun _ h=>h.2)) (fun _ h=>h.1));have am:=qK (Kd.R_mono (Kd.R_keep (IsS65.apart (show IsS65 w0 _ g ag ab ac from ah.out) af.out (by decide)) hk (fun _ h=>h.2)) (fun _ h=>h.1));have an:=qK (KeepBut.trans (HK.out) hk (.inl rfl));have ao:=qK (hb);have aq:=qK (hi);clear aa af HK HB ah;have aa:=al;have af:=am;have HK:=an;have HB:=ao;have ah:=aq;clear al am an ao aq;(try clear hb);(try clear hb2);(try clear hk);(try clear hi)))
         go_ret
         exact ⟨_,by rfl,Kd.R_mono af.out (fun _ hk=>trivial),ah.out,HB.out,HK.out⟩
       ·rw [if_neg c16] at H;have bi:decide (0 < a1)=false:=decide_eq_false c16;clear c16;simp only [Option.some.injEq,Prod.mk.injEq] at H;obtain ⟨rfl,rfl,rfl⟩:=H;obtain ⟨cf,cg,bJ⟩:=Kd.R_slice aa.out;subst bJ;go_wp2
        go_ret
        exact ⟨_,by rfl,Kd.R_mono af.out (fun _ hk=>trivial),ah.out,HB.out,HK.out⟩

/-! ### newCur: function 90 -/
def newCur.f (l0 : List Int) (a1 : Int) (a2 : Int) : Option (List Int × Int × Int) := some (l0, a1, a2)

/-! ### spec_DrawCostOf: function 18 -/
def spec_DrawCostOf.f (k:Nat) (l0:List Int):Option (List Int × (List (List Int)) × List Int):=(newCur.f l0 0 0).bind fun bt346=>((spec_l1Cur_stats.f k bt346.1 bt346.2.1 bt346.2.2).bind fun bt350=>((spec_l1Cur_order.f k bt346.1 bt350.2.2.1 bt350.2.2.2 (bt350.1.length:Int)).bind fun bt359=>(some (bt350.1,bt350.2.1,bt359.1))))
theorem spec_DrawCostOf.mono : ∀ a0 k,LeO (spec_DrawCostOf.f k a0) (spec_DrawCostOf.f (k + 1) a0):=by
 intro a0 k;unfold spec_DrawCostOf.f
 repeat' first
   | (with_reducible exact spec_l1Cur_order.mono _ _ _ _ _)
   | (with_reducible exact spec_l1Cur_stats.mono _ _ _ _)
   | (with_reducible exact LeO.refl _)
   | (with_reducible exact LeO.none _)
   | (with_reducible refine LeO.ite ?_ ?_)
   | (with_reducible refine LeO.bind ?_ (fun _=>?_))
   | exact spec_l1Cur_order.mono _ _ _ _ _
   | exact spec_l1Cur_stats.mono _ _ _ _
   | exact LeO.none _
   | refine LeO.ite ?_ ?_
   | refine LeO.bind ?_ (fun _=>?_)
def spec_DrawCostOf.T3 : Bool × List (List Nat × List Nat):=(true,[([],[]),([],[]),([],[]),([2],[2]),([3],[3]),([1,4],[1,4]),([0,5,0],[0]),([5,6,0,1,2,3,4,5,6],[5])])
def spec_DrawCostOf.B3 : List Nat:=[0,0,0,4,12,30,63,127]
theorem spec_DrawCostOf.tab3 : rtab .any (opsOf Try.f18 3)=spec_DrawCostOf.T3:=by kernel_rfl
theorem spec_DrawCostOf.bits3 : waitsOk spec_DrawCostOf.T3.2 spec_DrawCostOf.B3=true:=by kernel_rfl
set_option maxHeartbeats 8000000 in
set_option maxRecDepth 100000 in
theorem spec_DrawCostOf.calls (k:Nat) (A0:Option Addr) (c0:Nat) (l0:List Int) (r1:List Int) (r2:List (List Int)) (r3:List Int) (w:World) (bn:Kd.C (Kd.int .u8) w A0 l0.length l0) (bo:l0.length≤c0) (h:spec_DrawCostOf.f k l0=some (r1,r2,r3)) :
  Calls Try.prog 18 #[.slice A0 l0.length c0] w fun e w'=>∃ aZ bp ba:Value,e=.returned (.tuple #[.agg #[aZ,bp],ba])∧Kd.R (Kd.int .i64) 3 w' w.heap.size (fun k_=>some k_ ≠ (ba:Value).ownBlock) aZ r1∧Kd.S (Kd.slice 3 (Kd.int .i64)) 22 w' w.heap.size (fun k_=>some k_ ≠ (aZ:Value).ownBlock∧some k_ ≠ (ba:Value).ownBlock) bp r2∧Kd.R (Kd.int .i64) 3 w' w.heap.size (fun k_=>some k_ ≠ (aZ:Value).ownBlock) ba r3∧Below w.heap.size w w':=by
 have bG:=Try.underlying29;have bH:=Try.underlying65;have bI:=qK bn;have bS:=qK bo;clear bn bo;have HB:=qK (Below.refl w.heap.size w);have H:((newCur.f l0 0 0).bind fun aI=>((spec_l1Cur_stats.f k aI.1 aI.2.1 aI.2.2).bind fun ao=>((spec_l1Cur_order.f k aI.1 ao.2.2.1 ao.2.2.2 (ao.1.length:Int)).bind fun aE=>(some (ao.1,ao.2.1,aE.1)))))=some (r1,r2,r3):=h;clear h;replace H:=Option.bind_eq_some_iff.mp H;obtain ⟨⟨av,aN,aQ⟩,bq,H⟩:=H;replace H:((spec_l1Cur_stats.f k av aN aQ).bind fun ao=>((spec_l1Cur_order.f k av ao.2.2.1 ao.2.2.2 (ao.1.length:Int)).bind fun aE=>(some (ao.1,ao.2.1,aE.1))))=some (r1,r2,r3):=H;have A2:=qK bq;clear bq;replace H:=Option.bind_eq_some_iff.mp H;obtain ⟨⟨ai,al,aG,aH⟩,br,H⟩:=H;replace H:((spec_l1Cur_order.f k av aG aH (ai.length:Int)).bind fun aE=>(some (ai,al,aE.1)))=some (r1,r2,r3):=H;have A3:=qK br;clear br;replace H:=Option.bind_eq_some_iff.mp H;obtain ⟨⟨aW,bj,bk⟩,bs,H⟩:=H;replace H:(some (ai,al,aW))=some (r1,r2,r3):=H;have A4:=qK bs;clear bs;simp only [Option.some.injEq,Prod.mk.injEq] at H;obtain ⟨rfl,rfl,rfl⟩:=H;go_enter Try.func18,Try.ntmps18
 try go_wp2_with (first|((with_reducible refine gate_dst (N:=2) rfl ?_);refine box_event ?hg (N:=2) ?hd (cs:=#[.slice none 0 0,.slice none 0 0]) (t:=29) ?hr ?_;(case hd=>rfl);(case hg=>rfl);(case hr=>(go_simp;try rfl));intro ae hg w5 hbox hb;have aw:=qK (qT HB.out hb);have ax:=qK (hbox);have au:=qK ((by rw [hg];exact (qZ HB.out):w.heap.size≤ae));have ay:=au;clear HB;have HB:=aw;have aa:=ax;have bt:=au;have aJ:=ay;clear aw ax au ay;clear hb hbox hg)|((with_reducible refine gate_dst (N:=8) rfl ?_);refine box_event ?hg (N:=8) ?hd (cs:=#[.slice A0 l0.length c0,.int .i64 0,.int .u64 0]) (t:=65) ?hr ?_;(case hd=>rfl);(case hg=>rfl);(case hr=>(go_simp;try rfl));intro ar hg w6 hbox aR;have hb:=qT (HB.out) aR;have hi:IsS65 w w6 ar av aN aQ:=(by have hj_:=A2.out;simp only [newCur.f,Option.some.injEq,Prod.mk.injEq] at hj_;obtain ⟨bJ,bK,bL⟩:=hj_;rw [← bJ,← bK,← bL];exact ⟨_,_,hbox,(by rw [hg];exact (qZ (HB.out)):w.heap.size≤ar),(by exact bI.out)⟩);clear hbox hg;have aw:=qK (qB (g:=ae) (o:=_) (by exact aa.out) aR);have ax:=qK (hb);have au:=qK (hi);have ay:=qK (IsS65.ne_blk hi (qB (g:=ae) (o:=_) (by exact aa.out) aR) (by decide));have aD:=qK (Ne.symm (IsS65.ne_blk hi (qB (g:=ae) (o:=_) (by exact aa.out) aR) (by decide)));clear aa HB;have aa:=aw;have HB:=ax;have ab:=au;have ag:=ay;have az:=aD;clear aw ax au ay aD;(try clear hb);(try clear aR);(try clear hk);(try clear hi))|((with_reducible refine gate_callee (f:=41) rfl ?_);refine goesL_ (some 10) rfl rfl Try.func41 (by kernel_rfl) rfl #[.pointer (some ⟨ar,0,none⟩)] rfl (by (try simp only [mT,mC,mN]);first|done|rfl|(simp only [lD,lT];rfl)) ?_;(with_reducible refine (spec_l1Cur_stats.calls k ar av aN aQ ai al aG aH w _ ?side1 ?side2 A3.out).mono ?_);(case side1=>repeat (first|(with_reducible first|exact ab.out|apply IsS65.alloc|apply IsS65.drewN|apply IsS65.drew|apply IsS65.set_1|apply IsS65.set_2|refine IsS65.far ?_ ag.out _)|exact ab.out));(case side2=>repeat (first|(with_reducible first|exact HB.out|apply qA|apply qD|apply qO|refine qS ?_ (IsS65.ge ab.out)|refine qS ?_ aJ.out)|exact HB.out));rintro e w7 ⟨bM,bN,rfl,aT,bu,hi,hb,hk⟩;refine ⟨_,rfl,?_⟩;have aw:=qK (KeepBut.blk hk (g':=ae) (o:=_) (by exact aa.out) az.out (by simp));have ax:=qK (Kd.R_lower aT (qZ (HB.out)));have au:=qK (Kd.S_lower bu (qZ (HB.out)));have ay:=qK (hb);have aD:=qK (hi);clear aa HB ab;have aa:=aw;have aj:=ax;have ak:=au;have HB:=ay;have ab:=aD;clear aw ax au ay aD;(try clear hb);(try clear aR);(try clear hk);(try clear hi);(try clear aT);(try clear bu))|((with_reducible refine gate_dst (N:=5) rfl ?_);refine box_event ?hg (N:=5) ?hd (cs:=#[.slice none 0 0,.slice none 0 0]) (t:=29) ?hr ?_;(case hd=>rfl);(case hg=>rfl);(case hr=>(go_simp;try rfl));intro ac hg w8 hbox hb;have aw:=qK (rB aj.out hb);have ax:=qK (Kd.S_below ak.out hb);have au:=qK (qB (g:=ae) (o:=_) (by exact aa.out) hb);have ay:=qK (IsS65.below (by repeat (first|(with_reducible first|exact ab.out|apply IsS65.alloc|apply IsS65.drewN|apply IsS65.drew|apply IsS65.set_1|apply IsS65.set_2|refine IsS65.far ?_ ag.out _)|exact ab.out)) hb);have aD:=qK (qT (HB.out) hb);have aK:=qK (hbox);have aV:=qK ((by rw [hg];exact (qZ (HB.out)):w.heap.size≤ac));have bv:=aV;have bl:=qK ((by rw [hg];exact Nat.ne_of_lt (blk_lt (g:=ae) (o:=_) (by exact aa.out)):ae ≠ ac));have bw:=qK bl.out.symm;have aU:=qK ((by rw [hg];exact Nat.ne_of_lt (IsS65.lt (show IsS65 w _ ar av aG aH from by repeat (first|(with_reducible first|exact ab.out|apply IsS65.alloc|apply IsS65.drewN|apply IsS65.drew|apply IsS65.set_1|apply IsS65.set_2|refine IsS65.far ?_ ag.out _)|exact ab.out))):ar ≠ ac));have aX:=qK aU.out.symm;clear aj ak aa ab HB;have aj:=aw;have ak:=ax;have aa:=au;have ab:=ay;have HB:=aD;have af:=aK;have bx:=aV;have aM:=bv;have am:=bl;have ah:=bw;have an:=aU;have aA:=aX;clear aw ax au ay aD aK aV bv bl bw aU aX hb hbox hg;obtain ⟨aB,aC,bO⟩:=Kd.R_slice aj.out;subst bO;have bz:=ah.out;have bA:=am.out;have bB:=aA.out;have bC:=an.out;have bb:w8.cell? ⟨ac,0,none⟩=some (.slice none 0 0):=(qC af.out 0).trans rfl;have bc:w8.cell? ⟨ac,1,none⟩=some (.slice none 0 0):=(qC af.out 1).trans rfl;have bd:=qF af.out 0;have be:=qF af.out 1;obtain ⟨ap,aq,bm⟩:=Kd.S_slice ak.out;subst bm))
 have aw:Aside0 (Kd.R (Kd.int .i64) 3 ((w8.setCell ⟨ac,0,none⟩ (.slice aB ai.length aC)).setCell ⟨ac,1,none⟩ (.slice ap al.length aq)) w.heap.size (fun _=>True) (.slice aB ai.length aC) ai):=⟨Kd.R_mono (Kd.R_far (p:=⟨ac,1,none⟩) (Kd.R_far (p:=⟨ac,0,none⟩) (Kd.R_types aj.out af.out (by decide)) (fun _ hk=>hk.2) (.slice aB ai.length aC)) (fun _ hk=>hk.2) (.slice ap al.length aq)) (fun _ hk=>trivial)⟩;have ax:Aside0 (Kd.S (Kd.slice 3 (Kd.int .i64)) 22 ((w8.setCell ⟨ac,0,none⟩ (.slice aB ai.length aC)).setCell ⟨ac,1,none⟩ (.slice ap al.length aq)) w.heap.size (fun k_=>some k_ ≠ (.slice aB ai.length aC:Value).ownBlock) (.slice ap al.length aq) al):=⟨Kd.S_mono (Kd.S_far (p:=⟨ac,1,none⟩) (Kd.S_far (p:=⟨ac,0,none⟩) (Kd.S_types ak.out af.out (by decide)) (fun _ hk=>hk.2) (.slice aB ai.length aC)) (fun _ hk=>hk.2) (.slice ap al.length aq)) (fun _ hk=>hk.1)⟩;have au:Aside0 (((w8.setCell ⟨ac,0,none⟩ (.slice aB ai.length aC)).setCell ⟨ac,1,none⟩ (.slice ap al.length aq)).heap[ae]?=some (.cells #[.slice none 0 0,.slice none 0 0] 29 (0,0))):=⟨by (with_reducible repeat (first|refine qN ?_ _|refine qW ?_|refine qL ?_ _));refine qR ?_ am.out _;(with_reducible repeat (first|refine qN ?_ _|refine qW ?_|refine qL ?_ _));refine qR ?_ am.out _;(with_reducible repeat (first|refine qN ?_ _|refine qW ?_|refine qL ?_ _));exact aa.out⟩;have ay:Aside0 (((w8.setCell ⟨ac,0,none⟩ (.slice aB ai.length aC)).setCell ⟨ac,1,none⟩ (.slice ap al.length aq)).heap[ac]?=some (.cells #[.slice aB ai.length aC,.slice ap al.length aq] 29 (0,0))):=⟨by (with_reducible repeat (first|refine qN ?_ _|refine qW ?_|refine qL ?_ _));refine qP (cs:=#[.slice aB ai.length aC,.slice none 0 0]) ?_ 1 _ rfl;(with_reducible repeat (first|refine qN ?_ _|refine qW ?_|refine qL ?_ _));refine qP (cs:=#[.slice none 0 0,.slice none 0 0]) ?_ 0 _ rfl;(with_reducible repeat (first|refine qN ?_ _|refine qW ?_|refine qL ?_ _));exact af.out⟩;have aD:Aside0 (IsS65 w ((w8.setCell ⟨ac,0,none⟩ (.slice aB ai.length aC)).setCell ⟨ac,1,none⟩ (.slice ap al.length aq)) ar av aG aH):=⟨by repeat (first|(with_reducible first|exact ab.out|apply IsS65.alloc|apply IsS65.drewN|apply IsS65.drew|apply IsS65.set_1|apply IsS65.set_2|refine IsS65.far ?_ ag.out _|refine IsS65.far ?_ an.out _)|exact ab.out)⟩;have aK:Aside0 (Below w.heap.size w ((w8.setCell ⟨ac,0,none⟩ (.slice aB ai.length aC)).setCell ⟨ac,1,none⟩ (.slice ap al.length aq))):=⟨by repeat (first|(with_reducible first|exact HB.out|apply qA|apply qD|apply qO|refine qS ?_ (IsS65.ge ab.out)|refine qS ?_ aJ.out|refine qS ?_ aM.out)|exact HB.out)⟩;(try clear aj);(try clear ak);(try clear aa);(try clear af);(try clear ab);(try clear HB);generalize ((w8.setCell ⟨ac,0,none⟩ (.slice aB ai.length aC)).setCell ⟨ac,1,none⟩ (.slice ap al.length aq))=w14 at aw ax au ay aD aK ⊢
 have aj:=aw;have ak:=ax;have aa:=au;have af:=ay;have ab:=aD;have HB:=aK;clear aw ax au ay aD aK;have aw:=qK (rW aj.out);have ax:=qK (Kd.S_drew ak.out);have au:=qK (qW aa.out);have ay:=qK (qW af.out);have aD:=qK (IsS65.drew ab.out);have aK:=qK (qO HB.out);clear aj ak aa af ab HB;have aj:=aw;have ak:=ax;have aa:=au;have af:=ay;have ab:=aD;have HB:=aK;clear aw ax au ay aD aK;refine start_ (n:=8) (S:=fun w'=>w'.cell? ⟨ac,0,none⟩=some (.slice aB ai.length aC)∧w'.cell? ⟨ac,1,none⟩=some (.slice ap al.length aq)) (ds:=[]) #[Z,Z,Z,Z,Z,Z,Z,Z] (by kernel_rfl) rfl rfl ⟨(qC af.out 0).trans rfl,(qC af.out 1).trans rfl⟩ (fun hHeld=>?_);refine with_tabW spec_DrawCostOf.tab3 spec_DrawCostOf.bits3 (fun HT_ HW_=>?_);generalize w14.drew=w15 at aj ak aa af ab HB hHeld ⊢
 refine pure_ (i:=1) (N:=some 12) (v:=?_) (a':=?_) #[Z,Y,Z,Z,Z,Z,Z,Z] rfl rfl (any_of HT_.out (by kernel_rfl)) (fun _ _ _ h=>h) (Or.inl ⟨by rfl,?_⟩) ?_ ?_;rotate_left
 ·intro w';go_simp;with_reducible rfl
 rotate_left
 ·simp only [Act.put,sIb,sZ,sS,i64_w,i32_w];rfl
 refine pure_ (i:=2) (N:=some 13) (v:=?_) (a':=?_) #[Z,Y,Y,Z,Z,Z,Z,Z] rfl rfl (any_of HT_.out (by kernel_rfl)) (fun _ _ _ h=>h) (Or.inl ⟨by rfl,?_⟩) ?_ ?_;rotate_left
 ·intro w';go_simp;with_reducible rfl
 rotate_left
 ·simp only [Act.put,sIb,sZ,sS,i64_w,i32_w];rfl
 refine take_ (i:=0) (N:=some 11) (v:=?_) (a':=?_) #[Y,Y,Y,Z,Z,Z,Z,Z] rfl rfl (take_ofW HT_.out HW_.out (by kernel_rfl)) (fun _ _ _ h=>h) (Or.inl ⟨by rfl,?_⟩) hHeld ?_ ?_;rotate_left
 ·rintro w' ⟨s0,s1⟩;go_simp;with_reducible rfl
 rotate_left
 ·simp only [Act.put,sIb,sZ,sS,i64_w,i32_w];rfl
 refine take_ (i:=3) (N:=some 14) (v:=?_) (a':=?_) #[Y,Y,Y,Y,Z,Z,Z,Z] rfl rfl (take_ofW HT_.out HW_.out (by kernel_rfl)) (fun _ _ _ h=>h) (Or.inl ⟨by rfl,?_⟩) hHeld ?_ ?_;rotate_left
 ·rintro w' ⟨s0,s1⟩;go_simp;with_reducible rfl
 rotate_left
 ·simp only [Act.put,sIb,sZ,sS,i64_w,i32_w];rfl
 refine pure_ (i:=4) (N:=some 15) (v:=?_) (a':=?_) #[Y,Y,Y,Y,Y,Z,Z,Z] rfl rfl (any_of HT_.out (by kernel_rfl)) (fun _ _ _ h=>h) (Or.inl ⟨by rfl,?_⟩) ?_ ?_;rotate_left
 ·intro w';go_simp;with_reducible rfl
 rotate_left
 ·simp only [Act.put,sIb,sZ,sS,i64_w,i32_w];rfl
 refine one_ (i:=5) (N:=some 16) #[Y,Y,Y,Y,Y,Y,Z,Z] rfl rfl (one_of HT_.out (by kernel_rfl)) (by decide) (fun K hK=>?_);refine goes_ Try.func42 (by kernel_rfl) rfl #[.pointer (some ⟨ar,0,none⟩),.int .i64 (ai.length:Int)] (by rfl) rfl rfl (by (try simp only [mT,mC,mN]);first|done|rfl|(simp only [lD,lT];rfl)) ?_;with_reducible refine (spec_l1Cur_order.calls k ar av aG aH (ai.length:Int) aW bj bk w _ ?side1 ?side2 A4.out).mono ?_
 (case side1=>repeat (first|(with_reducible first|exact ab.out|apply IsS65.alloc|apply IsS65.drewN|apply IsS65.drew|apply IsS65.set_1|apply IsS65.set_2|refine IsS65.far ?_ ag.out _|refine IsS65.far ?_ an.out _)|exact ab.out));(case side2=>repeat (first|(with_reducible first|exact HB.out|apply qA|apply qD|apply qO|refine qS ?_ (IsS65.ge ab.out)|refine qS ?_ aJ.out|refine qS ?_ aM.out)|exact HB.out));rintro e bD ⟨bP,rfl,aT,hi,hb,hk⟩;refine ⟨_,rfl,?_⟩;have aw:=qK (KeepBut.blk hk (g':=ae) (o:=_) (by exact aa.out) az.out (by simp));have ax:=qK (Kd.R_mono (Kd.R_told (Kd.R_oldK (IsS65.apart (show IsS65 w _ ar av aG aH from by repeat (first|(with_reducible first|exact ab.out|apply IsS65.alloc|apply IsS65.drewN|apply IsS65.drew|apply IsS65.set_1|apply IsS65.set_2|refine IsS65.far ?_ ag.out _|refine IsS65.far ?_ an.out _)|exact ab.out)) aj.out (by decide)) hk) (Kd.R_base aT)) (fun _ h_=>h_.1));have au:=qK (Kd.S_mono (Kd.S_told (Kd.S_oldK (IsS65.apartS (show IsS65 w _ ar av aG aH from by repeat (first|(with_reducible first|exact ab.out|apply IsS65.alloc|apply IsS65.drewN|apply IsS65.drew|apply IsS65.set_1|apply IsS65.set_2|refine IsS65.far ?_ ag.out _|refine IsS65.far ?_ an.out _)|exact ab.out)) ak.out (by decide)) hk) (Kd.R_base aT)) (fun _ h_=>h_.1));have ay:=qK (KeepBut.blk hk (g':=ac) (o:=_) (by exact af.out) aA.out (by simp));have aD:=qK (Kd.R_lower (Kd.R_new' aT (Kd.R_lt aj.out)) (qZ (HB.out)));have aK:=qK (hb);have aV:=qK (hi);clear aa aj ak af HB ab;have aa:=aw;have aj:=ax;have ak:=au;have af:=ay;have aY:=aD;have HB:=aK;have ab:=aV;clear aw ax au ay aD aK aV;(try clear hb);(try clear aR);(try clear hk);(try clear hi);(try clear aT);refine hK.out _ _ ⟨(qC af.out 0).trans rfl,(qC af.out 1).trans rfl⟩ (fun hHeld=>?_);clear hK K;refine norm_ (a':=?_) ?_ ?_;rotate_left
 ·show Act.put _ (some 16) _=_
  simp only [Act.put,sIb,sZ,sS,i64_w,i32_w];rfl
 refine one_ (i:=6) (N:=none) #[Y,Y,Y,Y,Y,Y,Y,Z] rfl rfl (one_of HT_.out (by kernel_rfl)) (by decide) (fun K hK=>?_);have bQ:bD.cell? ⟨ae,0,none⟩=some (.slice none 0 0):=(qC aa.out 0).trans rfl;have bE:=qF aa.out 0;have bf:=ah.out;have bg:=am.out;have bR:bD.cell? ⟨ae,1,none⟩=some (.slice none 0 0):=(qC aa.out 1).trans rfl;have bF:=qF aa.out 1;have bh:=ah.out;have bi:=am.out;refine skip_ (w1:=?_) (by rfl) rfl ?_ ?_;rotate_left
 ·go_simp;rfl
 refine hK.out _ _ ⟨((cell_far (p:=⟨ae,_,none⟩) ah.out _).trans (((cell_far (p:=⟨ae,_,none⟩) ah.out _).trans (hHeld.1)))),((cell_far (p:=⟨ae,_,none⟩) ah.out _).trans (((cell_far (p:=⟨ae,_,none⟩) ah.out _).trans (hHeld.2))))⟩ (fun hHeld=>?_);clear hK K;refine pure_ (i:=7) (N:=some 3) (v:=?_) (a':=?_) #[Y,Y,Y,Y,Y,Y,Y,Y] rfl rfl (any_of HT_.out (by kernel_rfl)) (fun _ _ _ h=>h) (Or.inl ⟨by rfl,?_⟩) ?_ ?_;rotate_left
 ·intro w';go_simp;with_reducible rfl
 rotate_left
 ·simp only [Act.put,sIb,sZ,sS,i64_w,i32_w];rfl
 refine done_ (done_of HT_.out (by kernel_rfl)) ?_;try go_wp2
 refine bodyPost_ret (results_ct rfl _ _ ae 29 #[.slice aB ai.length aC,.slice ap al.length aq] (0,0) _ rfl (by (with_reducible repeat (first|refine qN ?_ _|refine qW ?_|refine qL ?_ _));refine qP (cs:=#[.slice aB ai.length aC,.slice none 0 0]) ?_ 1 _ rfl;(with_reducible repeat (first|refine qN ?_ _|refine qW ?_|refine qL ?_ _));refine qP (cs:=#[.slice none 0 0,.slice none 0 0]) ?_ 0 _ rfl;(with_reducible repeat (first|refine qN ?_ _|refine qW ?_|refine qL ?_ _));exact aa.out) Try.underlying29 rfl (by kernel_rfl)) rfl ?_;exact ⟨_,_,_,by rfl,Kd.R_mono (Kd.R_far (p:=⟨ae,1,none⟩) (Kd.R_far (p:=⟨ae,0,none⟩) (Kd.R_types aj.out aa.out (by decide)) (fun _ hk=>hk.2) (.slice aB ai.length aC)) (fun _ hk=>hk.2) (.slice ap al.length aq)) (fun _ hk=>hk.1.2),Kd.S_mono (Kd.S_far (p:=⟨ae,1,none⟩) (Kd.S_far (p:=⟨ae,0,none⟩) (Kd.S_types ak.out aa.out (by decide)) (fun _ hk=>hk.2) (.slice aB ai.length aC)) (fun _ hk=>hk.2) (.slice ap al.length aq)) (fun _ hk=>⟨hk.1.1,hk.1.2⟩),Kd.R_mono (Kd.R_far (p:=⟨ae,1,none⟩) (Kd.R_far (p:=⟨ae,0,none⟩) (Kd.R_types aY.out aa.out (by decide)) (fun _ hk=>hk.2) (.slice aB ai.length aC)) (fun _ hk=>hk.2) (.slice ap al.length aq)) (fun _ hk=>hk.1.2),by repeat (first|(with_reducible first|exact HB.out|apply qA|apply qD|apply qO|refine qS ?_ (IsS65.ge ab.out)|refine qS ?_ aJ.out|refine qS ?_ aM.out)|exact HB.out)⟩

/-! ### impl_set_has: function 64 -/
def impl_set_has.f (a0:Int) (a1:Int):Option (Bool):=some ((Go.bits .and .i64 a0 a1) == a1)
set_option maxHeartbeats 8000000 in
set_option maxRecDepth 100000 in
theorem impl_set_has.calls (a0:Int) (a1:Int) (r:Bool) (w:World) (h:impl_set_has.f a0 a1=some r) :
  Calls Try.prog 64 #[.int .i64 a0,.int .i64 a1] w fun e w'=>e=.returned (.bool r)∧Drawn0 w w':=by
 have H:(some ((Go.bits .and .i64 a0 a1) == a1))=some r:=h;clear h;obtain rfl:=Option.some.inj H;go_enter Try.func64,Try.ntmps64
 go_wp2
 go_ret
 exact ⟨by first|rfl|(simp;done)|(simp [*];done),by repeat (first|exact Drawn0.refl _|apply Drawn0.step)⟩

/-! ### impl_Stats_isOrder: function 50 -/
def impl_Stats_isOrder.l0 : Nat→List Int→Int→List Int→Int→Int→List Int→List (List Int)→Option (Bool)
 | 0,_,_,_,_,_,_,_=>none
 | k + 1,x1,x5,x8,x9,x10,x365000,x365001=>if x10 < x9 then (if 0≤x10 then (if x10 < (x8.length:Int) then ((impl_within.f (rd x8 x10) 0 (wrap64 ((x365000.length:Int) - 1))).bind fun t366=>(if t366=true then (if 0≤(rd x8 x10) then ((impl_set_has.f x5 (shl .i64 1 (rd x8 x10))).bind fun t367=>(if t367=true then (some false) else (impl_Stats_isOrder.l0 k x1 (Go.bits .or .i64 x5 (shl .i64 1 (rd x8 x10))) x8 x9 (wrap64 (x10 + 1)) x365000 x365001))) else (none)) else (some false))) else (none)) else (none)) else (some ((x1.length:Int) == (x365000.length:Int)))
def impl_Stats_isOrder.f (k:Nat) (l0_0:List Int) (l0_1:List (List Int)) (l1:List Int):Option (Bool):=impl_Stats_isOrder.l0 k l1 0 l1 (l1.length:Int) 0 l0_0 l0_1
theorem impl_Stats_isOrder.mono_l : ∀ k,(∀ y0 y1 y2 y3 y4 y5 y6,LeO (impl_Stats_isOrder.l0 k y0 y1 y2 y3 y4 y5 y6) (impl_Stats_isOrder.l0 (k + 1) y0 y1 y2 y3 y4 y5 y6))
 | 0=>fun _ _ _ _ _ _ _ r h=>by simp [impl_Stats_isOrder.l0] at h
 | k + 1=>by
  have aa:=impl_Stats_isOrder.mono_l k
  ·intro y0 y1 y2 y3 y4 y5 y6;unfold impl_Stats_isOrder.l0
   repeat' first
   | (with_reducible exact aa _ _ _ _ _ _ _)
   | (with_reducible exact LeO.refl _)
   | (with_reducible exact LeO.none _)
   | (with_reducible refine LeO.ite ?_ ?_)
   | (with_reducible refine LeO.bind ?_ (fun _=>?_))
   | exact aa _ _ _ _ _ _ _
   | exact LeO.none _
   | refine LeO.ite ?_ ?_
   | refine LeO.bind ?_ (fun _=>?_)
theorem impl_Stats_isOrder.mono : ∀ a0 a1 a2 k,LeO (impl_Stats_isOrder.f k a0 a1 a2) (impl_Stats_isOrder.f (k + 1) a0 a1 a2):=by
 intro a0 a1 a2 k;have aa:=impl_Stats_isOrder.mono_l k;unfold impl_Stats_isOrder.f
 repeat' first
   | (with_reducible exact aa _ _ _ _ _ _ _)
   | (with_reducible exact LeO.refl _)
   | (with_reducible exact LeO.none _)
   | (with_reducible refine LeO.ite ?_ ?_)
   | (with_reducible refine LeO.bind ?_ (fun _=>?_))
   | exact aa _ _ _ _ _ _ _
   | exact LeO.none _
   | refine LeO.ite ?_ ?_
   | refine LeO.bind ?_ (fun _=>?_)
set_option maxHeartbeats 8000000 in
set_option maxRecDepth 100000 in
theorem impl_Stats_isOrder.calls (k:Nat) (am:Option Addr) (an:Nat) (ae:List Int) (ao:Option Addr) (ap:Nat) (af:List (List Int)) (A1:Option Addr) (c1:Nat) (l1:List Int) (r:Bool) (w:World) (ax:Kd.C (Kd.int .i64) w am ae.length ae) (ay:ae.length≤an) (az:Kd.C (Kd.slice 3 (Kd.int .i64)) w ao af.length af) (aA:af.length≤ap) (bg:Kd.C (Kd.int .i64) w A1 l1.length l1) (bh:l1.length≤c1) (h:impl_Stats_isOrder.f k ae af l1=some r) :
  Calls Try.prog 50 #[.agg #[.slice am ae.length an,.slice ao af.length ap],.slice A1 l1.length c1] w fun e w'=>e=.returned (.bool r)∧Below w.heap.size w w':=by
 have bu:=Try.underlying29;have bi:=qK ax;have bj:=qK ay;clear ax ay;have bk:=qK az;have bl:=qK aA;clear az aA;have aZ:=qK bg;have bB:=qK bh;clear bg bh;have HB:=qK (Below.refl w.heap.size w);have H:(impl_Stats_isOrder.l0 k l1 0 l1 (l1.length:Int) 0 ae af)=some r:=h;clear h;have H':=qK H;clear H;go_enter Try.func50,Try.ntmps50
 go_wp2_with (first|((with_reducible refine gate_dst (N:=2) rfl ?_);refine box_event ?hg (N:=2) ?hd (cs:=#[.slice am ae.length an,.slice ao af.length ap]) (t:=29) ?hr ?_;(case hd=>rfl);(case hg=>rfl);(case hr=>(go_simp;try rfl));intro ag hg w3 hbox hb;have bm:=qK (qT HB.out hb);have bn:=qK (hbox);have ba:=qK ((by rw [hg];exact (qZ HB.out):w.heap.size≤ag));have bo:=ba;clear HB;have HB:=bm;have ab:=bn;have bp:=ba;have ar:=bo;clear bm bn ba bo;clear hb hbox hg))
 go_loopg [5,10] k (fun kq v5 bv w'=>∃ (ah:Int) (aa:Int),v5=.int .i64 ah∧bv=.int .i64 aa∧Aside0 (impl_Stats_isOrder.l0 kq l1 ah l1 (l1.length:Int) aa ae af=some r)∧Aside0 (kq≤k)∧Aside0 (w'.heap[ag]?=some (.cells #[(.slice am ae.length an),(.slice ao af.length ap)] 29 (0,0)))∧Aside0 (Below w.heap.size w w'))
 case atStart=>exact ⟨(0),(0),(by rfl),(by rfl),H',⟨Nat.le_refl _⟩,⟨ab.out⟩,⟨HB.out⟩⟩
 case round =>
  clear H';try clear c1
  try clear p2
  obtain ⟨ah,aa,rfl,rfl,HA,bq,ab,HB⟩:=hrel;cases gk with
  | zero=>exact absurd HA.out (by simp [impl_Stats_isOrder.l0])
  | succ k1 =>
   have H:=HA.out;clear HA;simp only [impl_Stats_isOrder.l0] at H;by_cases c4:aa < (l1.length:Int)
   ·rw [if_pos c4] at H;have bb:decide (aa < (l1.length:Int))=true:=decide_eq_true c4;clear c4;by_cases c5:0≤aa
    ·rw [if_pos c5] at H;have bw:decide (0≤aa)=true:=decide_eq_true c5;clear c5;by_cases c6:aa < (l1.length:Int)
     ·rw [if_pos c6] at H;have bx:decide (aa < (l1.length:Int))=true:=decide_eq_true c6;clear c6;replace H:=Option.bind_eq_some_iff.mp H;obtain ⟨aC,br,H⟩:=H;replace H:(if aC=true then (if 0≤(rd l1 aa) then ((impl_set_has.f ah (shl .i64 1 (rd l1 aa))).bind fun aq=>(if aq=true then (some false) else (impl_Stats_isOrder.l0 k1 l1 (Go.bits .or .i64 ah (shl .i64 1 (rd l1 aa))) l1 (l1.length:Int) (wrap64 (aa + 1)) ae af))) else (none)) else (some false))=some r:=H;have A7:=qK br;clear br;by_cases c8:aC=true
      ·subst c8;have H1:(if 0≤(rd l1 aa) then ((impl_set_has.f ah (shl .i64 1 (rd l1 aa))).bind fun aq=>(if aq=true then (some false) else (impl_Stats_isOrder.l0 k1 l1 (Go.bits .or .i64 ah (shl .i64 1 (rd l1 aa))) l1 (l1.length:Int) (wrap64 (aa + 1)) ae af))) else (none))=some r:=by rw [if_pos rfl] at H;exact H
       clear H;have H:=H1;clear H1;by_cases c9:0≤(rd l1 aa)
       ·rw [if_pos c9] at H;have bz:=eq_true c9;have bA:decide (0≤(rd l1 aa))=true:=decide_eq_true c9;clear c9;obtain ⟨ai,aj⟩:∃ j_:Int,(shl .i64 1 (rd l1 aa))=j_:=⟨_,rfl⟩;replace H:((impl_set_has.f ah (ai)).bind fun aq=>(if aq=true then (some false) else (impl_Stats_isOrder.l0 k1 l1 (Go.bits .or .i64 ah (ai)) l1 (l1.length:Int) (wrap64 (aa + 1)) ae af)))=some r:=by first|(rw [aj] at H;exact H)|(simp only [aj] at H ⊢;exact H)
        (try rw [aj] at A7);have au:(IntKind.i64.wrap (1 * 2 ^ min (rd l1 aa).toNat 64))=ai:=aj;have av:(rd l1 aa)≤64→(IntKind.i64.wrap (1 * 2 ^ (rd l1 aa).toNat))=ai:=shl_small aj;have bc:(IntKind.i64.wrap (2 ^ min (rd l1 aa).toNat 64))=ai:=by have h_:=au;rw [Int.one_mul] at h_;exact h_
        have bd:(rd l1 aa)≤64→(IntKind.i64.wrap (2 ^ (rd l1 aa).toNat))=ai:=fun hle_=>by have h_:=av hle_;rw [Int.one_mul] at h_;exact h_
        have be:(wrap64 (1 * 2 ^ min (rd l1 aa).toNat 64))=ai:=(i64_w _).symm.trans au;have bf:(rd l1 aa)≤64→(wrap64 (1 * 2 ^ (rd l1 aa).toNat))=ai:=fun h_=>(i64_w _).symm.trans (av h_)
        replace H:=Option.bind_eq_some_iff.mp H;obtain ⟨aq,aD,H⟩:=H;replace H:(if aq=true then (some false) else (impl_Stats_isOrder.l0 k1 l1 (Go.bits .or .i64 ah (ai)) l1 (l1.length:Int) (wrap64 (aa + 1)) ae af))=some r:=H;have bs:=qK aD;clear aD;by_cases c12:aq=true
        ·subst c12;have H1:(some false)=some r:=by rw [if_pos rfl] at H;exact H
         clear H;have H:=H1;clear H1;obtain rfl:=Option.some.inj H;have ak:0≤(aa:Int):=of_decide_eq_true (by assumption);have al:aa < (l1.length:Int):=of_decide_eq_true (by assumption);obtain ⟨aB,aw,ac⟩:=Kd.at_int aZ.out aa ak al;cases aw
         replace ac:=(HB.out.cell (World.block_lt_of_cell? w _ ac)).trans ac;replace ak:=eq_true ak;replace al:=eq_true al;have aE:wr.cell? ⟨ag,0,none⟩=some (.slice am ae.length an):=(qC ab.out 0).trans rfl;have aG:wr.cell? ⟨ag,1,none⟩=some (.slice ao af.length ap):=(qC ab.out 1).trans rfl;have aH:=qF ab.out 0;have aI:=qF ab.out 1;go_wp2_with (first|((with_reducible refine gate_callee (f:=45) rfl ?_);refine goesL_ (some 19) rfl rfl Try.func45 (by kernel_rfl) rfl #[.int .i64 (rd l1 aa),.int .i64 0,.int .i64 (wrap64 ((ae.length:Int) - 1))] rfl (by (try simp only [mT,mC,mN]);first|done|rfl|(simp only [lD,lT];rfl)) ?_;(with_reducible refine (impl_within.calls (rd l1 aa) 0 (wrap64 ((ae.length:Int) - 1)) true _ A7.out).mono ?_);rintro e w' ⟨rfl,⟨nd,rfl⟩⟩;refine ⟨_,rfl,?_⟩)|(go_at_call 64;(with_reducible refine (impl_set_has.calls ah ai true _ bs.out).mono ?_);rintro e w' ⟨rfl,⟨nd,rfl⟩⟩))
         go_ret
         exact ⟨by first|rfl|(simp [errW_none,errW_some] <;> rfl)|(simp only [← aj];first|rfl|(simp [errW_none,errW_some] <;> rfl))|(simp [*,errW_none,errW_some] <;> rfl),by repeat (first|(with_reducible first|exact HB.out|apply qA|apply qD|apply qO|refine qS ?_ ar.out)|exact HB.out)⟩
        ·replace c12:=Bool.eq_false_iff.mpr c12;subst c12;have H1:(impl_Stats_isOrder.l0 k1 l1 (Go.bits .or .i64 ah (ai)) l1 (l1.length:Int) (wrap64 (aa + 1)) ae af)=some r:=by rw [if_neg (show ¬ (false=true) by decide)] at H;exact H
         clear H;have H:=H1;clear H1;have bt:=eq_true (of_decide_eq_true (by assumption):0≤(rd l1 aa));have H':=qK H;clear H;have ak:0≤(aa:Int):=of_decide_eq_true (by assumption);have al:aa < (l1.length:Int):=of_decide_eq_true (by assumption);obtain ⟨aB,aw,ac⟩:=Kd.at_int aZ.out aa ak al;cases aw
         replace ac:=(HB.out.cell (World.block_lt_of_cell? w _ ac)).trans ac;replace ak:=eq_true ak;replace al:=eq_true al;have aJ:wr.cell? ⟨ag,0,none⟩=some (.slice am ae.length an):=(qC ab.out 0).trans rfl;have aK:wr.cell? ⟨ag,1,none⟩=some (.slice ao af.length ap):=(qC ab.out 1).trans rfl;have aM:=qF ab.out 0;have aN:=qF ab.out 1;go_wp2_with (first|((with_reducible refine gate_callee (f:=45) rfl ?_);refine goesL_ (some 19) rfl rfl Try.func45 (by kernel_rfl) rfl #[.int .i64 (rd l1 aa),.int .i64 0,.int .i64 (wrap64 ((ae.length:Int) - 1))] rfl (by (try simp only [mT,mC,mN]);first|done|rfl|(simp only [lD,lT];rfl)) ?_;(with_reducible refine (impl_within.calls (rd l1 aa) 0 (wrap64 ((ae.length:Int) - 1)) true _ A7.out).mono ?_);rintro e w' ⟨rfl,⟨nd,rfl⟩⟩;refine ⟨_,rfl,?_⟩)|(go_at_call 64;(with_reducible refine (impl_set_has.calls ah ai false _ bs.out).mono ?_);rintro e w' ⟨rfl,⟨nd,rfl⟩⟩))
         go_roundg k1
         case measure=>have:=bq.out;omega
         case rel=>exact ⟨(Go.bits .or .i64 ah (ai)),(wrap64 (aa + 1)),(by first|rfl|(simp;done)|(simp only [← aj] <;> (first|rfl|simp))|(simp [*];done)),(by rfl),H',⟨by have:=bq.out;omega⟩,⟨ab.out⟩,⟨by repeat (first|(with_reducible first|exact HB.out|apply qA|apply qD|apply qO|refine qS ?_ ar.out)|exact HB.out)⟩⟩
       ·rw [if_neg c9] at H;exact absurd H (by simp)
      ·replace c8:=Bool.eq_false_iff.mpr c8;subst c8;have H1:(some false)=some r:=by rw [if_neg (show ¬ (false=true) by decide)] at H;exact H
       clear H;have H:=H1;clear H1;obtain rfl:=Option.some.inj H;have ak:0≤(aa:Int):=of_decide_eq_true (by assumption);have al:aa < (l1.length:Int):=of_decide_eq_true (by assumption);obtain ⟨aB,aw,ac⟩:=Kd.at_int aZ.out aa ak al;cases aw
       replace ac:=(HB.out.cell (World.block_lt_of_cell? w _ ac)).trans ac;replace ak:=eq_true ak;replace al:=eq_true al;have aQ:wr.cell? ⟨ag,0,none⟩=some (.slice am ae.length an):=(qC ab.out 0).trans rfl;have aR:wr.cell? ⟨ag,1,none⟩=some (.slice ao af.length ap):=(qC ab.out 1).trans rfl;have aT:=qF ab.out 0;have aU:=qF ab.out 1;go_wp2_with (first|((with_reducible refine gate_callee (f:=45) rfl ?_);refine goesL_ (some 19) rfl rfl Try.func45 (by kernel_rfl) rfl #[.int .i64 (rd l1 aa),.int .i64 0,.int .i64 (wrap64 ((ae.length:Int) - 1))] rfl (by (try simp only [mT,mC,mN]);first|done|rfl|(simp only [lD,lT];rfl)) ?_;(with_reducible refine (impl_within.calls (rd l1 aa) 0 (wrap64 ((ae.length:Int) - 1)) false _ A7.out).mono ?_);rintro e w' ⟨rfl,⟨nd,rfl⟩⟩;refine ⟨_,rfl,?_⟩))
       go_ret
       exact ⟨by rfl,by repeat (first|(with_reducible first|exact HB.out|apply qA|apply qD|apply qO|refine qS ?_ ar.out)|exact HB.out)⟩
     ·rw [if_neg c6] at H;exact absurd H (by simp)
    ·rw [if_neg c5] at H;exact absurd H (by simp)
   ·rw [if_neg c4] at H;have bb:decide (aa < (l1.length:Int))=false:=decide_eq_false c4;clear c4;obtain rfl:=Option.some.inj H;have aV:wr.cell? ⟨ag,0,none⟩=some (.slice am ae.length an):=(qC ab.out 0).trans rfl;have aW:wr.cell? ⟨ag,1,none⟩=some (.slice ao af.length ap):=(qC ab.out 1).trans rfl;have aX:=qF ab.out 0;have aY:=qF ab.out 1;go_wp2
    go_ret
    exact ⟨by rfl,HB.out⟩

/-! ### impl_IsOrder: function 24 -/
def impl_IsOrder.f (k:Nat) (l0_0:List Int) (l0_1:List (List Int)) (l1:List Int):Option (Bool):=(impl_GoodStats.f k l0_0 l0_1).bind fun t369=>(if t369=true then ((impl_Stats_isOrder.f k l0_0 l0_1 l1).bind fun t370=>(some t370)) else (some false))
theorem impl_IsOrder.mono : ∀ a0 a1 a2 k,LeO (impl_IsOrder.f k a0 a1 a2) (impl_IsOrder.f (k + 1) a0 a1 a2):=by
 intro a0 a1 a2 k;unfold impl_IsOrder.f
 repeat' first
   | (with_reducible exact impl_GoodStats.mono _ _ _)
   | (with_reducible exact impl_Stats_isOrder.mono _ _ _ _)
   | (with_reducible exact LeO.refl _)
   | (with_reducible exact LeO.none _)
   | (with_reducible refine LeO.ite ?_ ?_)
   | (with_reducible refine LeO.bind ?_ (fun _=>?_))
   | exact impl_GoodStats.mono _ _ _
   | exact impl_Stats_isOrder.mono _ _ _ _
   | exact LeO.none _
   | refine LeO.ite ?_ ?_
   | refine LeO.bind ?_ (fun _=>?_)
set_option maxHeartbeats 8000000 in
set_option maxRecDepth 100000 in
theorem impl_IsOrder.calls (k:Nat) (af:Option Addr) (ag:Nat) (ab:List Int) (ah:Option Addr) (ai:Nat) (ac:List (List Int)) (A1:Option Addr) (c1:Nat) (l1:List Int) (r:Bool) (w:World) (ar:Kd.C (Kd.int .i64) w af ab.length ab) (au:ab.length≤ag) (av:Kd.C (Kd.slice 3 (Kd.int .i64)) w ah ac.length ac) (aw:ac.length≤ai) (aR:Kd.C (Kd.int .i64) w A1 l1.length l1) (aT:l1.length≤c1) (h:impl_IsOrder.f k ab ac l1=some r) :
  Calls Try.prog 24 #[.agg #[.slice af ab.length ag,.slice ah ac.length ai],.slice A1 l1.length c1] w fun e w'=>e=.returned (.bool r)∧Below w.heap.size w w':=by
 have aX:=Try.underlying29;have am:=qK ar;have an:=qK au;clear ar au;have ao:=qK av;have ap:=qK aw;clear av aw;have aY:=qK aR;have aZ:=qK aT;clear aR aT;have HB:=qK (Below.refl w.heap.size w);have H:((impl_GoodStats.f k ab ac).bind fun aq=>(if aq=true then ((impl_Stats_isOrder.f k ab ac l1).bind fun aj=>(some aj)) else (some false)))=some r:=h;clear h;replace H:=Option.bind_eq_some_iff.mp H;obtain ⟨aq,aU,H⟩:=H;replace H:(if aq=true then ((impl_Stats_isOrder.f k ab ac l1).bind fun aj=>(some aj)) else (some false))=some r:=H;have A3:=qK aU;clear aU;by_cases c4:aq=true
 ·subst c4;have H1:((impl_Stats_isOrder.f k ab ac l1).bind fun aj=>(some aj))=some r:=by rw [if_pos rfl] at H;exact H
  clear H;have H:=H1;clear H1;replace H:=Option.bind_eq_some_iff.mp H;obtain ⟨aj,aV,H⟩:=H;replace H:(some aj)=some r:=H;have A5:=qK aV;clear aV;obtain rfl:=Option.some.inj H;go_enter Try.func24,Try.ntmps24
  go_wp2_with (first|((with_reducible refine gate_dst (N:=2) rfl ?_);refine box_event ?hg (N:=2) ?hd (cs:=#[.slice af ab.length ag,.slice ah ac.length ai]) (t:=29) ?hr ?_;(case hd=>rfl);(case hg=>rfl);(case hr=>(go_simp;try rfl));intro ae hg w6 hbox hb;have ak:=qK (qT HB.out hb);have al:=qK (hbox);have ax:=qK ((by rw [hg];exact (qZ HB.out):w.heap.size≤ae));have ay:=ax;clear HB;have HB:=ak;have aa:=al;have az:=ax;have aA:=ay;clear ak al ax ay hb hbox hg;have aG:w6.cell? ⟨ae,0,none⟩=some (.slice af ab.length ag):=(qC aa.out 0).trans rfl;have aH:w6.cell? ⟨ae,1,none⟩=some (.slice ah ac.length ai):=(qC aa.out 1).trans rfl;have aI:=qF aa.out 0;have aJ:=qF aa.out 1)|((with_reducible refine gate_callee (f:=22) rfl ?_);refine goesL_ (some 6) rfl rfl Try.func22 (by kernel_rfl) rfl #[.agg #[.slice af ab.length ag,.slice ah ac.length ai]] rfl (by (try simp only [mT,mC,mN]);first|done|rfl|(simp only [lD,lT];rfl)) ?_;(with_reducible refine (impl_GoodStats.calls k _ _ ab _ _ ac true _ ?side1 ?side2 ?side3 ?side4 A3.out).mono ?_);(case side1=>exact (cB am.out HB.out));(case side2=>exact an.out);(case side3=>exact (cB ao.out HB.out));(case side4=>exact ap.out);rintro e w8 ⟨rfl,hb⟩;refine ⟨_,rfl,?_⟩;have ak:=qK (qB (g:=ae) (o:=_) (by exact aa.out) hb);have al:=qK (qT HB.out hb);clear aa HB;have aa:=ak;have HB:=al;clear ak al;(try clear hb);have aK:w8.cell? ⟨ae,0,none⟩=some (.slice af ab.length ag):=(qC aa.out 0).trans rfl;have aM:w8.cell? ⟨ae,1,none⟩=some (.slice ah ac.length ai):=(qC aa.out 1).trans rfl;have aN:=qF aa.out 0;have aQ:=qF aa.out 1)|(go_at_call 50;(with_reducible refine (impl_Stats_isOrder.calls k _ _ ab _ _ ac _ _ l1 aj _ ?side1 ?side2 ?side3 ?side4 ?side5 ?side6 A5.out).mono ?_);(case side1=>exact (cB am.out HB.out));(case side2=>exact an.out);(case side3=>exact (cB ao.out HB.out));(case side4=>exact ap.out);(case side5=>exact (cB aY.out HB.out));(case side6=>exact aZ.out);rintro e ba ⟨rfl,hb⟩;have ak:=qK (qB (g:=ae) (o:=_) (by exact aa.out) hb);have al:=qK (qT HB.out hb);clear aa HB;have aa:=ak;have HB:=al;clear ak al;(try clear hb)))
  go_ret
  exact ⟨by rfl,HB.out⟩
 ·replace c4:=Bool.eq_false_iff.mpr c4;subst c4;have H1:(some false)=some r:=by rw [if_neg (show ¬ (false=true) by decide)] at H;exact H
  clear H;have H:=H1;clear H1;obtain rfl:=Option.some.inj H;go_enter Try.func24,Try.ntmps24
  go_wp2_with (first|((with_reducible refine gate_dst (N:=2) rfl ?_);refine box_event ?hg (N:=2) ?hd (cs:=#[.slice af ab.length ag,.slice ah ac.length ai]) (t:=29) ?hr ?_;(case hd=>rfl);(case hg=>rfl);(case hr=>(go_simp;try rfl));intro ae hg aW hbox hb;have ak:=qK (qT HB.out hb);have al:=qK (hbox);have ax:=qK ((by rw [hg];exact (qZ HB.out):w.heap.size≤ae));have ay:=ax;clear HB;have HB:=ak;have aa:=al;have az:=ax;have aA:=ay;clear ak al ax ay hb hbox hg;have aB:aW.cell? ⟨ae,0,none⟩=some (.slice af ab.length ag):=(qC aa.out 0).trans rfl;have aC:aW.cell? ⟨ae,1,none⟩=some (.slice ah ac.length ai):=(qC aa.out 1).trans rfl;have aD:=qF aa.out 0;have aE:=qF aa.out 1)|((with_reducible refine gate_callee (f:=22) rfl ?_);refine goesL_ (some 6) rfl rfl Try.func22 (by kernel_rfl) rfl #[.agg #[.slice af ab.length ag,.slice ah ac.length ai]] rfl (by (try simp only [mT,mC,mN]);first|done|rfl|(simp only [lD,lT];rfl)) ?_;(with_reducible refine (impl_GoodStats.calls k _ _ ab _ _ ac false _ ?side1 ?side2 ?side3 ?side4 A3.out).mono ?_);(case side1=>exact (cB am.out HB.out));(case side2=>exact an.out);(case side3=>exact (cB ao.out HB.out));(case side4=>exact ap.out);rintro e bb ⟨rfl,hb⟩;refine ⟨_,rfl,?_⟩;have ak:=qK (qB (g:=ae) (o:=_) (by exact aa.out) hb);have al:=qK (qT HB.out hb);clear aa HB;have aa:=ak;have HB:=al;clear ak al;(try clear hb)))
  go_ret
  exact ⟨by rfl,HB.out⟩

/-! ### impl_CostOf: function 19 -/
def impl_CostOf.l0 : Nat→List Int→Int→Int→List Int→List (List Int)→Option (Int × Bool)
 | 0,_,_,_,_,_=>none
 | k + 1,x1,x6,x7,x372000,x372001=>if x7≤(x1.length:Int) then (if 0≤x7 then ((impl_setOf.f k (x1.take (x7:Int).toNat)).bind fun t374=>((impl_Stats_size.f k x372000 x372001 t374).bind fun t375=>(impl_CostOf.l0 k x1 (wrap64 (x6 + t375)) (wrap64 (x7 + 1)) x372000 x372001))) else (none)) else (some (x6,true))
def impl_CostOf.f (k:Nat) (l0_0:List Int) (l0_1:List (List Int)) (l1:List Int):Option (Int × Bool):=(impl_IsOrder.f k l0_0 l0_1 l1).bind fun t372=>(if t372=true then (impl_CostOf.l0 k l1 0 2 l0_0 l0_1) else (some (0,false)))
theorem impl_CostOf.mono_l : ∀ k,(∀ y0 y1 y2 y3 y4,LeO (impl_CostOf.l0 k y0 y1 y2 y3 y4) (impl_CostOf.l0 (k + 1) y0 y1 y2 y3 y4))
 | 0=>fun _ _ _ _ _ r h=>by simp [impl_CostOf.l0] at h
 | k + 1=>by
  have aa:=impl_CostOf.mono_l k
  ·intro y0 y1 y2 y3 y4;unfold impl_CostOf.l0
   repeat' first
   | (with_reducible exact aa _ _ _ _ _)
   | (with_reducible exact impl_IsOrder.mono _ _ _ _)
   | (with_reducible exact impl_Stats_size.mono _ _ _ _)
   | (with_reducible exact impl_setOf.mono _ _)
   | (with_reducible exact LeO.refl _)
   | (with_reducible exact LeO.none _)
   | (with_reducible refine LeO.ite ?_ ?_)
   | (with_reducible refine LeO.bind ?_ (fun _=>?_))
   | exact aa _ _ _ _ _
   | exact impl_IsOrder.mono _ _ _ _
   | exact impl_Stats_size.mono _ _ _ _
   | exact impl_setOf.mono _ _
   | exact LeO.none _
   | refine LeO.ite ?_ ?_
   | refine LeO.bind ?_ (fun _=>?_)
theorem impl_CostOf.mono : ∀ a0 a1 a2 k,LeO (impl_CostOf.f k a0 a1 a2) (impl_CostOf.f (k + 1) a0 a1 a2):=by
 intro a0 a1 a2 k;have aa:=impl_CostOf.mono_l k;unfold impl_CostOf.f
 repeat' first
   | (with_reducible exact aa _ _ _ _ _)
   | (with_reducible exact impl_IsOrder.mono _ _ _ _)
   | (with_reducible exact impl_Stats_size.mono _ _ _ _)
   | (with_reducible exact impl_setOf.mono _ _)
   | (with_reducible exact LeO.refl _)
   | (with_reducible exact LeO.none _)
   | (with_reducible refine LeO.ite ?_ ?_)
   | (with_reducible refine LeO.bind ?_ (fun _=>?_))
   | exact aa _ _ _ _ _
   | exact impl_IsOrder.mono _ _ _ _
   | exact impl_Stats_size.mono _ _ _ _
   | exact impl_setOf.mono _ _
   | exact LeO.none _
   | refine LeO.ite ?_ ?_
   | refine LeO.bind ?_ (fun _=>?_)
def impl_CostOf.T7 : Bool × List (List Nat × List Nat):=(true,[([],[]),([],[]),([],[]),([],[]),([2,3],[2,3]),([4],[4]),([1,5,5],[1,5]),([0,6],[0,6]),([7,6,0,1,2,3,4,5,6,7],[0,7])])
def impl_CostOf.B7 : List Nat:=[0,0,0,0,12,28,62,127,255]
theorem impl_CostOf.tab7 : rtab .any (opsOf Try.f19 7)=impl_CostOf.T7:=by kernel_rfl
theorem impl_CostOf.bits7 : waitsOk impl_CostOf.T7.2 impl_CostOf.B7=true:=by kernel_rfl
set_option maxHeartbeats 8000000 in
set_option maxRecDepth 100000 in
theorem impl_CostOf.calls (k:Nat) (ag:Option Addr) (ah:Nat) (ab:List Int) (ai:Option Addr) (aj:Nat) (ac:List (List Int)) (A1:Option Addr) (c1:Nat) (l1:List Int) (r1:Int) (r2:Bool) (w:World) (ax:Kd.C (Kd.int .i64) w ag ab.length ab) (ay:ab.length≤ah) (az:Kd.C (Kd.slice 3 (Kd.int .i64)) w ai ac.length ac) (aA:ac.length≤aj) (bc:Kd.C (Kd.int .i64) w A1 l1.length l1) (bd:l1.length≤c1) (h:impl_CostOf.f k ab ac l1=some (r1,r2)) :
  Calls Try.prog 19 #[.agg #[.slice ag ab.length ah,.slice ai ac.length aj],.slice A1 l1.length c1] w fun e w'=>e=.returned (.tuple #[.int .i64 r1,.bool r2])∧Below w.heap.size w w':=by
 have bi:=Try.underlying29;have ao:=qK ax;have ap:=qK ay;clear ax ay;have aq:=qK az;have ar:=qK aA;clear az aA;have aZ:=qK bc;have ba:=qK bd;clear bc bd;have HB:=qK (Below.refl w.heap.size w);have H:((impl_IsOrder.f k ab ac l1).bind fun av=>(if av=true then (impl_CostOf.l0 k l1 0 2 ab ac) else (some (0,false))))=some (r1,r2):=h;clear h;replace H:=Option.bind_eq_some_iff.mp H;obtain ⟨av,be,H⟩:=H;replace H:(if av=true then (impl_CostOf.l0 k l1 0 2 ab ac) else (some (0,false)))=some (r1,r2):=H;have A3:=qK be;clear be;by_cases c4:av=true
 ·subst c4;have H1:(impl_CostOf.l0 k l1 0 2 ab ac)=some (r1,r2):=by rw [if_pos rfl] at H;exact H
  clear H;have H:=H1;clear H1;have H':=qK H;clear H;go_enter Try.func19,Try.ntmps19
  go_wp2_with (first|((with_reducible refine gate_dst (N:=2) rfl ?_);refine box_event ?hg (N:=2) ?hd (cs:=#[.slice ag ab.length ah,.slice ai ac.length aj]) (t:=29) ?hr ?_;(case hd=>rfl);(case hg=>rfl);(case hr=>(go_simp;try rfl));intro ae hg w5 hbox hb;have ak:=qK (qT HB.out hb);have al:=qK (hbox);have aE:=qK ((by rw [hg];exact (qZ HB.out):w.heap.size≤ae));have aK:=aE;clear HB;have HB:=ak;have aa:=al;have aM:=aE;have am:=aK;clear ak al aE aK hb hbox hg;have aG:w5.cell? ⟨ae,0,none⟩=some (.slice ag ab.length ah):=(qC aa.out 0).trans rfl;have aH:w5.cell? ⟨ae,1,none⟩=some (.slice ai ac.length aj):=(qC aa.out 1).trans rfl;have aI:=qF aa.out 0;have aJ:=qF aa.out 1)|((with_reducible refine gate_callee (f:=24) rfl ?_);refine goesL_ (some 10) rfl rfl Try.func24 (by kernel_rfl) rfl #[.agg #[.slice ag ab.length ah,.slice ai ac.length aj],.slice A1 l1.length c1] rfl (by (try simp only [mT,mC,mN]);first|done|rfl|(simp only [lD,lT];rfl)) ?_;(with_reducible refine (impl_IsOrder.calls k _ _ ab _ _ ac _ _ l1 true _ ?side1 ?side2 ?side3 ?side4 ?side5 ?side6 A3.out).mono ?_);(case side1=>exact (cB ao.out HB.out));(case side2=>exact ap.out);(case side3=>exact (cB aq.out HB.out));(case side4=>exact ar.out);(case side5=>exact (cB aZ.out HB.out));(case side6=>exact ba.out);rintro e w7 ⟨rfl,hb⟩;refine ⟨_,rfl,?_⟩;have ak:=qK (qB (g:=ae) (o:=_) (by exact aa.out) hb);have al:=qK (qT HB.out hb);clear aa HB;have aa:=ak;have HB:=al;clear ak al;(try clear hb)))
  go_loopg [6,7] k (fun kq v6 v7 w'=>∃ (an:Int) (af:Int),v6=.int .i64 an∧v7=.int .i64 af∧Aside0 (impl_CostOf.l0 kq l1 an af ab ac=some (r1,r2))∧Aside0 (kq≤k)∧Aside0 (w'.heap[ae]?=some (.cells #[(.slice ag ab.length ah),(.slice ai ac.length aj)] 29 (0,0)))∧Aside0 (Below w.heap.size w w'))
  case atStart=>exact ⟨(0),(2),(by rfl),(by rfl),H',⟨Nat.le_refl _⟩,⟨aa.out⟩,⟨HB.out⟩⟩
  case round =>
   clear H';try clear c1
   try clear c2
   try clear p2
   try clear c4
   try clear aG
   try clear aH
   try clear aI
   try clear aJ
   obtain ⟨an,af,rfl,rfl,HA,bf,aa,HB⟩:=hrel;cases gk with
   | zero=>exact absurd HA.out (by simp [impl_CostOf.l0])
   | succ k1 =>
    have H:=HA.out;clear HA;simp only [impl_CostOf.l0] at H;by_cases c8:af≤(l1.length:Int)
    ·rw [if_pos c8] at H;have bb:decide (af≤(l1.length:Int))=true:=decide_eq_true c8;clear c8;by_cases c9:0≤af
     ·rw [if_pos c9] at H;have bj:=eq_true c9;have bk:decide (0≤af)=true:=decide_eq_true c9;clear c9;have bg:=eq_true (of_decide_eq_true (by assumption):af≤(l1.length:Int));replace H:=Option.bind_eq_some_iff.mp H;obtain ⟨aw,aN,H⟩:=H;replace H:((impl_Stats_size.f k1 ab ac aw).bind fun au=>(impl_CostOf.l0 k1 l1 (wrap64 (an + au)) (wrap64 (af + 1)) ab ac))=some (r1,r2):=H;have bl:=qK aN;clear aN;replace H:=Option.bind_eq_some_iff.mp H;obtain ⟨au,aQ,H⟩:=H;replace H:(impl_CostOf.l0 k1 l1 (wrap64 (an + au)) (wrap64 (af + 1)) ab ac)=some (r1,r2):=H;have bm:=qK aQ;clear aQ;have H':=qK H;clear H;try go_wp2
      (try (rw [drewN_self wr];generalize hq_:World.drewN wr _=wr;have ak:Aside0 (wr.heap[ae]?=some (.cells #[.slice ag ab.length ah,.slice ai ac.length aj] 29 (0,0))):=⟨by rw [← hq_];exact aa.out⟩;have al:Aside0 (Below w.heap.size w wr):=⟨by rw [← hq_];exact HB.out⟩;clear aa HB hq_;have aa:=ak;have HB:=al;clear ak al));have ak:=qK (qW aa.out);have al:=qK (qO HB.out);clear aa HB;have aa:=ak;have HB:=al;clear ak al;obtain ⟨i014,aB,_,aC,_⟩:=info_parts info3;obtain ⟨hcut14,aR,aT⟩:=print_take_of (P:=Try.prog) (Value.int .i64) 0 22 3 .i64 Try.underlying22 aB aC A1 c1 l1 af (of_decide_eq_true (by assumption)) (of_decide_eq_true (by assumption)) ba.out;have aD:=qK (Kd.C_of_reads (h1:=fun _=>rfl) (aR _ (Kd.reads_of_C aZ.out)));have aU:=qK aT;clear aR aT aB aC;refine start_ (n:=9) (S:=fun w'=>w'.cell? ⟨ae,0,none⟩=some (.slice ag ab.length ah)∧w'.cell? ⟨ae,1,none⟩=some (.slice ai ac.length aj)) (ds:=[]) #[Z,Z,Z,Z,Z,Z,Z,Z,Z] (by kernel_rfl) rfl rfl ⟨(qC aa.out 0).trans rfl,(qC aa.out 1).trans rfl⟩ (fun hHeld=>?_);refine with_tabW impl_CostOf.tab7 impl_CostOf.bits7 (fun HT_ HW_=>?_);generalize wr.drew=w13 at aa HB aD hHeld ⊢
      refine pure_ (i:=0) (N:=some 18) (v:=?_) (a':=?_) #[Y,Z,Z,Z,Z,Z,Z,Z,Z] rfl rfl (any_of HT_.out (by kernel_rfl)) (fun _ _ _ h=>h) (Or.inl ⟨by rfl,?_⟩) ?_ ?_;rotate_left
      ·intro w';go_simp;with_reducible rfl
      rotate_left
      ·simp only [Act.put,sIb,sZ,sS,i64_w,i32_w];rfl
      refine pure_ (i:=2) (N:=some 20) (v:=?_) (a':=?_) #[Y,Z,Y,Z,Z,Z,Z,Z,Z] rfl rfl (any_of HT_.out (by kernel_rfl)) (fun _ _ _ h=>h) (Or.inl ⟨by rfl,?_⟩) ?_ ?_;rotate_left
      ·intro w';go_simp;with_reducible rfl
      rotate_left
      ·simp only [Act.put,sIb,sZ,sS,i64_w,i32_w];rfl
      refine pure_ (i:=3) (N:=some 21) (v:=?_) (a':=?_) #[Y,Z,Y,Y,Z,Z,Z,Z,Z] rfl rfl (any_of HT_.out (by kernel_rfl)) (fun _ _ _ h=>h) (Or.inl ⟨by rfl,?_⟩) ?_ ?_;rotate_left
      ·intro w';go_simp;with_reducible rfl
      rotate_left
      ·simp only [Act.put,sIb,sZ,sS,i64_w,i32_w];rfl
      refine pure_ (i:=4) (N:=some 22) (v:=?_) (a':=?_) #[Y,Z,Y,Y,Y,Z,Z,Z,Z] rfl rfl (any_of HT_.out (by kernel_rfl)) (fun _ _ _ h=>h) (Or.inl ⟨by rfl,?_⟩) ?_ ?_;rotate_left
      ·intro w';go_simp;with_reducible rfl
      rotate_left
      ·simp only [Act.put,sIb,sZ,sS,i64_w,i32_w];rfl
      refine take_ (i:=1) (N:=some 19) (v:=?_) (a':=?_) #[Y,Y,Y,Y,Y,Z,Z,Z,Z] rfl rfl (take_ofW HT_.out HW_.out (by kernel_rfl)) (fun _ _ _ h=>h) (Or.inl ⟨by rfl,?_⟩) hHeld ?_ ?_;rotate_left
      ·rintro w' ⟨s0,s1⟩;go_simp;with_reducible rfl
      rotate_left
      ·simp only [Act.put,sIb,sZ,sS,i64_w,i32_w];rfl
      refine one_ (i:=5) (N:=some 23) #[Y,Y,Y,Y,Y,Y,Z,Z,Z] rfl rfl (one_of HT_.out (by kernel_rfl)) (by decide) (fun K hK=>?_);refine goes_ Try.func36 (by kernel_rfl) rfl #[.slice A1 (l1.take (af:Int).toNat).length c1] (by rfl) rfl rfl (by (try simp only [mT,mC,mN]);first|done|(rw [show (l1.take (af:Int).toNat).length=af.toNat from (by rw [lT];have h_:(af:Int)≤(l1.length:Int):=of_decide_eq_true (by assumption);omega)] <;> rfl)|rfl|(simp only [lD,lT];rfl)) ?_;with_reducible refine (impl_setOf.calls k1 _ _ (l1.take (af:Int).toNat) aw _ ?side1 ?side2 bl.out).mono ?_
      (case side1=>exact (cB aD.out HB.out));(case side2=>exact aU.out);rintro e w' ⟨rfl,⟨nd,rfl⟩⟩;refine ⟨_,rfl,?_⟩;refine hK.out _ _ ⟨(qC aa.out 0).trans rfl,(qC aa.out 1).trans rfl⟩ (fun hHeld=>?_);clear hK K;refine norm_ (a':=?_) ?_ ?_;rotate_left
      ·show Act.put _ (some 23) _=_
       simp only [Act.put,sIb,sZ,sS,i64_w,i32_w];rfl
      refine one_ (i:=6) (N:=some 24) #[Y,Y,Y,Y,Y,Y,Y,Z,Z] rfl rfl (one_of HT_.out (by kernel_rfl)) (by decide) (fun K hK=>?_);refine goes_ Try.func43 (by kernel_rfl) rfl #[.agg #[.slice ag ab.length ah,.slice ai ac.length aj],.int .i64 aw] (by rfl) rfl rfl (by (try simp only [mT,mC,mN]);first|done|rfl|(simp only [lD,lT];rfl)) ?_;with_reducible refine (impl_Stats_size.calls k1 _ _ ab _ _ ac aw au _ ?side1 ?side2 ?side3 ?side4 bm.out).mono ?_
      (case side1=>exact (cB ao.out (by repeat (with_reducible first|exact HB.out|apply qA|apply qD|apply qO|refine qS ?_ am.out))));(case side2=>exact ap.out);(case side3=>exact (cB aq.out (by repeat (with_reducible first|exact HB.out|apply qA|apply qD|apply qO|refine qS ?_ am.out))));(case side4=>exact ar.out);rintro e bn ⟨rfl,hb⟩;refine ⟨_,rfl,?_⟩;have ak:=qK (qB (g:=ae) (o:=_) (by exact aa.out) hb);have al:=qK (qT (by repeat (with_reducible first|exact HB.out|apply qA|apply qD|apply qO|refine qS ?_ am.out)) hb);clear aa HB;have aa:=ak;have HB:=al;clear ak al;(try clear hb);refine hK.out _ _ ⟨(qC aa.out 0).trans rfl,(qC aa.out 1).trans rfl⟩ (fun hHeld=>?_);clear hK K;refine norm_ (a':=?_) ?_ ?_;rotate_left
      ·show Act.put _ (some 24) _=_
       simp only [Act.put,sIb,sZ,sS,i64_w,i32_w];rfl
      refine pure_ (i:=7) (N:=some 25) (v:=?_) (a':=?_) #[Y,Y,Y,Y,Y,Y,Y,Y,Z] rfl rfl (any_of HT_.out (by kernel_rfl)) (fun _ _ _ h=>h) (Or.inl ⟨by rfl,?_⟩) ?_ ?_;rotate_left
      ·intro w';go_simp;with_reducible rfl
      rotate_left
      ·simp only [Act.put,sIb,sZ,sS,i64_w,i32_w];rfl
      refine pure_ (i:=8) (N:=some 6) (v:=?_) (a':=?_) #[Y,Y,Y,Y,Y,Y,Y,Y,Y] rfl rfl (any_of HT_.out (by kernel_rfl)) (fun _ _ _ h=>h) (Or.inl ⟨by rfl,?_⟩) ?_ ?_;rotate_left
      ·intro w';go_simp;with_reducible rfl
      rotate_left
      ·simp only [Act.put,sIb,sZ,sS,i64_w,i32_w];rfl
      refine done_ (done_of HT_.out (by kernel_rfl)) ?_;try go_wp2
      go_roundg k1
      case measure=>have:=bf.out;omega
      case rel=>exact ⟨(wrap64 (an + au)),(wrap64 (af + 1)),(by rfl),(by rfl),H',⟨by have:=bf.out;omega⟩,⟨aa.out⟩,⟨HB.out⟩⟩
     ·rw [if_neg c9] at H;exact absurd H (by simp)
    ·rw [if_neg c8] at H;have bb:decide (af≤(l1.length:Int))=false:=decide_eq_false c8;clear c8;simp only [Option.some.injEq,Prod.mk.injEq] at H;obtain ⟨rfl,rfl⟩:=H;go_wp2
     go_ret2
     exact ⟨by rfl,HB.out⟩
 ·replace c4:=Bool.eq_false_iff.mpr c4;subst c4;have H1:(some (0,false))=some (r1,r2):=by rw [if_neg (show ¬ (false=true) by decide)] at H;exact H
  clear H;have H:=H1;clear H1;simp only [Option.some.injEq,Prod.mk.injEq] at H;obtain ⟨rfl,rfl⟩:=H;go_enter Try.func19,Try.ntmps19
  go_wp2_with (first|((with_reducible refine gate_dst (N:=2) rfl ?_);refine box_event ?hg (N:=2) ?hd (cs:=#[.slice ag ab.length ah,.slice ai ac.length aj]) (t:=29) ?hr ?_;(case hd=>rfl);(case hg=>rfl);(case hr=>(go_simp;try rfl));intro ae hg bh hbox hb;have ak:=qK (qT HB.out hb);have al:=qK (hbox);have aE:=qK ((by rw [hg];exact (qZ HB.out):w.heap.size≤ae));have aK:=aE;clear HB;have HB:=ak;have aa:=al;have aM:=aE;have am:=aK;clear ak al aE aK hb hbox hg;have aV:bh.cell? ⟨ae,0,none⟩=some (.slice ag ab.length ah):=(qC aa.out 0).trans rfl;have aW:bh.cell? ⟨ae,1,none⟩=some (.slice ai ac.length aj):=(qC aa.out 1).trans rfl;have aX:=qF aa.out 0;have aY:=qF aa.out 1)|((with_reducible refine gate_callee (f:=24) rfl ?_);refine goesL_ (some 10) rfl rfl Try.func24 (by kernel_rfl) rfl #[.agg #[.slice ag ab.length ah,.slice ai ac.length aj],.slice A1 l1.length c1] rfl (by (try simp only [mT,mC,mN]);first|done|rfl|(simp only [lD,lT];rfl)) ?_;(with_reducible refine (impl_IsOrder.calls k _ _ ab _ _ ac _ _ l1 false _ ?side1 ?side2 ?side3 ?side4 ?side5 ?side6 A3.out).mono ?_);(case side1=>exact (cB ao.out HB.out));(case side2=>exact ap.out);(case side3=>exact (cB aq.out HB.out));(case side4=>exact ar.out);(case side5=>exact (cB aZ.out HB.out));(case side6=>exact ba.out);rintro e bo ⟨rfl,hb⟩;refine ⟨_,rfl,?_⟩;have ak:=qK (qB (g:=ae) (o:=_) (by exact aa.out) hb);have al:=qK (qT HB.out hb);clear aa HB;have aa:=ak;have HB:=al;clear ak al;(try clear hb)))
  go_ret2
  exact ⟨by rfl,HB.out⟩

/-! ### spec_IsOrder: function 44 -/
mutual
def spec_IsOrder.j0 : Nat→List Int→Bool→Option (Bool)
 | 0,_,_=>none
 | k + 1,x1,x18=>if x18=true then (some false) else (spec_IsOrder.l0 k x1 ([]:List Int) x1 (x1.length:Int) 0)
def spec_IsOrder.l0 : Nat→List Int→List Int→List Int→Int→Int→Option (Bool)
 | 0,_,_,_,_,_=>none
 | k + 1,x1,x5,x19,x20,x21=>if x21 < x20 then (if 0≤x21 then (if x21 < (x19.length:Int) then (if (rd x19 x21) < 0 then (some false) else (if (rd x19 x21) ≥ (x1.length:Int) then (some false) else ((spec_l7Put.f k x5 (rd x19 x21)).bind fun t379=>(spec_IsOrder.l0 k x1 t379 x19 x20 (wrap64 (x21 + 1)))))) else (none)) else (none)) else (some ((x5.length:Int) == (x1.length:Int)))
end
def spec_IsOrder.f (k:Nat) (l0_0:List Int) (l0_1:List (List Int)) (l1:List Int):Option (Bool):=(spec_GoodStats.f k l0_0 l0_1).bind fun t377=>(if t377=true then (spec_IsOrder.j0 k l1 ((l1.length:Int) != (l0_0.length:Int))) else (spec_IsOrder.j0 k l1 true))
theorem spec_IsOrder.mono_l : ∀ k,(∀ y0 y1,LeO (spec_IsOrder.j0 k y0 y1) (spec_IsOrder.j0 (k + 1) y0 y1))∧(∀ y0 y1 y2 y3 y4,LeO (spec_IsOrder.l0 k y0 y1 y2 y3 y4) (spec_IsOrder.l0 (k + 1) y0 y1 y2 y3 y4))
 | 0=>⟨fun _ _ r h=>by simp [spec_IsOrder.j0] at h,fun _ _ _ _ _ r h=>by simp [spec_IsOrder.l0] at h⟩
 | k + 1=>by
  obtain ⟨aa,ab⟩:=spec_IsOrder.mono_l k;refine ⟨?_,?_⟩
  ·intro y0 y1;unfold spec_IsOrder.j0
   repeat' first
   | (with_reducible exact aa _ _)
   | (with_reducible exact ab _ _ _ _ _)
   | (with_reducible exact spec_GoodStats.mono _ _ _)
   | (with_reducible exact spec_l7Put.mono _ _ _)
   | (with_reducible exact LeO.refl _)
   | (with_reducible exact LeO.none _)
   | (with_reducible refine LeO.ite ?_ ?_)
   | (with_reducible refine LeO.bind ?_ (fun _=>?_))
   | exact aa _ _
   | exact ab _ _ _ _ _
   | exact spec_GoodStats.mono _ _ _
   | exact spec_l7Put.mono _ _ _
   | exact LeO.none _
   | refine LeO.ite ?_ ?_
   | refine LeO.bind ?_ (fun _=>?_)
  ·intro y0 y1 y2 y3 y4;unfold spec_IsOrder.l0
   repeat' first
   | (with_reducible exact aa _ _)
   | (with_reducible exact ab _ _ _ _ _)
   | (with_reducible exact spec_GoodStats.mono _ _ _)
   | (with_reducible exact spec_l7Put.mono _ _ _)
   | (with_reducible exact LeO.refl _)
   | (with_reducible exact LeO.none _)
   | (with_reducible refine LeO.ite ?_ ?_)
   | (with_reducible refine LeO.bind ?_ (fun _=>?_))
   | exact aa _ _
   | exact ab _ _ _ _ _
   | exact spec_GoodStats.mono _ _ _
   | exact spec_l7Put.mono _ _ _
   | exact LeO.none _
   | refine LeO.ite ?_ ?_
   | refine LeO.bind ?_ (fun _=>?_)
theorem spec_IsOrder.mono : ∀ a0 a1 a2 k,LeO (spec_IsOrder.f k a0 a1 a2) (spec_IsOrder.f (k + 1) a0 a1 a2):=by
 intro a0 a1 a2 k;obtain ⟨aa,ab⟩:=spec_IsOrder.mono_l k;unfold spec_IsOrder.f
 repeat' first
   | (with_reducible exact aa _ _)
   | (with_reducible exact ab _ _ _ _ _)
   | (with_reducible exact spec_GoodStats.mono _ _ _)
   | (with_reducible exact spec_l7Put.mono _ _ _)
   | (with_reducible exact LeO.refl _)
   | (with_reducible exact LeO.none _)
   | (with_reducible refine LeO.ite ?_ ?_)
   | (with_reducible refine LeO.bind ?_ (fun _=>?_))
   | exact aa _ _
   | exact ab _ _ _ _ _
   | exact spec_GoodStats.mono _ _ _
   | exact spec_l7Put.mono _ _ _
   | exact LeO.none _
   | refine LeO.ite ?_ ?_
   | refine LeO.bind ?_ (fun _=>?_)
set_option maxHeartbeats 8000000 in
set_option maxRecDepth 100000 in
theorem spec_IsOrder.calls (k:Nat) (aj:Option Addr) (ak:Nat) (af:List Int) (al:Option Addr) (am:Nat) (ag:List (List Int)) (A1:Option Addr) (c1:Nat) (l1:List Int) (r:Bool) (w:World) (aJ:Kd.C (Kd.int .i64) w aj af.length af) (aK:af.length≤ak) (aM:Kd.C (Kd.slice 3 (Kd.int .i64)) w al ag.length ag) (aN:ag.length≤am) (bk:Kd.C (Kd.int .i64) w A1 l1.length l1) (bl:l1.length≤c1) (h:spec_IsOrder.f k af ag l1=some r) :
  Calls Try.prog 44 #[.agg #[.slice aj af.length ak,.slice al ag.length am],.slice A1 l1.length c1] w fun e w'=>e=.returned (.bool r)∧Below w.heap.size w w':=by
 have bu:=Try.underlying29;have aQ:=qK aJ;have aR:=qK aK;clear aJ aK;have aT:=qK aM;have aU:=qK aN;clear aM aN;have be:=qK bk;have bC:=qK bl;clear bk bl;have HB:=qK (Below.refl w.heap.size w);have H:((spec_GoodStats.f k af ag).bind fun aI=>(if aI=true then (spec_IsOrder.j0 k l1 ((l1.length:Int) != (af.length:Int))) else (spec_IsOrder.j0 k l1 true)))=some r:=h;clear h;have bf:=qK H;clear H;go_enter Try.func44,Try.ntmps44
 go_upto_region 1 with (first|((with_reducible refine gate_dst (N:=2) rfl ?_);(try (refine gate_guard (by rfl) ?_;dsimp only));refine box_event ?hg (N:=2) ?hd (cs:=#[.slice aj af.length ak,.slice al ag.length am]) (t:=29) ?hr ?_;(case hd=>rfl);(case hg=>rfl);(case hr=>(go_simp;try rfl));intro ae hg w4 hbox hb;have av:=qK (qT HB.out hb);have aw:=qK (hbox);have aX:=qK ((by rw [hg];exact (qZ HB.out):w.heap.size≤ae));have aY:=aX;clear HB;have HB:=av;have ab:=aw;have bm:=aX;have bn:=aY;clear av aw aX aY;clear hb hbox hg))
 (try simp only [Act.put,List.setIfInBounds_toArray,List.set_cons_zero,List.set_cons_succ]);go_cut [18] (fun bv wc=>∃ (kq:Nat) (an:Bool),bv=.bool an∧Aside0 (spec_IsOrder.j0 kq l1 an=some r)∧Aside0 (kq≤k)∧Aside0 (wc.heap[ae]?=some (.cells #[(.slice aj af.length ak),(.slice al ag.length am)] 29 (0,0)))∧Aside0 (Below w.heap.size w wc))
 case first =>
  have H:=bf.out;clear bf;replace H:=Option.bind_eq_some_iff.mp H;obtain ⟨aI,bo,H⟩:=H;replace H:(if aI=true then (spec_IsOrder.j0 k l1 ((l1.length:Int) != (af.length:Int))) else (spec_IsOrder.j0 k l1 true))=some r:=H;have A5:=qK bo;clear bo;by_cases c6:aI=true
  ·subst c6;have H1:(spec_IsOrder.j0 k l1 ((l1.length:Int) != (af.length:Int)))=some r:=by rw [if_pos rfl] at H;exact H
   clear H;have H:=H1;clear H1;have H':=qK H;clear H;have ax:w4.cell? ⟨ae,0,none⟩=some (.slice aj af.length ak):=(qC ab.out 0).trans rfl;have ay:w4.cell? ⟨ae,1,none⟩=some (.slice al ag.length am):=(qC ab.out 1).trans rfl;have az:=qF ab.out 0;have aA:=qF ab.out 1;go_wp2_with (first|((with_reducible refine gate_callee (f:=23) rfl ?_);refine goesL_ (some 9) rfl rfl Try.func23 (by kernel_rfl) rfl #[.agg #[.slice aj af.length ak,.slice al ag.length am]] rfl (by (try simp only [mT,mC,mN]);first|done|rfl|(simp only [lD,lT];rfl)) ?_;(with_reducible refine (spec_GoodStats.calls k _ _ af _ _ ag true _ ?side1 ?side2 ?side3 ?side4 A5.out).mono ?_);(case side1=>exact (cB aQ.out HB.out));(case side2=>exact aR.out);(case side3=>exact (cB aT.out HB.out));(case side4=>exact aU.out);rintro e w8 ⟨rfl,hb⟩;refine ⟨_,rfl,?_⟩;have av:=qK (qB (g:=ae) (o:=_) (by exact ab.out) hb);have aw:=qK (qT HB.out hb);clear ab HB;have ab:=av;have HB:=aw;clear av aw;(try clear hb);have aB:w8.cell? ⟨ae,0,none⟩=some (.slice aj af.length ak):=(qC ab.out 0).trans rfl;have aC:w8.cell? ⟨ae,1,none⟩=some (.slice al ag.length am):=(qC ab.out 1).trans rfl;have aD:=qF ab.out 0;have aE:=qF ab.out 1))
   go_meet
   case rel=>exact ⟨_,(((l1.length:Int) != (af.length:Int))),(by rfl),H',⟨by first|omega|exact Nat.le_refl _⟩,⟨ab.out⟩,⟨HB.out⟩⟩
  ·replace c6:=Bool.eq_false_iff.mpr c6;subst c6;have H1:(spec_IsOrder.j0 k l1 true)=some r:=by rw [if_neg (show ¬ (false=true) by decide)] at H;exact H
   clear H;have H:=H1;clear H1;have H':=qK H;clear H;have ao:w4.cell? ⟨ae,0,none⟩=some (.slice aj af.length ak):=(qC ab.out 0).trans rfl;have ap:w4.cell? ⟨ae,1,none⟩=some (.slice al ag.length am):=(qC ab.out 1).trans rfl;have aq:=qF ab.out 0;have ar:=qF ab.out 1;go_wp2_with (first|((with_reducible refine gate_callee (f:=23) rfl ?_);refine goesL_ (some 9) rfl rfl Try.func23 (by kernel_rfl) rfl #[.agg #[.slice aj af.length ak,.slice al ag.length am]] rfl (by (try simp only [mT,mC,mN]);first|done|rfl|(simp only [lD,lT];rfl)) ?_;(with_reducible refine (spec_GoodStats.calls k _ _ af _ _ ag false _ ?side1 ?side2 ?side3 ?side4 A5.out).mono ?_);(case side1=>exact (cB aQ.out HB.out));(case side2=>exact aR.out);(case side3=>exact (cB aT.out HB.out));(case side4=>exact aU.out);rintro e bD ⟨rfl,hb⟩;refine ⟨_,rfl,?_⟩;have av:=qK (qB (g:=ae) (o:=_) (by exact ab.out) hb);have aw:=qK (qT HB.out hb);clear ab HB;have ab:=av;have HB:=aw;clear av aw;(try clear hb)))
   go_meet
   case rel=>exact ⟨_,(true),(by rfl),H',⟨by first|omega|exact Nat.le_refl _⟩,⟨ab.out⟩,⟨HB.out⟩⟩
 case rest =>
  clear bf;try clear c1
  try clear c2
  try clear p2
  try clear c4
  try clear c6
  try clear ao
  try clear ap
  try clear ax
  try clear ay
  try clear aB
  try clear aC
  try clear aq
  try clear ar
  try clear az
  try clear aA
  try clear aD
  try clear aE
  obtain ⟨kq,an,rfl,HA,bp,ab,HB⟩:=hcut;cases kq with
  | zero=>exact absurd HA.out (by simp [spec_IsOrder.j0])
  | succ kj2 =>
   have H:=HA.out;clear HA;simp only [spec_IsOrder.j0] at H;by_cases c12:an=true
   ·subst c12;have H1:(some false)=some r:=by rw [if_pos rfl] at H;exact H
    clear H;have H:=H1;clear H1;obtain rfl:=Option.some.inj H;go_wp2
    go_ret
    exact ⟨by rfl,HB.out⟩
   ·replace c12:=Bool.eq_false_iff.mpr c12;subst c12;have H1:(spec_IsOrder.l0 kj2 l1 ([]:List Int) l1 (l1.length:Int) 0)=some r:=by rw [if_neg (show ¬ (false=true) by decide)] at H;exact H
    clear H;have H:=H1;clear H1;have H':=qK H;clear H;go_wp2
    go_loopg [5,21] kj2 (fun kq v5 bw w'=>∃ (aG:List Int) (aa:Int),bw=.int .i64 aa∧Aside0 (spec_IsOrder.l0 kq l1 aG l1 (l1.length:Int) aa=some r)∧Aside0 (kq≤kj2)∧Aside0 (Kd.V (Kd.int .i64) 3 w' w.heap.size (fun k_=>k_ ≠ ae) v5 aG)∧Aside0 (w'.heap[ae]?=some (.cells #[(.slice aj af.length ak),(.slice al ag.length am)] 29 (0,0)))∧Aside0 (Below w.heap.size w w'))
    case atStart=>exact ⟨(([]:List Int)),(0),(by rfl),H',⟨Nat.le_refl _⟩,⟨Kd.R_V (base:=0) (by first|exact Kd.R_nil _ _ _ _ _|exact Kd.N_nil _ _ _ _ _|exact Kd.V_nil _ _ _ _ _|exact Kd.Q_nil _ _ _ _ _|exact Kd.S_nil _ _ _ _ _)⟩,⟨ab.out⟩,⟨HB.out⟩⟩
    case round =>
     clear H';try clear c1
     try clear c2
     try clear p2
     try clear c4
     try clear c6
     try clear c12
     try clear ao
     try clear ap
     try clear ax
     try clear ay
     try clear aB
     try clear aC
     try clear aq
     try clear ar
     try clear az
     try clear aA
     try clear aD
     try clear aE
     try clear p2
     obtain ⟨aG,aa,rfl,HA,bq,au,ab,HB⟩:=hrel;cases gk with
     | zero=>exact absurd HA.out (by simp [spec_IsOrder.l0])
     | succ k2 =>
      have H:=HA.out;clear HA;simp only [spec_IsOrder.l0] at H;by_cases c13:aa < (l1.length:Int)
      ·rw [if_pos c13] at H;have aZ:decide (aa < (l1.length:Int))=true:=decide_eq_true c13;clear c13;by_cases c14:0≤aa
       ·rw [if_pos c14] at H;have br:decide (0≤aa)=true:=decide_eq_true c14;clear c14;by_cases c15:aa < (l1.length:Int)
        ·rw [if_pos c15] at H;have bs:decide (aa < (l1.length:Int))=true:=decide_eq_true c15;clear c15;by_cases c16:(rd l1 aa) < 0
         ·rw [if_pos c16] at H;have ba:decide ((rd l1 aa) < 0)=true:=decide_eq_true c16;clear c16;obtain rfl:=Option.some.inj H;have ah:0≤(aa:Int):=of_decide_eq_true (by assumption);have ai:aa < (l1.length:Int):=of_decide_eq_true (by assumption);obtain ⟨aV,aH,ac⟩:=Kd.at_int be.out aa ah ai;cases aH
          replace ac:=(HB.out.cell (World.block_lt_of_cell? w _ ac)).trans ac;replace ah:=eq_true ah;replace ai:=eq_true ai;go_wp2
          go_ret
          exact ⟨by rfl,HB.out⟩
         ·rw [if_neg c16] at H;have ba:decide ((rd l1 aa) < 0)=false:=decide_eq_false c16;clear c16;by_cases c17:(rd l1 aa) ≥ (l1.length:Int)
          ·rw [if_pos c17] at H;have bb:decide ((l1.length:Int)≤(rd l1 aa))=true:=decide_eq_true c17;clear c17;obtain rfl:=Option.some.inj H;have ah:0≤(aa:Int):=of_decide_eq_true (by assumption);have ai:aa < (l1.length:Int):=of_decide_eq_true (by assumption);obtain ⟨aV,aH,ac⟩:=Kd.at_int be.out aa ah ai;cases aH
           replace ac:=(HB.out.cell (World.block_lt_of_cell? w _ ac)).trans ac;replace ah:=eq_true ah;replace ai:=eq_true ai;go_wp2
           go_ret
           exact ⟨by rfl,HB.out⟩
          ·rw [if_neg c17] at H;have bb:decide ((l1.length:Int)≤(rd l1 aa))=false:=decide_eq_false c17;clear c17;replace H:=Option.bind_eq_some_iff.mp H;obtain ⟨aW,bc,H⟩:=H;replace H:(spec_IsOrder.l0 k2 l1 aW l1 (l1.length:Int) (wrap64 (aa + 1)))=some r:=H;have bx:=qK bc;clear bc;have H':=qK H;clear H;have ah:0≤(aa:Int):=of_decide_eq_true (by assumption);have ai:aa < (l1.length:Int):=of_decide_eq_true (by assumption);obtain ⟨aV,aH,ac⟩:=Kd.at_int be.out aa ah ai;cases aH
           replace ac:=(HB.out.cell (World.block_lt_of_cell? w _ ac)).trans ac;replace ah:=eq_true ah;replace ai:=eq_true ai;obtain ⟨bg,bh,bi⟩:=Kd.V_slice au.out;subst bi;go_wp2_with (first|((with_reducible refine gate_callee (f:=55) rfl ?_);refine goesL_ (some 35) rfl rfl Try.func55 (by kernel_rfl) rfl #[.slice bg aG.length bh,.int .i64 (rd l1 aa)] rfl (by (try simp only [mT,mC,mN]);first|done|rfl|(simp only [lD,lT];rfl)) ?_;(with_reducible refine (spec_l7Put.calls k2 (fun k_=>k_ ≠ ae) _ _ aG (rd l1 aa) aW _ ?side1 bx.out).mono ?_);(case side1=>exact au.out);rintro e bE ⟨bz,rfl,bt,hb⟩;refine ⟨_,rfl,?_⟩;have av:=qK (Kd.V_below au.out hb);have aw:=qK (Kd.V_lower (Kd.V_mono (ok':=fun k_=>k_ ≠ ae) bt (fun k_ hk_=>Or.elim hk_ (fun hs_=>hs_) (fun hn_=>(Kd.freshB (g:=ae) (o:=_) (by exact ab.out) k_ hn_)))) (qZ HB.out));have aX:=qK (qB (g:=ae) (o:=_) (by exact ab.out) hb);have aY:=qK (qT HB.out hb);clear au ab HB;have au:=av;have bd:=aw;have ab:=aX;have HB:=aY;clear av aw aX aY;(try clear hb);(try clear bt)))
           go_roundg k2
           case measure=>have:=bp.out;have:=bq.out;omega
           case rel=>exact ⟨(aW),(wrap64 (aa + 1)),(by rfl),H',⟨by have:=bp.out;have:=bq.out;omega⟩,⟨bd.out⟩,⟨ab.out⟩,⟨HB.out⟩⟩
        ·rw [if_neg c15] at H;exact absurd H (by simp)
       ·rw [if_neg c14] at H;exact absurd H (by simp)
      ·rw [if_neg c13] at H;have aZ:decide (aa < (l1.length:Int))=false:=decide_eq_false c13;clear c13;obtain rfl:=Option.some.inj H;obtain ⟨bA,bB,bj⟩:=Kd.V_slice au.out;subst bj;go_wp2
       go_ret
       exact ⟨by rfl,HB.out⟩

end Go.Proofs.Ytecebaeifmddnaa.PFnOrdered
