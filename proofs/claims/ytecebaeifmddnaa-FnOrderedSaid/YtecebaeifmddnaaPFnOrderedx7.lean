/-
  A text of this claim's own, printed by a program of the session (wip/tools/xprint.py): functions of the program as Lean functions, each with what its call comes to.
-/
import Derived.Test.YtecebaeifmddnaaPFnOrderedx0
import Derived.Test.YtecebaeifmddnaaPFnOrderedx1
import Derived.Test.YtecebaeifmddnaaPFnOrderedx4
import Derived.Test.YtecebaeifmddnaaPFnOrderedx5
import Derived.Test.YtecebaeifmddnaaPFnOrderedx6
namespace Go.Proofs.Ytecebaeifmddnaa.PFnOrdered
open Go.Proofs.YtecebaeifmddnaaW.PrintWords renaming pw_below_drewN → qD, blk_cell → qC, below_drew1 → qO, below_alloc → qA, blk_frozen → qF, below_set → qS, blk_drewN → qN, blk_alloc → qL, blk_drew → qW, below_size → qZ, below_step → qT, blk_below → qB, blk_far → qR, blk_put → qP
open Go.Proofs.YtecebaeifmddnaaW.PrintWords.Aside0 renaming mk → qK
open Bool renaming true → Y, false → Z
open List renaming setIfInBounds_toArray → sIb, set_cons_zero → sZ, set_cons_succ → sS, map_toArray → mT, map_cons → mC, map_nil → mN, length_drop → lD, length_take → lT
open Go.Proofs.YtecebaeifmddnaaW.PrintWords.Kd renaming C_alloc → cL, C_drewN → cN, C_drew → cW, C_below → cB, R_alloc → rL, R_drewN → rN, R_drew → rW, R_below → rB
open Go.RowKit Go.Proofs.YtecebaeifmddnaaW.PrintWords Go.Proofs.YtecebaeifmddnaaW.PrintLast Go.Proofs.YtecebaeifmddnaaW.PrintMore
attribute [local go_sem] max2_int min2_int max_two min_two max_three min_three max_four min_four   -- for this text's walks alone
set_option linter.unusedVariables false
set_option linter.unusedSimpArgs false

/-! ### spec_CostOf: function 20 -/
def spec_CostOf.f (k:Nat) (l0_0:List Int) (l0_1:List (List Int)) (l1:List Int):Option (Int × Bool):=(spec_IsOrder.f k l0_0 l0_1 l1).bind fun t383=>(if t383=true then ((spec_l12Cost.f k l0_0 l0_1 l1).bind fun t384=>(some (t384,true))) else (some (0,false)))
theorem spec_CostOf.mono : ∀ a0 a1 a2 k,LeO (spec_CostOf.f k a0 a1 a2) (spec_CostOf.f (k + 1) a0 a1 a2):=by
 intro a0 a1 a2 k;unfold spec_CostOf.f
 repeat' first
   | (with_reducible exact spec_IsOrder.mono _ _ _ _)
   | (with_reducible exact spec_l12Cost.mono _ _ _ _)
   | (with_reducible exact LeO.refl _)
   | (with_reducible exact LeO.none _)
   | (with_reducible refine LeO.ite ?_ ?_)
   | (with_reducible refine LeO.bind ?_ (fun _=>?_))
   | exact spec_IsOrder.mono _ _ _ _
   | exact spec_l12Cost.mono _ _ _ _
   | exact LeO.none _
   | refine LeO.ite ?_ ?_
   | refine LeO.bind ?_ (fun _=>?_)
set_option maxHeartbeats 8000000 in
set_option maxRecDepth 100000 in
theorem spec_CostOf.calls (k:Nat) (ae:Option Addr) (af:Nat) (ab:List Int) (ag:Option Addr) (ah:Nat) (ac:List (List Int)) (A1:Option Addr) (c1:Nat) (l1:List Int) (r1:Int) (r2:Bool) (w:World) (aq:Kd.C (Kd.int .i64) w ae ab.length ab) (ar:ab.length≤af) (au:Kd.C (Kd.slice 3 (Kd.int .i64)) w ag ac.length ac) (av:ac.length≤ah) (aT:Kd.C (Kd.int .i64) w A1 l1.length l1) (aU:l1.length≤c1) (h:spec_CostOf.f k ab ac l1=some (r1,r2)) :
  Calls Try.prog 20 #[.agg #[.slice ae ab.length af,.slice ag ac.length ah],.slice A1 l1.length c1] w fun e w'=>e=.returned (.tuple #[.int .i64 r1,.bool r2])∧Below w.heap.size w w':=by
 have aY:=Try.underlying29;have al:=qK aq;have am:=qK ar;clear aq ar;have an:=qK au;have ao:=qK av;clear au av;have aE:=qK aT;have aG:=qK aU;clear aT aU;have HB:=qK (Below.refl w.heap.size w);have H:((spec_IsOrder.f k ab ac l1).bind fun ap=>(if ap=true then ((spec_l12Cost.f k ab ac l1).bind fun ai=>(some (ai,true))) else (some (0,false))))=some (r1,r2):=h;clear h;replace H:=Option.bind_eq_some_iff.mp H;obtain ⟨ap,aV,H⟩:=H;replace H:(if ap=true then ((spec_l12Cost.f k ab ac l1).bind fun ai=>(some (ai,true))) else (some (0,false)))=some (r1,r2):=H;have A3:=qK aV;clear aV;by_cases c4:ap=true
 ·subst c4;have H1:((spec_l12Cost.f k ab ac l1).bind fun ai=>(some (ai,true)))=some (r1,r2):=by rw [if_pos rfl] at H;exact H
  clear H;have H:=H1;clear H1;replace H:=Option.bind_eq_some_iff.mp H;obtain ⟨ai,aW,H⟩:=H;replace H:(some (ai,true))=some (r1,r2):=H;have A5:=qK aW;clear aW;simp only [Option.some.injEq,Prod.mk.injEq] at H;obtain ⟨rfl,rfl⟩:=H;go_enter Try.func20,Try.ntmps20
  go_wp2_with (first|((with_reducible refine gate_dst (N:=2) rfl ?_);refine box_event ?hg (N:=2) ?hd (cs:=#[.slice ae ab.length af,.slice ag ac.length ah]) (t:=29) ?hr ?_;(case hd=>rfl);(case hg=>rfl);(case hr=>(go_simp;try rfl));intro ad hg w6 hbox hb;have aj:=qK (qT HB.out hb);have ak:=qK (hbox);have aw:=qK ((by rw [hg];exact (qZ HB.out):w.heap.size≤ad));have ax:=aw;clear HB;have HB:=aj;have aa:=ak;have ay:=aw;have az:=ax;clear aj ak aw ax hb hbox hg;have aH:w6.cell? ⟨ad,0,none⟩=some (.slice ae ab.length af):=(qC aa.out 0).trans rfl;have aI:w6.cell? ⟨ad,1,none⟩=some (.slice ag ac.length ah):=(qC aa.out 1).trans rfl;have aJ:=qF aa.out 0;have aK:=qF aa.out 1)|((with_reducible refine gate_callee (f:=44) rfl ?_);refine goesL_ (some 8) rfl rfl Try.func44 (by kernel_rfl) rfl #[.agg #[.slice ae ab.length af,.slice ag ac.length ah],.slice A1 l1.length c1] rfl (by (try simp only [mT,mC,mN]);first|done|rfl|(simp only [lD,lT];rfl)) ?_;(with_reducible refine (spec_IsOrder.calls k _ _ ab _ _ ac _ _ l1 true _ ?side1 ?side2 ?side3 ?side4 ?side5 ?side6 A3.out).mono ?_);(case side1=>exact (cB al.out HB.out));(case side2=>exact am.out);(case side3=>exact (cB an.out HB.out));(case side4=>exact ao.out);(case side5=>exact (cB aE.out HB.out));(case side6=>exact aG.out);rintro e w8 ⟨rfl,hb⟩;refine ⟨_,rfl,?_⟩;have aj:=qK (qB (g:=ad) (o:=_) (by exact aa.out) hb);have ak:=qK (qT HB.out hb);clear aa HB;have aa:=aj;have HB:=ak;clear aj ak;(try clear hb);have aM:w8.cell? ⟨ad,0,none⟩=some (.slice ae ab.length af):=(qC aa.out 0).trans rfl;have aN:w8.cell? ⟨ad,1,none⟩=some (.slice ag ac.length ah):=(qC aa.out 1).trans rfl;have aQ:=qF aa.out 0;have aR:=qF aa.out 1)|((with_reducible refine gate_callee (f:=32) rfl ?_);refine goesL_ (some 12) rfl rfl Try.func32 (by kernel_rfl) rfl #[.agg #[.slice ae ab.length af,.slice ag ac.length ah],.slice A1 l1.length c1] rfl (by (try simp only [mT,mC,mN]);first|done|rfl|(simp only [lD,lT];rfl)) ?_;(with_reducible refine (spec_l12Cost.calls k _ _ ab _ _ ac _ _ l1 ai _ ?side1 ?side2 ?side3 ?side4 ?side5 ?side6 A5.out).mono ?_);(case side1=>exact (cB al.out HB.out));(case side2=>exact am.out);(case side3=>exact (cB an.out HB.out));(case side4=>exact ao.out);(case side5=>exact (cB aE.out HB.out));(case side6=>exact aG.out);rintro e aZ ⟨rfl,hb⟩;refine ⟨_,rfl,?_⟩;have aj:=qK (qB (g:=ad) (o:=_) (by exact aa.out) hb);have ak:=qK (qT HB.out hb);clear aa HB;have aa:=aj;have HB:=ak;clear aj ak;(try clear hb)))
  go_ret2
  exact ⟨by rfl,HB.out⟩
 ·replace c4:=Bool.eq_false_iff.mpr c4;subst c4;have H1:(some (0,false))=some (r1,r2):=by rw [if_neg (show ¬ (false=true) by decide)] at H;exact H
  clear H;have H:=H1;clear H1;simp only [Option.some.injEq,Prod.mk.injEq] at H;obtain ⟨rfl,rfl⟩:=H;go_enter Try.func20,Try.ntmps20
  go_wp2_with (first|((with_reducible refine gate_dst (N:=2) rfl ?_);refine box_event ?hg (N:=2) ?hd (cs:=#[.slice ae ab.length af,.slice ag ac.length ah]) (t:=29) ?hr ?_;(case hd=>rfl);(case hg=>rfl);(case hr=>(go_simp;try rfl));intro ad hg aX hbox hb;have aj:=qK (qT HB.out hb);have ak:=qK (hbox);have aw:=qK ((by rw [hg];exact (qZ HB.out):w.heap.size≤ad));have ax:=aw;clear HB;have HB:=aj;have aa:=ak;have ay:=aw;have az:=ax;clear aj ak aw ax hb hbox hg;have aA:aX.cell? ⟨ad,0,none⟩=some (.slice ae ab.length af):=(qC aa.out 0).trans rfl;have aB:aX.cell? ⟨ad,1,none⟩=some (.slice ag ac.length ah):=(qC aa.out 1).trans rfl;have aC:=qF aa.out 0;have aD:=qF aa.out 1)|((with_reducible refine gate_callee (f:=44) rfl ?_);refine goesL_ (some 8) rfl rfl Try.func44 (by kernel_rfl) rfl #[.agg #[.slice ae ab.length af,.slice ag ac.length ah],.slice A1 l1.length c1] rfl (by (try simp only [mT,mC,mN]);first|done|rfl|(simp only [lD,lT];rfl)) ?_;(with_reducible refine (spec_IsOrder.calls k _ _ ab _ _ ac _ _ l1 false _ ?side1 ?side2 ?side3 ?side4 ?side5 ?side6 A3.out).mono ?_);(case side1=>exact (cB al.out HB.out));(case side2=>exact am.out);(case side3=>exact (cB an.out HB.out));(case side4=>exact ao.out);(case side5=>exact (cB aE.out HB.out));(case side6=>exact aG.out);rintro e ba ⟨rfl,hb⟩;refine ⟨_,rfl,?_⟩;have aj:=qK (qB (g:=ad) (o:=_) (by exact aa.out) hb);have ak:=qK (qT HB.out hb);clear aa HB;have aa:=aj;have HB:=ak;clear aj ak;(try clear hb)))
  go_ret2
  exact ⟨by rfl,HB.out⟩

/-! ### laws_sameInts: function 21 -/
def laws_sameInts.l0 : Nat→List Int→List Int→Int→Int→Option (Bool)
 | 0,_,_,_,_=>none
 | k + 1,x0,x1,x12,x13=>if x13 < x12 then (if 0≤x13 then (if x13 < (x0.length:Int) then (if x13 < (x1.length:Int) then (if (rd x0 x13)=(rd x1 x13) then (laws_sameInts.l0 k x0 x1 x12 (wrap64 (x13 + 1))) else (some false)) else (none)) else (none)) else (none)) else (some true)
def laws_sameInts.f (k:Nat) (l0:List Int) (l1:List Int):Option (Bool):=if (l0.length:Int)=(l1.length:Int) then (laws_sameInts.l0 k l0 l1 (l0.length:Int) 0) else (some false)
theorem laws_sameInts.mono_l : ∀ k,(∀ y0 y1 y2 y3,LeO (laws_sameInts.l0 k y0 y1 y2 y3) (laws_sameInts.l0 (k + 1) y0 y1 y2 y3))
 | 0=>fun _ _ _ _ r h=>by simp [laws_sameInts.l0] at h
 | k + 1=>by
  have aa:=laws_sameInts.mono_l k
  ·intro y0 y1 y2 y3;unfold laws_sameInts.l0
   repeat' first
   | (with_reducible exact aa _ _ _ _)
   | (with_reducible exact LeO.refl _)
   | (with_reducible exact LeO.none _)
   | (with_reducible refine LeO.ite ?_ ?_)
   | (with_reducible refine LeO.bind ?_ (fun _=>?_))
   | exact aa _ _ _ _
   | exact LeO.none _
   | refine LeO.ite ?_ ?_
   | refine LeO.bind ?_ (fun _=>?_)
theorem laws_sameInts.mono : ∀ a0 a1 k,LeO (laws_sameInts.f k a0 a1) (laws_sameInts.f (k + 1) a0 a1):=by
 intro a0 a1 k;have aa:=laws_sameInts.mono_l k;unfold laws_sameInts.f
 repeat' first
   | (with_reducible exact aa _ _ _ _)
   | (with_reducible exact LeO.refl _)
   | (with_reducible exact LeO.none _)
   | (with_reducible refine LeO.ite ?_ ?_)
   | (with_reducible refine LeO.bind ?_ (fun _=>?_))
   | exact aa _ _ _ _
   | exact LeO.none _
   | refine LeO.ite ?_ ?_
   | refine LeO.bind ?_ (fun _=>?_)
set_option maxHeartbeats 8000000 in
set_option maxRecDepth 100000 in
theorem laws_sameInts.calls (k:Nat) (A0:Option Addr) (c0:Nat) (l0:List Int) (A1:Option Addr) (c1:Nat) (l1:List Int) (r:Bool) (w:World) (ar:Kd.C (Kd.int .i64) w A0 l0.length l0) (au:l0.length≤c0) (av:Kd.C (Kd.int .i64) w A1 l1.length l1) (aw:l1.length≤c1) (h:laws_sameInts.f k l0 l1=some r) :
  Calls Try.prog 21 #[.slice A0 l0.length c0,.slice A1 l1.length c1] w fun e w'=>e=.returned (.bool r)∧Drawn0 w w':=by
 have ax:=qK ar;have aE:=qK au;clear ar au;have ay:=qK av;have aG:=qK aw;clear av aw;have H:(if (l0.length:Int)=(l1.length:Int) then (laws_sameInts.l0 k l0 l1 (l0.length:Int) 0) else (some false))=some r:=h;clear h;by_cases c3:(l0.length:Int)=(l1.length:Int)
 ·rw [if_pos c3] at H;have aj:((l0.length:Int) == (l1.length:Int))=true:=beq_iff_eq.mpr c3;have ak:((l0.length:Int) != (l1.length:Int))=false:=bne_eq_false_iff_eq.mpr c3;have al:(l0.length == l1.length)=true:=by first|simpa using c3|(simp at c3 ⊢;omega)
  clear c3;have H':=qK H;clear H;go_enter Try.func21,Try.ntmps21
  go_wp2
  repeat (go_quiet (fail);try go_wp2)
  go_loopg [13] k (fun kq aA w'=>∃ (aa:Int),aA=.int .i64 aa∧Aside0 (laws_sameInts.l0 kq l0 l1 (l0.length:Int) aa=some r)∧Aside0 (kq≤k)∧Drawn0 w w')
  case atStart=>exact ⟨(0),(by rfl),H',⟨Nat.le_refl _⟩,by repeat (first|exact Drawn0.refl _|apply Drawn0.step)⟩
  case round =>
   clear H';try clear c1
   try clear c2
   try clear p2
   try clear c3
   try clear aj
   try clear ak
   try clear al
   obtain ⟨aa,rfl,HA,az,⟨m1,rfl⟩⟩:=hrel;cases gk with
   | zero=>exact absurd HA.out (by simp [laws_sameInts.l0])
   | succ k1 =>
    have H:=HA.out;clear HA;simp only [laws_sameInts.l0] at H;by_cases c4:aa < (l0.length:Int)
    ·rw [if_pos c4] at H;have ao:decide (aa < (l0.length:Int))=true:=decide_eq_true c4;clear c4;by_cases c5:0≤aa
     ·rw [if_pos c5] at H;have aB:decide (0≤aa)=true:=decide_eq_true c5;clear c5;by_cases c6:aa < (l0.length:Int)
      ·rw [if_pos c6] at H;have aC:decide (aa < (l0.length:Int))=true:=decide_eq_true c6;clear c6;by_cases c7:aa < (l1.length:Int)
       ·rw [if_pos c7] at H;have aD:decide (aa < (l1.length:Int))=true:=decide_eq_true c7;clear c7;by_cases c8:(rd l0 aa)=(rd l1 aa)
        ·rw [if_pos c8] at H;have ap:((rd l0 aa) == (rd l1 aa))=true:=beq_iff_eq.mpr c8;have aq:((rd l0 aa) != (rd l1 aa))=false:=bne_eq_false_iff_eq.mpr c8;clear c8;have H':=qK H;clear H;have ab:0≤(aa:Int):=of_decide_eq_true (by assumption);have ac:aa < (l0.length:Int):=of_decide_eq_true (by assumption);obtain ⟨am,ah,af⟩:=Kd.at_int ax.out aa ab ac;cases ah
         replace ab:=eq_true ab;replace ac:=eq_true ac;have ad:0≤(aa:Int):=of_decide_eq_true (by assumption);have ae:aa < (l1.length:Int):=of_decide_eq_true (by assumption);obtain ⟨an,ai,ag⟩:=Kd.at_int ay.out aa ad ae;cases ai
         replace ad:=eq_true ad;replace ae:=eq_true ae;go_wp2
         repeat (go_quiet (fail);try go_wp2)
         go_roundg k1
         case measure=>have:=az.out;omega
         case rel=>exact ⟨(wrap64 (aa + 1)),(by rfl),H',⟨by have:=az.out;omega⟩,by repeat (first|exact Drawn0.refl _|apply Drawn0.step)⟩
        ·rw [if_neg c8] at H;have ap:((rd l0 aa) == (rd l1 aa))=false:=beq_eq_false_iff_ne.mpr c8;have aq:((rd l0 aa) != (rd l1 aa))=true:=bne_iff_ne.mpr c8;obtain rfl:=Option.some.inj H;have ab:0≤(aa:Int):=of_decide_eq_true (by assumption);have ac:aa < (l0.length:Int):=of_decide_eq_true (by assumption);obtain ⟨am,ah,af⟩:=Kd.at_int ax.out aa ab ac;cases ah
         replace ab:=eq_true ab;replace ac:=eq_true ac;have ad:0≤(aa:Int):=of_decide_eq_true (by assumption);have ae:aa < (l1.length:Int):=of_decide_eq_true (by assumption);obtain ⟨an,ai,ag⟩:=Kd.at_int ay.out aa ad ae;cases ai
         replace ad:=eq_true ad;replace ae:=eq_true ae;go_wp2
         repeat (go_quiet (fail);try go_wp2)
         go_ret
         exact ⟨by first|rfl|(simp;done)|(simp [*];done),by repeat (first|exact Drawn0.refl _|apply Drawn0.step)⟩
       ·rw [if_neg c7] at H;exact absurd H (by simp)
      ·rw [if_neg c6] at H;exact absurd H (by simp)
     ·rw [if_neg c5] at H;exact absurd H (by simp)
    ·rw [if_neg c4] at H;have ao:decide (aa < (l0.length:Int))=false:=decide_eq_false c4;clear c4;obtain rfl:=Option.some.inj H;go_wp2
     repeat (go_quiet (fail);try go_wp2)
     go_ret
     exact ⟨by first|rfl|(simp;done)|(simp [*];done),by repeat (first|exact Drawn0.refl _|apply Drawn0.step)⟩
 ·rw [if_neg c3] at H;have aj:((l0.length:Int) == (l1.length:Int))=false:=beq_eq_false_iff_ne.mpr c3;have ak:((l0.length:Int) != (l1.length:Int))=true:=bne_iff_ne.mpr c3;have al:(l0.length == l1.length)=false:=by first|simpa using c3|(simp at c3 ⊢;omega)
  obtain rfl:=Option.some.inj H;go_enter Try.func21,Try.ntmps21
  go_wp2
  repeat (go_quiet (fail);try go_wp2)
  go_ret
  exact ⟨by first|rfl|(simp;done)|(simp [*];done),by repeat (first|exact Drawn0.refl _|apply Drawn0.step)⟩

/-! ### spec_l1Cur_subset: function 65 -/
def spec_l1Cur_subset.l0 : Nat→Int→Int→List Int→Int→List Int→Int→Int→Option (List Int × Int × Int)
 | 0,_,_,_,_,_,_,_=>none
 | k + 1,x1,x2,x7,x8,x1000,x1001,x1002=>if x8 < x1 then ((spec_l1Cur_pick.f x1000 x1001 x1002 x2).bind fun bt387=>(if bt387.1=0 then (if x7.length < 17592186044416 then (spec_l1Cur_subset.l0 k x1 x2 (x7 ++ [x8]) (wrap64 (x8 + 1)) x1000 bt387.2.1 bt387.2.2) else (none)) else (spec_l1Cur_subset.l0 k x1 x2 x7 (wrap64 (x8 + 1)) x1000 bt387.2.1 bt387.2.2))) else (some (x7,x1001,x1002))
def spec_l1Cur_subset.f (k:Nat) (s0_0:List Int) (s0_1:Int) (s0_2:Int) (a1:Int) (a2:Int):Option (List Int × Int × Int):=spec_l1Cur_subset.l0 k a1 a2 ([]:List Int) 0 s0_0 s0_1 s0_2
theorem spec_l1Cur_subset.mono_l : ∀ k,(∀ y0 y1 y2 y3 y4 y5 y6,LeO (spec_l1Cur_subset.l0 k y0 y1 y2 y3 y4 y5 y6) (spec_l1Cur_subset.l0 (k + 1) y0 y1 y2 y3 y4 y5 y6))
 | 0=>fun _ _ _ _ _ _ _ r h=>by simp [spec_l1Cur_subset.l0] at h
 | k + 1=>by
  have aa:=spec_l1Cur_subset.mono_l k
  ·intro y0 y1 y2 y3 y4 y5 y6;unfold spec_l1Cur_subset.l0
   repeat' first
   | (with_reducible exact aa _ _ _ _ _ _ _)
   | (with_reducible exact LeO.refl _)
   | (with_reducible exact LeO.none _)
   | (with_reducible refine LeO.ite ?_ ?_)
   | (with_reducible refine LeO.bind ?_ (fun _=>?_))
   | exact aa _ _ _ _ _ _ _
   | exact LeO.none _
   | refine LeO.ite ?_ ?_
   | refine LeO.bind ?_ (fun _=>?_)
theorem spec_l1Cur_subset.mono : ∀ a0 a1 a2 a3 a4 k,LeO (spec_l1Cur_subset.f k a0 a1 a2 a3 a4) (spec_l1Cur_subset.f (k + 1) a0 a1 a2 a3 a4):=by
 intro a0 a1 a2 a3 a4 k;have aa:=spec_l1Cur_subset.mono_l k;unfold spec_l1Cur_subset.f
 repeat' first
   | (with_reducible exact aa _ _ _ _ _ _ _)
   | (with_reducible exact LeO.refl _)
   | (with_reducible exact LeO.none _)
   | (with_reducible refine LeO.ite ?_ ?_)
   | (with_reducible refine LeO.bind ?_ (fun _=>?_))
   | exact aa _ _ _ _ _ _ _
   | exact LeO.none _
   | refine LeO.ite ?_ ?_
   | refine LeO.bind ?_ (fun _=>?_)
set_option maxHeartbeats 8000000 in
set_option maxRecDepth 100000 in
theorem spec_l1Cur_subset.calls (k:Nat) (g:Nat) (ad:List Int) (al:Int) (am:Int) (a1:Int) (a2:Int) (r1:List Int) (r2:Int) (r3:Int) (w0 w:World) (hI:IsS65 w0 w g ad al am) (hB:Below w0.heap.size w0 w) (h:spec_l1Cur_subset.f k ad al am a1 a2=some (r1,r2,r3)) :
  Calls Try.prog 65 #[.pointer (some ⟨g,0,none⟩),.int .i64 a1,.int .i64 a2] w fun e w'=>∃ aC:Value,e=.returned (aC)∧Kd.R (Kd.int .i64) 3 w' w.heap.size (fun _=>True) aC r1∧IsS65 w0 w' g ad r2 r3∧Below w0.heap.size w0 w'∧KeepBut w w' g none:=by
 have af:=qK hI;have HK:=qK (KeepBut.refl w g none);have HL:=qK hB.size;clear hI;have aG:=qK hB.size;have HB:=qK hB;clear hB;have H:(spec_l1Cur_subset.l0 k a1 a2 ([]:List Int) 0 ad al am)=some (r1,r2,r3):=h;clear h;have H':=qK H;clear H;go_enter Try.func65,Try.ntmps65
 go_wp2
 go_loopg [7,8] k (fun kq v7 v8 w'=>∃ (ag:List Int) (ac:Int) (aa:Int) (ab:Int),v8=.int .i64 ac∧Aside0 (spec_l1Cur_subset.l0 kq a1 a2 ag ac ad aa ab=some (r1,r2,r3))∧Aside0 (kq≤k)∧Aside0 (Kd.R (Kd.int .i64) 3 w' w.heap.size (fun _=>True) v7 ag)∧Aside0 (IsS65 w0 w' g ad aa ab)∧Aside0 (KeepBut w w' g none)∧Aside0 (Below w0.heap.size w0 w'))
 case atStart=>exact ⟨(([]:List Int)),(0),(al),(am),(by rfl),H',⟨Nat.le_refl _⟩,⟨by first|exact Kd.R_nil _ _ _ _ _|exact Kd.N_nil _ _ _ _ _|exact Kd.V_nil _ _ _ _ _|exact Kd.Q_nil _ _ _ _ _|exact Kd.S_nil _ _ _ _ _⟩,⟨af.out⟩,⟨HK.out⟩,⟨HB.out⟩⟩
 case round =>
  clear H';try clear p2
  obtain ⟨ag,ac,aa,ab,rfl,HA,aw,ae,af,HK,HB⟩:=hrel;cases gk with
  | zero=>exact absurd HA.out (by simp [spec_l1Cur_subset.l0])
  | succ k1 =>
   have H:=HA.out;clear HA;simp only [spec_l1Cur_subset.l0] at H;by_cases c4:ac < a1
   ·rw [if_pos c4] at H;have ax:decide (ac < a1)=true:=decide_eq_true c4;clear c4;replace H:=Option.bind_eq_some_iff.mp H;obtain ⟨⟨ah,aj,ak⟩,aD,H⟩:=H;replace H:(if ah=0 then (if ag.length < 17592186044416 then (spec_l1Cur_subset.l0 k1 a1 a2 (ag ++ [ac]) (wrap64 (ac + 1)) ad aj ak) else (none)) else (spec_l1Cur_subset.l0 k1 a1 a2 ag (wrap64 (ac + 1)) ad aj ak))=some (r1,r2,r3):=H;have A5:=qK aD;clear aD;by_cases c6:ah=0
    ·rw [if_pos c6] at H;have ay:(ah == 0)=true:=beq_iff_eq.mpr c6;have az:(ah != 0)=false:=bne_eq_false_iff_eq.mpr c6;clear c6;by_cases c7:ag.length < 17592186044416
     ·rw [if_pos c7] at H;have aA:=qK c7;clear c7;obtain ⟨ar,ai⟩:∃ y_:List Int,y_=(ag ++ [ac]):=⟨_,rfl⟩;replace H:(spec_l1Cur_subset.l0 k1 a1 a2 ar (wrap64 (ac + 1)) ad aj ak)=some (r1,r2,r3):=by first|(rw [ai];with_reducible exact H)|(have aB:=(Option.bind_some _ _).symm.trans H;rw [ai];with_reducible exact aB)|(have aB:=(Option.bind_some _ _).symm.trans H;with_reducible exact aB)|with_reducible exact H|(rw [ai];exact H)|exact H
      have au:=qK ai;clear ai;have H':=qK H;clear H;go_wp2_with (first|((with_reducible refine gate_callee (f:=59) rfl ?_);refine goesL_ (some 16) rfl rfl Try.func59 (by kernel_rfl) rfl #[.pointer (some ⟨g,0,none⟩),.int .i64 a2] rfl (by (try simp only [mT,mC,mN]);first|done|rfl|(simp only [lD,lT];rfl)) ?_;(with_reducible refine (spec_l1Cur_pick.calls g ad aa ab a2 ah aj ak w0 _ ?side1 ?side2 A5.out).mono ?_);(case side1=>repeat (first|(with_reducible first|exact af.out|apply IsS65.alloc|apply IsS65.drewN|apply IsS65.drew|apply IsS65.set_1|apply IsS65.set_2)|exact af.out));(case side2=>repeat (first|(with_reducible first|exact HB.out|apply qA|apply qD|apply qO|refine qS ?_ (IsS65.ge af.out))|exact HB.out));rintro e w8 ⟨rfl,hi,hb,hk⟩;refine ⟨_,rfl,?_⟩;have an:=qK (Kd.R_mono (Kd.R_keep (IsS65.apart (show IsS65 w0 _ g ad aa ab from af.out) ae.out (by decide)) hk (fun _ h=>h.2)) (fun _ h=>h.1));have ao:=qK (KeepBut.trans (HK.out) hk (.inl rfl));have ap:=qK (hb);have aq:=qK (hi);clear ae HK HB af;have ae:=an;have HK:=ao;have HB:=ap;have af:=aq;clear an ao ap aq;(try clear hb);(try clear hb2);(try clear hk);(try clear hi))|((with_reducible refine gate_builtin (b:=.append) (xs:=#[.tmp 18,.tmp 20]) rfl ?_);at_builtin;refine Kd.R_append (Kd.int .i64) w.heap.size rfl (.tmp 18) (.tmp 20) 22 3 (.int .i64 0) 8 rfl Try.underlying22 info3 rfl (by decide) (by omega) u7 ag ac [.int .i64 ac] (fun _=>True) (fun _=>False) rfl rfl ?aP (fun _ hk=>hk.elim) ?aF ?aO (Below.refl _ _) ?aS ?aL ?_;(case aP=>exact rfl);(case aF=>exact (fun _ _=>trivial));(case aO=>exact ae.out);(case aS=>exact (keep_size (w:=w) (g:=g) (row:=none) (HK.out)));(case aL=>have:=aA.out;omega);intro aE w9 ho hb hg hat;rw [← au.out] at ho;have an:=qK (IsS65.grown (af.out) hg (IsS65.own_ne af.out ae.out (by decide)));have ao:=qK (below_weaken (HB.out) HL.out hb);have ap:=qK (KeepBut.trans (HK.out) (KeepBut.of_grown hg g) (Kd.R_base2 ae.out));have aq:=qK (ho);clear af HB HK ae;have af:=an;have HB:=ao;have HK:=ap;have av:=aq;clear an ao ap aq;clear ho hb hg hat))
      go_roundg k1
      case measure=>have:=aw.out;omega
      case rel=>exact ⟨(ar),(wrap64 (ac + 1)),(aj),(ak),(by rfl),H',⟨by have:=aw.out;omega⟩,⟨av.out⟩,⟨af.out⟩,⟨HK.out⟩,⟨HB.out⟩⟩
     ·rw [if_neg c7] at H;exact absurd H (by simp)
    ·rw [if_neg c6] at H;have ay:(ah == 0)=false:=beq_eq_false_iff_ne.mpr c6;have az:(ah != 0)=true:=bne_iff_ne.mpr c6;have H':=qK H;clear H;go_wp2_with (first|((with_reducible refine gate_callee (f:=59) rfl ?_);refine goesL_ (some 16) rfl rfl Try.func59 (by kernel_rfl) rfl #[.pointer (some ⟨g,0,none⟩),.int .i64 a2] rfl (by (try simp only [mT,mC,mN]);first|done|rfl|(simp only [lD,lT];rfl)) ?_;(with_reducible refine (spec_l1Cur_pick.calls g ad aa ab a2 ah aj ak w0 _ ?side1 ?side2 A5.out).mono ?_);(case side1=>repeat (first|(with_reducible first|exact af.out|apply IsS65.alloc|apply IsS65.drewN|apply IsS65.drew|apply IsS65.set_1|apply IsS65.set_2)|exact af.out));(case side2=>repeat (first|(with_reducible first|exact HB.out|apply qA|apply qD|apply qO|refine qS ?_ (IsS65.ge af.out))|exact HB.out));rintro e aH ⟨rfl,hi,hb,hk⟩;refine ⟨_,rfl,?_⟩;have an:=qK (Kd.R_mono (Kd.R_keep (IsS65.apart (show IsS65 w0 _ g ad aa ab from af.out) ae.out (by decide)) hk (fun _ h=>h.2)) (fun _ h=>h.1));have ao:=qK (KeepBut.trans (HK.out) hk (.inl rfl));have ap:=qK (hb);have aq:=qK (hi);clear ae HK HB af;have ae:=an;have HK:=ao;have HB:=ap;have af:=aq;clear an ao ap aq;(try clear hb);(try clear hb2);(try clear hk);(try clear hi)))
     go_roundg k1
     case measure=>have:=aw.out;omega
     case rel=>exact ⟨(ag),(wrap64 (ac + 1)),(aj),(ak),(by rfl),H',⟨by have:=aw.out;omega⟩,⟨ae.out⟩,⟨af.out⟩,⟨HK.out⟩,⟨HB.out⟩⟩
   ·rw [if_neg c4] at H;have ax:decide (ac < a1)=false:=decide_eq_false c4;clear c4;simp only [Option.some.injEq,Prod.mk.injEq] at H;obtain ⟨rfl,rfl,rfl⟩:=H;go_wp2
    go_ret
    exact ⟨_,by rfl,ae.out,af.out,HB.out,HK.out⟩

/-! ### spec_DrawSizeOf: function 51 -/
def spec_DrawSizeOf.f (k:Nat) (l0:List Int):Option (List Int × (List (List Int)) × List Int):=(newCur.f l0 0 0).bind fun bt394=>((spec_l1Cur_stats.f k bt394.1 bt394.2.1 bt394.2.2).bind fun bt398=>((spec_l1Cur_pick.f bt394.1 bt398.2.2.1 bt398.2.2.2 2).bind fun bt407=>((spec_l1Cur_pick.f bt394.1 bt407.2.1 bt407.2.2 2).bind fun bt410=>((spec_l1Cur_subset.f k bt394.1 bt410.2.1 bt410.2.2 (wrap64 ((bt398.1.length:Int) + (wrap64 (bt407.1 * bt410.1)))) 2).bind fun bt413=>(some (bt398.1,bt398.2.1,bt413.1))))))
theorem spec_DrawSizeOf.mono : ∀ a0 k,LeO (spec_DrawSizeOf.f k a0) (spec_DrawSizeOf.f (k + 1) a0):=by
 intro a0 k;unfold spec_DrawSizeOf.f
 repeat' first
   | (with_reducible exact spec_l1Cur_stats.mono _ _ _ _)
   | (with_reducible exact spec_l1Cur_subset.mono _ _ _ _ _ _)
   | (with_reducible exact LeO.refl _)
   | (with_reducible exact LeO.none _)
   | (with_reducible refine LeO.ite ?_ ?_)
   | (with_reducible refine LeO.bind ?_ (fun _=>?_))
   | exact spec_l1Cur_stats.mono _ _ _ _
   | exact spec_l1Cur_subset.mono _ _ _ _ _ _
   | exact LeO.none _
   | refine LeO.ite ?_ ?_
   | refine LeO.bind ?_ (fun _=>?_)
def spec_DrawSizeOf.T3 : Bool × List (List Nat × List Nat):=(true,[([],[]),([],[]),([],[]),([2],[2]),([3],[3]),([],[]),([5],[5]),([],[]),([7,6],[7]),([6,8],[6,8]),([4,9],[4,9]),([1,10,8],[1,10]),([0,11,0],[0]),([11,12,0,1,2,3,4,5,6,7,8,9,10,11,12],[11])])
def spec_DrawSizeOf.B3 : List Nat:=[0,0,0,4,12,0,32,0,224,480,1020,2046,4095,8191]
theorem spec_DrawSizeOf.tab3 : rtab .any (opsOf Try.f51 3)=spec_DrawSizeOf.T3:=by kernel_rfl
theorem spec_DrawSizeOf.bits3 : waitsOk spec_DrawSizeOf.T3.2 spec_DrawSizeOf.B3=true:=by kernel_rfl
set_option maxHeartbeats 8000000 in
set_option maxRecDepth 100000 in
theorem spec_DrawSizeOf.calls (k:Nat) (A0:Option Addr) (c0:Nat) (l0:List Int) (r1:List Int) (r2:List (List Int)) (r3:List Int) (w:World) (bw:Kd.C (Kd.int .u8) w A0 l0.length l0) (bx:l0.length≤c0) (h:spec_DrawSizeOf.f k l0=some (r1,r2,r3)) :
  Calls Try.prog 51 #[.slice A0 l0.length c0] w fun e w'=>∃ bh bz bi:Value,e=.returned (.tuple #[.agg #[bh,bz],bi])∧Kd.R (Kd.int .i64) 3 w' w.heap.size (fun k_=>some k_ ≠ (bi:Value).ownBlock) bh r1∧Kd.S (Kd.slice 3 (Kd.int .i64)) 22 w' w.heap.size (fun k_=>some k_ ≠ (bh:Value).ownBlock∧some k_ ≠ (bi:Value).ownBlock) bz r2∧Kd.R (Kd.int .i64) 3 w' w.heap.size (fun k_=>some k_ ≠ (bh:Value).ownBlock) bi r3∧Below w.heap.size w w':=by
 have bR:=Try.underlying29;have bS:=Try.underlying65;have bT:=qK bw;have cc:=qK bx;clear bw bx;have HB:=qK (Below.refl w.heap.size w);have H:((newCur.f l0 0 0).bind fun aH=>((spec_l1Cur_stats.f k aH.1 aH.2.1 aH.2.2).bind fun au=>((spec_l1Cur_pick.f aH.1 au.2.2.1 au.2.2.2 2).bind fun av=>((spec_l1Cur_pick.f aH.1 av.2.1 av.2.2 2).bind fun al=>((spec_l1Cur_subset.f k aH.1 al.2.1 al.2.2 (wrap64 ((au.1.length:Int) + (wrap64 (av.1 * al.1)))) 2).bind fun aA=>(some (au.1,au.2.1,aA.1)))))))=some (r1,r2,r3):=h;clear h;replace H:=Option.bind_eq_some_iff.mp H;obtain ⟨⟨am,aZ,ba⟩,bA,H⟩:=H;replace H:((spec_l1Cur_stats.f k am aZ ba).bind fun au=>((spec_l1Cur_pick.f am au.2.2.1 au.2.2.2 2).bind fun av=>((spec_l1Cur_pick.f am av.2.1 av.2.2 2).bind fun al=>((spec_l1Cur_subset.f k am al.2.1 al.2.2 (wrap64 ((au.1.length:Int) + (wrap64 (av.1 * al.1)))) 2).bind fun aA=>(some (au.1,au.2.1,aA.1))))))=some (r1,r2,r3):=H;have A2:=qK bA;clear bA;replace H:=Option.bind_eq_some_iff.mp H;obtain ⟨⟨aj,an,aM,aN⟩,bB,H⟩:=H;replace H:((spec_l1Cur_pick.f am aM aN 2).bind fun av=>((spec_l1Cur_pick.f am av.2.1 av.2.2 2).bind fun al=>((spec_l1Cur_subset.f k am al.2.1 al.2.2 (wrap64 ((aj.length:Int) + (wrap64 (av.1 * al.1)))) 2).bind fun aA=>(some (aj,an,aA.1)))))=some (r1,r2,r3):=H;have A3:=qK bB;clear bB;replace H:=Option.bind_eq_some_iff.mp H;obtain ⟨⟨aQ,aR,aT⟩,bC,H⟩:=H;replace H:((spec_l1Cur_pick.f am aR aT 2).bind fun al=>((spec_l1Cur_subset.f k am al.2.1 al.2.2 (wrap64 ((aj.length:Int) + (wrap64 (aQ * al.1)))) 2).bind fun aA=>(some (aj,an,aA.1))))=some (r1,r2,r3):=H;have A4:=qK bC;clear bC;replace H:=Option.bind_eq_some_iff.mp H;obtain ⟨⟨aW,aU,aV⟩,bD,H⟩:=H;replace H:((spec_l1Cur_subset.f k am aU aV (wrap64 ((aj.length:Int) + (wrap64 (aQ * aW)))) 2).bind fun aA=>(some (aj,an,aA.1)))=some (r1,r2,r3):=H;have A5:=qK bD;clear bD;replace H:=Option.bind_eq_some_iff.mp H;obtain ⟨⟨be,br,bs⟩,bE,H⟩:=H;replace H:(some (aj,an,be))=some (r1,r2,r3):=H;have A6:=qK bE;clear bE;simp only [Option.some.injEq,Prod.mk.injEq] at H;obtain ⟨rfl,rfl,rfl⟩:=H;go_enter Try.func51,Try.ntmps51
 try go_wp2_with (first|((with_reducible refine gate_dst (N:=2) rfl ?_);refine box_event ?hg (N:=2) ?hd (cs:=#[.slice none 0 0,.slice none 0 0]) (t:=29) ?hr ?_;(case hd=>rfl);(case hg=>rfl);(case hr=>(go_simp;try rfl));intro ag hg w7 hbox hb;have aC:=qK (qT HB.out hb);have aD:=qK (hbox);have aB:=qK ((by rw [hg];exact (qZ HB.out):w.heap.size≤ag));have aE:=aB;clear HB;have HB:=aC;have ab:=aD;have bF:=aB;have aI:=aE;clear aC aD aB aE;clear hb hbox hg)|((with_reducible refine gate_dst (N:=8) rfl ?_);refine box_event ?hg (N:=8) ?hd (cs:=#[.slice A0 l0.length c0,.int .i64 0,.int .u64 0]) (t:=65) ?hr ?_;(case hd=>rfl);(case hg=>rfl);(case hr=>(go_simp;try rfl));intro ap hg w8 hbox aX;have hb:=qT (HB.out) aX;have hi:IsS65 w w8 ap am aZ ba:=(by have hj_:=A2.out;simp only [newCur.f,Option.some.injEq,Prod.mk.injEq] at hj_;obtain ⟨bU,bV,bW⟩:=hj_;rw [← bU,← bV,← bW];exact ⟨_,_,hbox,(by rw [hg];exact (qZ (HB.out)):w.heap.size≤ap),(by exact bT.out)⟩);clear hbox hg;have aC:=qK (qB (g:=ag) (o:=_) (by exact ab.out) aX);have aD:=qK (hb);have aB:=qK (hi);have aE:=qK (IsS65.ne_blk hi (qB (g:=ag) (o:=_) (by exact ab.out) aX) (by decide));have aG:=qK (Ne.symm (IsS65.ne_blk hi (qB (g:=ag) (o:=_) (by exact ab.out) aX) (by decide)));clear ab HB;have ab:=aC;have HB:=aD;have aa:=aB;have ac:=aE;have aw:=aG;clear aC aD aB aE aG;(try clear hb);(try clear aX);(try clear hk);(try clear hi))|((with_reducible refine gate_callee (f:=41) rfl ?_);refine goesL_ (some 10) rfl rfl Try.func41 (by kernel_rfl) rfl #[.pointer (some ⟨ap,0,none⟩)] rfl (by (try simp only [mT,mC,mN]);first|done|rfl|(simp only [lD,lT];rfl)) ?_;(with_reducible refine (spec_l1Cur_stats.calls k ap am aZ ba aj an aM aN w _ ?side1 ?side2 A3.out).mono ?_);(case side1=>repeat (first|(with_reducible first|exact aa.out|apply IsS65.alloc|apply IsS65.drewN|apply IsS65.drew|apply IsS65.set_1|apply IsS65.set_2|refine IsS65.far ?_ ac.out _)|exact aa.out));(case side2=>repeat (first|(with_reducible first|exact HB.out|apply qA|apply qD|apply qO|refine qS ?_ (IsS65.ge aa.out)|refine qS ?_ aI.out)|exact HB.out));rintro e w9 ⟨bX,bY,rfl,bb,bG,hi,hb,hk⟩;refine ⟨_,rfl,?_⟩;have aC:=qK (KeepBut.blk hk (g':=ag) (o:=_) (by exact ab.out) aw.out (by simp));have aD:=qK (Kd.R_lower bb (qZ (HB.out)));have aB:=qK (Kd.S_lower bG (qZ (HB.out)));have aE:=qK (hb);have aG:=qK (hi);clear ab HB aa;have ab:=aC;have ah:=aD;have ai:=aB;have HB:=aE;have aa:=aG;clear aC aD aB aE aG;(try clear hb);(try clear aX);(try clear hk);(try clear hi);(try clear bb);(try clear bG))|((with_reducible refine gate_dst (N:=5) rfl ?_);refine box_event ?hg (N:=5) ?hd (cs:=#[.slice none 0 0,.slice none 0 0]) (t:=29) ?hr ?_;(case hd=>rfl);(case hg=>rfl);(case hr=>(go_simp;try rfl));intro ae hg aY hbox hb;have aC:=qK (rB ah.out hb);have aD:=qK (Kd.S_below ai.out hb);have aB:=qK (qB (g:=ag) (o:=_) (by exact ab.out) hb);have aE:=qK (IsS65.below (by repeat (first|(with_reducible first|exact aa.out|apply IsS65.alloc|apply IsS65.drewN|apply IsS65.drew|apply IsS65.set_1|apply IsS65.set_2|refine IsS65.far ?_ ac.out _)|exact aa.out)) hb);have aG:=qK (qT (HB.out) hb);have aJ:=qK (hbox);have bd:=qK ((by rw [hg];exact (qZ (HB.out)):w.heap.size≤ae));have bH:=bd;have bt:=qK ((by rw [hg];exact Nat.ne_of_lt (blk_lt (g:=ag) (o:=_) (by exact ab.out)):ag ≠ ae));have bI:=qK bt.out.symm;have bc:=qK ((by rw [hg];exact Nat.ne_of_lt (IsS65.lt (show IsS65 w _ ap am aM aN from by repeat (first|(with_reducible first|exact aa.out|apply IsS65.alloc|apply IsS65.drewN|apply IsS65.drew|apply IsS65.set_1|apply IsS65.set_2|refine IsS65.far ?_ ac.out _)|exact aa.out))):ap ≠ ae));have bf:=qK bc.out.symm;clear ah ai ab aa HB;have ah:=aC;have ai:=aD;have ab:=aB;have aa:=aE;have HB:=aG;have ad:=aJ;have bJ:=bd;have aK:=bH;have ao:=bt;have ak:=bI;have af:=bc;have ax:=bf;clear aC aD aB aE aG aJ bd bH bt bI bc bf hb hbox hg;obtain ⟨aq,ar,bu⟩:=Kd.R_slice ah.out;subst bu;have bK:=ak.out;have bL:=ao.out;have bM:=ax.out;have bN:=af.out;have bj:aY.cell? ⟨ae,0,none⟩=some (.slice none 0 0):=(qC ad.out 0).trans rfl;have bk:aY.cell? ⟨ae,1,none⟩=some (.slice none 0 0):=(qC ad.out 1).trans rfl;have bl:=qF ad.out 0;have bm:=qF ad.out 1;obtain ⟨ay,az,bv⟩:=Kd.S_slice ai.out;subst bv))
 have aC:Aside0 (Kd.R (Kd.int .i64) 3 ((aY.setCell ⟨ae,0,none⟩ (.slice aq aj.length ar)).setCell ⟨ae,1,none⟩ (.slice ay an.length az)) w.heap.size (fun _=>True) (.slice aq aj.length ar) aj):=⟨Kd.R_mono (Kd.R_far (p:=⟨ae,1,none⟩) (Kd.R_far (p:=⟨ae,0,none⟩) (Kd.R_types ah.out ad.out (by decide)) (fun _ hk=>hk.2) (.slice aq aj.length ar)) (fun _ hk=>hk.2) (.slice ay an.length az)) (fun _ hk=>trivial)⟩;have aD:Aside0 (Kd.S (Kd.slice 3 (Kd.int .i64)) 22 ((aY.setCell ⟨ae,0,none⟩ (.slice aq aj.length ar)).setCell ⟨ae,1,none⟩ (.slice ay an.length az)) w.heap.size (fun k_=>some k_ ≠ (.slice aq aj.length ar:Value).ownBlock) (.slice ay an.length az) an):=⟨Kd.S_mono (Kd.S_far (p:=⟨ae,1,none⟩) (Kd.S_far (p:=⟨ae,0,none⟩) (Kd.S_types ai.out ad.out (by decide)) (fun _ hk=>hk.2) (.slice aq aj.length ar)) (fun _ hk=>hk.2) (.slice ay an.length az)) (fun _ hk=>hk.1)⟩;have aB:Aside0 (((aY.setCell ⟨ae,0,none⟩ (.slice aq aj.length ar)).setCell ⟨ae,1,none⟩ (.slice ay an.length az)).heap[ag]?=some (.cells #[.slice none 0 0,.slice none 0 0] 29 (0,0))):=⟨by (with_reducible repeat (first|refine qN ?_ _|refine qW ?_|refine qL ?_ _));refine qR ?_ ao.out _;(with_reducible repeat (first|refine qN ?_ _|refine qW ?_|refine qL ?_ _));refine qR ?_ ao.out _;(with_reducible repeat (first|refine qN ?_ _|refine qW ?_|refine qL ?_ _));exact ab.out⟩;have aE:Aside0 (((aY.setCell ⟨ae,0,none⟩ (.slice aq aj.length ar)).setCell ⟨ae,1,none⟩ (.slice ay an.length az)).heap[ae]?=some (.cells #[.slice aq aj.length ar,.slice ay an.length az] 29 (0,0))):=⟨by (with_reducible repeat (first|refine qN ?_ _|refine qW ?_|refine qL ?_ _));refine qP (cs:=#[.slice aq aj.length ar,.slice none 0 0]) ?_ 1 _ rfl;(with_reducible repeat (first|refine qN ?_ _|refine qW ?_|refine qL ?_ _));refine qP (cs:=#[.slice none 0 0,.slice none 0 0]) ?_ 0 _ rfl;(with_reducible repeat (first|refine qN ?_ _|refine qW ?_|refine qL ?_ _));exact ad.out⟩;have aG:Aside0 (IsS65 w ((aY.setCell ⟨ae,0,none⟩ (.slice aq aj.length ar)).setCell ⟨ae,1,none⟩ (.slice ay an.length az)) ap am aM aN):=⟨by repeat (first|(with_reducible first|exact aa.out|apply IsS65.alloc|apply IsS65.drewN|apply IsS65.drew|apply IsS65.set_1|apply IsS65.set_2|refine IsS65.far ?_ ac.out _|refine IsS65.far ?_ af.out _)|exact aa.out)⟩;have aJ:Aside0 (Below w.heap.size w ((aY.setCell ⟨ae,0,none⟩ (.slice aq aj.length ar)).setCell ⟨ae,1,none⟩ (.slice ay an.length az))):=⟨by repeat (first|(with_reducible first|exact HB.out|apply qA|apply qD|apply qO|refine qS ?_ (IsS65.ge aa.out)|refine qS ?_ aI.out|refine qS ?_ aK.out)|exact HB.out)⟩;(try clear ah);(try clear ai);(try clear ab);(try clear ad);(try clear aa);(try clear HB);generalize ((aY.setCell ⟨ae,0,none⟩ (.slice aq aj.length ar)).setCell ⟨ae,1,none⟩ (.slice ay an.length az))=w16 at aC aD aB aE aG aJ ⊢
 have ah:=aC;have ai:=aD;have ab:=aB;have ad:=aE;have aa:=aG;have HB:=aJ;clear aC aD aB aE aG aJ;have aC:=qK (rW ah.out);have aD:=qK (Kd.S_drew ai.out);have aB:=qK (qW ab.out);have aE:=qK (qW ad.out);have aG:=qK (IsS65.drew aa.out);have aJ:=qK (qO HB.out);clear ah ai ab ad aa HB;have ah:=aC;have ai:=aD;have ab:=aB;have ad:=aE;have aa:=aG;have HB:=aJ;clear aC aD aB aE aG aJ;refine start_ (n:=14) (S:=fun w'=>w'.cell? ⟨ae,0,none⟩=some (.slice aq aj.length ar)∧w'.cell? ⟨ae,1,none⟩=some (.slice ay an.length az)) (ds:=[]) #[Z,Z,Z,Z,Z,Z,Z,Z,Z,Z,Z,Z,Z,Z] (by kernel_rfl) rfl rfl ⟨(qC ad.out 0).trans rfl,(qC ad.out 1).trans rfl⟩ (fun hHeld=>?_);refine with_tabW spec_DrawSizeOf.tab3 spec_DrawSizeOf.bits3 (fun HT_ HW_=>?_);generalize w16.drew=w17 at ah ai ab ad aa HB hHeld ⊢
 refine pure_ (i:=1) (N:=some 12) (v:=?_) (a':=?_) #[Z,Y,Z,Z,Z,Z,Z,Z,Z,Z,Z,Z,Z,Z] rfl rfl (any_of HT_.out (by kernel_rfl)) (fun _ _ _ h=>h) (Or.inl ⟨by rfl,?_⟩) ?_ ?_;rotate_left
 ·intro w';go_simp;with_reducible rfl
 rotate_left
 ·simp only [Act.put,sIb,sZ,sS,i64_w,i32_w];rfl
 refine pure_ (i:=2) (N:=some 13) (v:=?_) (a':=?_) #[Z,Y,Y,Z,Z,Z,Z,Z,Z,Z,Z,Z,Z,Z] rfl rfl (any_of HT_.out (by kernel_rfl)) (fun _ _ _ h=>h) (Or.inl ⟨by rfl,?_⟩) ?_ ?_;rotate_left
 ·intro w';go_simp;with_reducible rfl
 rotate_left
 ·simp only [Act.put,sIb,sZ,sS,i64_w,i32_w];rfl
 refine pure_ (i:=5) (N:=some 16) (v:=?_) (a':=?_) #[Z,Y,Y,Z,Z,Y,Z,Z,Z,Z,Z,Z,Z,Z] rfl rfl (any_of HT_.out (by kernel_rfl)) (fun _ _ _ h=>h) (Or.inl ⟨by rfl,?_⟩) ?_ ?_;rotate_left
 ·intro w';go_simp;with_reducible rfl
 rotate_left
 ·simp only [Act.put,sIb,sZ,sS,i64_w,i32_w];rfl
 refine pure_ (i:=7) (N:=some 18) (v:=?_) (a':=?_) #[Z,Y,Y,Z,Z,Y,Z,Y,Z,Z,Z,Z,Z,Z] rfl rfl (any_of HT_.out (by kernel_rfl)) (fun _ _ _ h=>h) (Or.inl ⟨by rfl,?_⟩) ?_ ?_;rotate_left
 ·intro w';go_simp;with_reducible rfl
 rotate_left
 ·simp only [Act.put,sIb,sZ,sS,i64_w,i32_w];rfl
 refine take_ (i:=0) (N:=some 11) (v:=?_) (a':=?_) #[Y,Y,Y,Z,Z,Y,Z,Y,Z,Z,Z,Z,Z,Z] rfl rfl (take_ofW HT_.out HW_.out (by kernel_rfl)) (fun _ _ _ h=>h) (Or.inl ⟨by rfl,?_⟩) hHeld ?_ ?_;rotate_left
 ·rintro w' ⟨s0,s1⟩;go_simp;with_reducible rfl
 rotate_left
 ·simp only [Act.put,sIb,sZ,sS,i64_w,i32_w];rfl
 refine take_ (i:=3) (N:=some 14) (v:=?_) (a':=?_) #[Y,Y,Y,Y,Z,Y,Z,Y,Z,Z,Z,Z,Z,Z] rfl rfl (take_ofW HT_.out HW_.out (by kernel_rfl)) (fun _ _ _ h=>h) (Or.inl ⟨by rfl,?_⟩) hHeld ?_ ?_;rotate_left
 ·rintro w' ⟨s0,s1⟩;go_simp;with_reducible rfl
 rotate_left
 ·simp only [Act.put,sIb,sZ,sS,i64_w,i32_w];rfl
 refine pure_ (i:=4) (N:=some 15) (v:=?_) (a':=?_) #[Y,Y,Y,Y,Y,Y,Z,Y,Z,Z,Z,Z,Z,Z] rfl rfl (any_of HT_.out (by kernel_rfl)) (fun _ _ _ h=>h) (Or.inl ⟨by rfl,?_⟩) ?_ ?_;rotate_left
 ·intro w';go_simp;with_reducible rfl
 rotate_left
 ·simp only [Act.put,sIb,sZ,sS,i64_w,i32_w];rfl
 refine one_ (i:=6) (N:=some 17) #[Y,Y,Y,Y,Y,Y,Y,Y,Z,Z,Z,Z,Z,Z] rfl rfl (one_of HT_.out (by kernel_rfl)) (by decide) (fun K hK=>?_);refine goes_ Try.func59 (by kernel_rfl) rfl #[.pointer (some ⟨ap,0,none⟩),.int .i64 2] (by rfl) rfl rfl (by (try simp only [mT,mC,mN]);first|done|rfl|(simp only [lD,lT];rfl)) ?_;with_reducible refine (spec_l1Cur_pick.calls ap am aM aN 2 aQ aR aT w _ ?side1 ?side2 A4.out).mono ?_
 (case side1=>repeat (first|(with_reducible first|exact aa.out|apply IsS65.alloc|apply IsS65.drewN|apply IsS65.drew|apply IsS65.set_1|apply IsS65.set_2|refine IsS65.far ?_ ac.out _|refine IsS65.far ?_ af.out _)|exact aa.out));(case side2=>repeat (first|(with_reducible first|exact HB.out|apply qA|apply qD|apply qO|refine qS ?_ (IsS65.ge aa.out)|refine qS ?_ aI.out|refine qS ?_ aK.out)|exact HB.out));rintro e cd ⟨rfl,hi,hb,hk⟩;refine ⟨_,rfl,?_⟩;have aC:=qK (KeepBut.blk hk (g':=ag) (o:=_) (by exact ab.out) aw.out (by simp));have aD:=qK (Kd.R_mono (Kd.R_keep (IsS65.apart (show IsS65 w _ ap am aM aN from by repeat (first|(with_reducible first|exact aa.out|apply IsS65.alloc|apply IsS65.drewN|apply IsS65.drew|apply IsS65.set_1|apply IsS65.set_2|refine IsS65.far ?_ ac.out _|refine IsS65.far ?_ af.out _)|exact aa.out)) ah.out (by decide)) hk (fun _ h=>h.2)) (fun _ h=>h.1));have aB:=qK (Kd.S_mono (Kd.S_keep (IsS65.apartS (show IsS65 w _ ap am aM aN from by repeat (first|(with_reducible first|exact aa.out|apply IsS65.alloc|apply IsS65.drewN|apply IsS65.drew|apply IsS65.set_1|apply IsS65.set_2|refine IsS65.far ?_ ac.out _|refine IsS65.far ?_ af.out _)|exact aa.out)) ai.out (by decide)) hk (fun _ h=>h.2)) (fun _ h=>h.1));have aE:=qK (KeepBut.blk hk (g':=ae) (o:=_) (by exact ad.out) ax.out (by simp));have aG:=qK (hb);have aJ:=qK (hi);clear ab ah ai ad HB aa;have ab:=aC;have ah:=aD;have ai:=aB;have ad:=aE;have HB:=aG;have aa:=aJ;clear aC aD aB aE aG aJ;(try clear hb);(try clear aX);(try clear hk);(try clear hi);refine hK.out _ _ ⟨(qC ad.out 0).trans rfl,(qC ad.out 1).trans rfl⟩ (fun hHeld=>?_);clear hK K;refine norm_ (a':=?_) ?_ ?_;rotate_left
 ·show Act.put _ (some 17) _=_
  simp only [Act.put,sIb,sZ,sS,i64_w,i32_w];rfl
 refine one_ (i:=8) (N:=some 19) #[Y,Y,Y,Y,Y,Y,Y,Y,Y,Z,Z,Z,Z,Z] rfl rfl (one_of HT_.out (by kernel_rfl)) (by decide) (fun K hK=>?_);refine goes_ Try.func59 (by kernel_rfl) rfl #[.pointer (some ⟨ap,0,none⟩),.int .i64 2] (by rfl) rfl rfl (by (try simp only [mT,mC,mN]);first|done|rfl|(simp only [lD,lT];rfl)) ?_;with_reducible refine (spec_l1Cur_pick.calls ap am aR aT 2 aW aU aV w _ ?side1 ?side2 A5.out).mono ?_
 (case side1=>repeat (first|(with_reducible first|exact aa.out|apply IsS65.alloc|apply IsS65.drewN|apply IsS65.drew|apply IsS65.set_1|apply IsS65.set_2|refine IsS65.far ?_ ac.out _|refine IsS65.far ?_ af.out _)|exact aa.out));(case side2=>repeat (first|(with_reducible first|exact HB.out|apply qA|apply qD|apply qO|refine qS ?_ (IsS65.ge aa.out)|refine qS ?_ aI.out|refine qS ?_ aK.out)|exact HB.out));rintro e ce ⟨rfl,hi,hb,hk⟩;refine ⟨_,rfl,?_⟩;have aC:=qK (KeepBut.blk hk (g':=ag) (o:=_) (by exact ab.out) aw.out (by simp));have aD:=qK (Kd.R_mono (Kd.R_keep (IsS65.apart (show IsS65 w _ ap am aR aT from by repeat (first|(with_reducible first|exact aa.out|apply IsS65.alloc|apply IsS65.drewN|apply IsS65.drew|apply IsS65.set_1|apply IsS65.set_2|refine IsS65.far ?_ ac.out _|refine IsS65.far ?_ af.out _)|exact aa.out)) ah.out (by decide)) hk (fun _ h=>h.2)) (fun _ h=>h.1));have aB:=qK (Kd.S_mono (Kd.S_keep (IsS65.apartS (show IsS65 w _ ap am aR aT from by repeat (first|(with_reducible first|exact aa.out|apply IsS65.alloc|apply IsS65.drewN|apply IsS65.drew|apply IsS65.set_1|apply IsS65.set_2|refine IsS65.far ?_ ac.out _|refine IsS65.far ?_ af.out _)|exact aa.out)) ai.out (by decide)) hk (fun _ h=>h.2)) (fun _ h=>h.1));have aE:=qK (KeepBut.blk hk (g':=ae) (o:=_) (by exact ad.out) ax.out (by simp));have aG:=qK (hb);have aJ:=qK (hi);clear ab ah ai ad HB aa;have ab:=aC;have ah:=aD;have ai:=aB;have ad:=aE;have HB:=aG;have aa:=aJ;clear aC aD aB aE aG aJ;(try clear hb);(try clear aX);(try clear hk);(try clear hi);refine hK.out _ _ ⟨(qC ad.out 0).trans rfl,(qC ad.out 1).trans rfl⟩ (fun hHeld=>?_);clear hK K;refine norm_ (a':=?_) ?_ ?_;rotate_left
 ·show Act.put _ (some 19) _=_
  simp only [Act.put,sIb,sZ,sS,i64_w,i32_w];rfl
 refine pure_ (i:=9) (N:=some 20) (v:=?_) (a':=?_) #[Y,Y,Y,Y,Y,Y,Y,Y,Y,Y,Z,Z,Z,Z] rfl rfl (any_of HT_.out (by kernel_rfl)) (fun _ _ _ h=>h) (Or.inl ⟨by rfl,?_⟩) ?_ ?_;rotate_left
 ·intro w';go_simp;with_reducible rfl
 rotate_left
 ·simp only [Act.put,sIb,sZ,sS,i64_w,i32_w];rfl
 refine pure_ (i:=10) (N:=some 21) (v:=?_) (a':=?_) #[Y,Y,Y,Y,Y,Y,Y,Y,Y,Y,Y,Z,Z,Z] rfl rfl (any_of HT_.out (by kernel_rfl)) (fun _ _ _ h=>h) (Or.inl ⟨by rfl,?_⟩) ?_ ?_;rotate_left
 ·intro w';go_simp;with_reducible rfl
 rotate_left
 ·simp only [Act.put,sIb,sZ,sS,i64_w,i32_w];rfl
 refine one_ (i:=11) (N:=some 22) #[Y,Y,Y,Y,Y,Y,Y,Y,Y,Y,Y,Y,Z,Z] rfl rfl (one_of HT_.out (by kernel_rfl)) (by decide) (fun K hK=>?_);refine goes_ Try.func65 (by kernel_rfl) rfl #[.pointer (some ⟨ap,0,none⟩),.int .i64 (wrap64 ((aj.length:Int) + (wrap64 (aQ * aW)))),.int .i64 2] (by rfl) rfl rfl (by (try simp only [mT,mC,mN]);first|done|rfl|(simp only [lD,lT];rfl)) ?_;with_reducible refine (spec_l1Cur_subset.calls k ap am aU aV (wrap64 ((aj.length:Int) + (wrap64 (aQ * aW)))) 2 be br bs w _ ?side1 ?side2 A6.out).mono ?_
 (case side1=>repeat (first|(with_reducible first|exact aa.out|apply IsS65.alloc|apply IsS65.drewN|apply IsS65.drew|apply IsS65.set_1|apply IsS65.set_2|refine IsS65.far ?_ ac.out _|refine IsS65.far ?_ af.out _)|exact aa.out));(case side2=>repeat (first|(with_reducible first|exact HB.out|apply qA|apply qD|apply qO|refine qS ?_ (IsS65.ge aa.out)|refine qS ?_ aI.out|refine qS ?_ aK.out)|exact HB.out));rintro e bO ⟨bZ,rfl,bb,hi,hb,hk⟩;refine ⟨_,rfl,?_⟩;have aC:=qK (KeepBut.blk hk (g':=ag) (o:=_) (by exact ab.out) aw.out (by simp));have aD:=qK (Kd.R_mono (Kd.R_told (Kd.R_oldK (IsS65.apart (show IsS65 w _ ap am aU aV from by repeat (first|(with_reducible first|exact aa.out|apply IsS65.alloc|apply IsS65.drewN|apply IsS65.drew|apply IsS65.set_1|apply IsS65.set_2|refine IsS65.far ?_ ac.out _|refine IsS65.far ?_ af.out _)|exact aa.out)) ah.out (by decide)) hk) (Kd.R_base bb)) (fun _ h_=>h_.1));have aB:=qK (Kd.S_mono (Kd.S_told (Kd.S_oldK (IsS65.apartS (show IsS65 w _ ap am aU aV from by repeat (first|(with_reducible first|exact aa.out|apply IsS65.alloc|apply IsS65.drewN|apply IsS65.drew|apply IsS65.set_1|apply IsS65.set_2|refine IsS65.far ?_ ac.out _|refine IsS65.far ?_ af.out _)|exact aa.out)) ai.out (by decide)) hk) (Kd.R_base bb)) (fun _ h_=>h_.1));have aE:=qK (KeepBut.blk hk (g':=ae) (o:=_) (by exact ad.out) ax.out (by simp));have aG:=qK (Kd.R_lower (Kd.R_new' bb (Kd.R_lt ah.out)) (qZ (HB.out)));have aJ:=qK (hb);have bd:=qK (hi);clear ab ah ai ad HB aa;have ab:=aC;have ah:=aD;have ai:=aB;have ad:=aE;have bg:=aG;have HB:=aJ;have aa:=bd;clear aC aD aB aE aG aJ bd;(try clear hb);(try clear aX);(try clear hk);(try clear hi);(try clear bb);refine hK.out _ _ ⟨(qC ad.out 0).trans rfl,(qC ad.out 1).trans rfl⟩ (fun hHeld=>?_);clear hK K;refine norm_ (a':=?_) ?_ ?_;rotate_left
 ·show Act.put _ (some 22) _=_
  simp only [Act.put,sIb,sZ,sS,i64_w,i32_w];rfl
 refine one_ (i:=12) (N:=none) #[Y,Y,Y,Y,Y,Y,Y,Y,Y,Y,Y,Y,Y,Z] rfl rfl (one_of HT_.out (by kernel_rfl)) (by decide) (fun K hK=>?_);have ca:bO.cell? ⟨ag,0,none⟩=some (.slice none 0 0):=(qC ab.out 0).trans rfl;have bP:=qF ab.out 0;have bn:=ak.out;have bo:=ao.out;have cb:bO.cell? ⟨ag,1,none⟩=some (.slice none 0 0):=(qC ab.out 1).trans rfl;have bQ:=qF ab.out 1;have bp:=ak.out;have bq:=ao.out;refine skip_ (w1:=?_) (by rfl) rfl ?_ ?_;rotate_left
 ·go_simp;rfl
 refine hK.out _ _ ⟨((cell_far (p:=⟨ag,_,none⟩) ak.out _).trans (((cell_far (p:=⟨ag,_,none⟩) ak.out _).trans (hHeld.1)))),((cell_far (p:=⟨ag,_,none⟩) ak.out _).trans (((cell_far (p:=⟨ag,_,none⟩) ak.out _).trans (hHeld.2))))⟩ (fun hHeld=>?_);clear hK K;refine pure_ (i:=13) (N:=some 3) (v:=?_) (a':=?_) #[Y,Y,Y,Y,Y,Y,Y,Y,Y,Y,Y,Y,Y,Y] rfl rfl (any_of HT_.out (by kernel_rfl)) (fun _ _ _ h=>h) (Or.inl ⟨by rfl,?_⟩) ?_ ?_;rotate_left
 ·intro w';go_simp;with_reducible rfl
 rotate_left
 ·simp only [Act.put,sIb,sZ,sS,i64_w,i32_w];rfl
 refine done_ (done_of HT_.out (by kernel_rfl)) ?_;try go_wp2
 refine bodyPost_ret (results_ct rfl _ _ ag 29 #[.slice aq aj.length ar,.slice ay an.length az] (0,0) _ rfl (by (with_reducible repeat (first|refine qN ?_ _|refine qW ?_|refine qL ?_ _));refine qP (cs:=#[.slice aq aj.length ar,.slice none 0 0]) ?_ 1 _ rfl;(with_reducible repeat (first|refine qN ?_ _|refine qW ?_|refine qL ?_ _));refine qP (cs:=#[.slice none 0 0,.slice none 0 0]) ?_ 0 _ rfl;(with_reducible repeat (first|refine qN ?_ _|refine qW ?_|refine qL ?_ _));exact ab.out) Try.underlying29 rfl (by kernel_rfl)) rfl ?_;exact ⟨_,_,_,by rfl,Kd.R_mono (Kd.R_far (p:=⟨ag,1,none⟩) (Kd.R_far (p:=⟨ag,0,none⟩) (Kd.R_types ah.out ab.out (by decide)) (fun _ hk=>hk.2) (.slice aq aj.length ar)) (fun _ hk=>hk.2) (.slice ay an.length az)) (fun _ hk=>hk.1.2),Kd.S_mono (Kd.S_far (p:=⟨ag,1,none⟩) (Kd.S_far (p:=⟨ag,0,none⟩) (Kd.S_types ai.out ab.out (by decide)) (fun _ hk=>hk.2) (.slice aq aj.length ar)) (fun _ hk=>hk.2) (.slice ay an.length az)) (fun _ hk=>⟨hk.1.1,hk.1.2⟩),Kd.R_mono (Kd.R_far (p:=⟨ag,1,none⟩) (Kd.R_far (p:=⟨ag,0,none⟩) (Kd.R_types bg.out ab.out (by decide)) (fun _ hk=>hk.2) (.slice aq aj.length ar)) (fun _ hk=>hk.2) (.slice ay an.length az)) (fun _ hk=>hk.1.2),by repeat (first|(with_reducible first|exact HB.out|apply qA|apply qD|apply qO|refine qS ?_ (IsS65.ge aa.out)|refine qS ?_ aI.out|refine qS ?_ aK.out)|exact HB.out)⟩

/-! ### spec_DrawBestOf: function 25 -/
def spec_DrawBestOf.f (k:Nat) (l0:List Int):Option (List Int × (List (List Int)) × List Int):=(spec_DrawSizeOf.f k l0).bind fun bt419=>(some (bt419.1,bt419.2.1,bt419.2.2))
theorem spec_DrawBestOf.mono : ∀ a0 k,LeO (spec_DrawBestOf.f k a0) (spec_DrawBestOf.f (k + 1) a0):=by
 intro a0 k;unfold spec_DrawBestOf.f
 repeat' first
   | (with_reducible exact spec_DrawSizeOf.mono _ _)
   | (with_reducible exact LeO.refl _)
   | (with_reducible exact LeO.none _)
   | (with_reducible refine LeO.ite ?_ ?_)
   | (with_reducible refine LeO.bind ?_ (fun _=>?_))
   | exact spec_DrawSizeOf.mono _ _
   | exact LeO.none _
   | refine LeO.ite ?_ ?_
   | refine LeO.bind ?_ (fun _=>?_)
set_option maxHeartbeats 8000000 in
set_option maxRecDepth 100000 in
theorem spec_DrawBestOf.calls (k:Nat) (A0:Option Addr) (c0:Nat) (l0:List Int) (r1:List Int) (r2:List (List Int)) (r3:List Int) (w:World) (aA:Kd.C (Kd.int .u8) w A0 l0.length l0) (aB:l0.length≤c0) (h:spec_DrawBestOf.f k l0=some (r1,r2,r3)) :
  Calls Try.prog 25 #[.slice A0 l0.length c0] w fun e w'=>∃ aq aC ar:Value,e=.returned (.tuple #[.agg #[aq,aC],ar])∧Kd.R (Kd.int .i64) 3 w' w.heap.size (fun k_=>some k_ ≠ (ar:Value).ownBlock) aq r1∧Kd.S (Kd.slice 3 (Kd.int .i64)) 22 w' w.heap.size (fun k_=>some k_ ≠ (aq:Value).ownBlock∧some k_ ≠ (ar:Value).ownBlock) aC r2∧Kd.R (Kd.int .i64) 3 w' w.heap.size (fun k_=>some k_ ≠ (aq:Value).ownBlock) ar r3∧Below w.heap.size w w':=by
 have aK:=Try.underlying29;have aM:=qK aA;have aN:=qK aB;clear aA aB;have HB:=qK (Below.refl w.heap.size w);have H:((spec_DrawSizeOf.f k l0).bind fun ae=>(some (ae.1,ae.2.1,ae.2.2)))=some (r1,r2,r3):=h;clear h;replace H:=Option.bind_eq_some_iff.mp H;obtain ⟨⟨ac,ad,ai⟩,aD,H⟩:=H;replace H:(some (ac,ad,ai))=some (r1,r2,r3):=H;have A2:=qK aD;clear aD;simp only [Option.some.injEq,Prod.mk.injEq] at H;obtain ⟨rfl,rfl,rfl⟩:=H;go_enter Try.func25,Try.ntmps25
 go_wp2_with (first|((with_reducible refine gate_dst (N:=2) rfl ?_);refine box_event ?hg (N:=2) ?hd (cs:=#[.slice none 0 0,.slice none 0 0]) (t:=29) ?hr ?_;(case hd=>rfl);(case hg=>rfl);(case hr=>(go_simp;try rfl));intro aa hg w3 hbox hb;have aj:=qK (qT HB.out hb);have ak:=qK (hbox);have ah:=qK ((by rw [hg];exact (qZ HB.out):w.heap.size≤aa));have al:=ah;clear HB;have HB:=aj;have ab:=ak;have aE:=ah;have am:=al;clear aj ak ah al;clear hb hbox hg)|((with_reducible refine gate_callee (f:=51) rfl ?_);refine goesL_ (some 5) rfl rfl Try.func51 (by kernel_rfl) rfl #[.slice A0 l0.length c0] rfl (by (try simp only [mT,mC,mN]);first|done|rfl|(simp only [lD,lT];rfl)) ?_;(with_reducible refine (spec_DrawSizeOf.calls k _ _ l0 ac ad ai _ ?side1 ?side2 A2.out).mono ?_);(case side1=>exact (cB aM.out HB.out));(case side2=>exact aN.out);rintro e w4 ⟨aQ,aR,aT,rfl,aG,aH,aI,hb⟩;refine ⟨_,rfl,?_⟩;have aj:=qK (Kd.R_lower aG (qZ HB.out));have ak:=qK (Kd.S_lower aH (qZ HB.out));have ah:=qK (Kd.R_lower aI (qZ HB.out));have al:=qK (qB (g:=aa) (o:=_) (by exact ab.out) hb);have aJ:=qK (qT HB.out hb);clear ab HB;have af:=aj;have ag:=ak;have an:=ah;have ab:=al;have HB:=aJ;clear aj ak ah al aJ;(try clear hb);(try clear aG);(try clear aH);(try clear aI);obtain ⟨ao,ap,aU⟩:=Kd.R_slice af.out;subst aU;have aw:w4.cell? ⟨aa,0,none⟩=some (.slice none 0 0):=(qC ab.out 0).trans rfl;have ax:w4.cell? ⟨aa,1,none⟩=some (.slice none 0 0):=(qC ab.out 1).trans rfl;have ay:=qF ab.out 0;have az:=qF ab.out 1;obtain ⟨au,av,aV⟩:=Kd.S_slice ag.out;subst aV))
 refine bodyPost_ret (results_ct rfl _ _ aa 29 #[.slice ao ac.length ap,.slice au ad.length av] (0,0) _ rfl (by (with_reducible repeat (first|refine qN ?_ _|refine qW ?_|refine qL ?_ _));refine qP (cs:=#[.slice ao ac.length ap,.slice none 0 0]) ?_ 1 _ rfl;(with_reducible repeat (first|refine qN ?_ _|refine qW ?_|refine qL ?_ _));refine qP (cs:=#[.slice none 0 0,.slice none 0 0]) ?_ 0 _ rfl;(with_reducible repeat (first|refine qN ?_ _|refine qW ?_|refine qL ?_ _));exact ab.out) Try.underlying29 rfl (by kernel_rfl)) rfl ?_;exact ⟨_,_,_,by rfl,Kd.R_mono (Kd.R_far (p:=⟨aa,1,none⟩) (Kd.R_far (p:=⟨aa,0,none⟩) (Kd.R_types af.out ab.out (by decide)) (fun _ hk=>hk.2) (.slice ao ac.length ap)) (fun _ hk=>hk.2) (.slice au ad.length av)) (fun _ hk=>hk.1),Kd.S_mono (Kd.S_far (p:=⟨aa,1,none⟩) (Kd.S_far (p:=⟨aa,0,none⟩) (Kd.S_types ag.out ab.out (by decide)) (fun _ hk=>hk.2) (.slice ao ac.length ap)) (fun _ hk=>hk.2) (.slice au ad.length av)) (fun _ hk=>⟨hk.1.1,hk.1.2⟩),Kd.R_mono (Kd.R_far (p:=⟨aa,1,none⟩) (Kd.R_far (p:=⟨aa,0,none⟩) (Kd.R_types an.out ab.out (by decide)) (fun _ hk=>hk.2) (.slice ao ac.length ap)) (fun _ hk=>hk.2) (.slice au ad.length av)) (fun _ hk=>hk.1),by repeat (first|(with_reducible first|exact HB.out|apply qA|apply qD|apply qO|refine qS ?_ am.out)|exact HB.out)⟩

/-! ### impl_SizeOf: function 26 -/
def impl_SizeOf.j0 : Nat→List Int→Bool→List Int→List (List Int)→Option (Int × Bool)
 | 0,_,_,_,_=>none
 | k + 1,x1,x14,x429000,x429001=>if x14=true then (some (0,false)) else ((impl_setOf.f k x1).bind fun t431=>((impl_Stats_size.f k x429000 x429001 t431).bind fun t432=>(some (t432,true))))
def impl_SizeOf.f (k:Nat) (l0_0:List Int) (l0_1:List (List Int)) (l1:List Int):Option (Int × Bool):=(impl_GoodStats.f k l0_0 l0_1).bind fun t429=>(if t429=true then ((impl_Stats_areSome.f k l0_0 l0_1 l1).bind fun t430=>(impl_SizeOf.j0 k l1 (!t430) l0_0 l0_1)) else (impl_SizeOf.j0 k l1 true l0_0 l0_1))
theorem impl_SizeOf.mono_l : ∀ k,(∀ y0 y1 y2 y3,LeO (impl_SizeOf.j0 k y0 y1 y2 y3) (impl_SizeOf.j0 (k + 1) y0 y1 y2 y3))
 | 0=>fun _ _ _ _ r h=>by simp [impl_SizeOf.j0] at h
 | k + 1=>by
  have aa:=impl_SizeOf.mono_l k
  ·intro y0 y1 y2 y3;unfold impl_SizeOf.j0
   repeat' first
   | (with_reducible exact aa _ _ _ _)
   | (with_reducible exact impl_GoodStats.mono _ _ _)
   | (with_reducible exact impl_Stats_areSome.mono _ _ _ _)
   | (with_reducible exact impl_Stats_size.mono _ _ _ _)
   | (with_reducible exact impl_setOf.mono _ _)
   | (with_reducible exact LeO.refl _)
   | (with_reducible exact LeO.none _)
   | (with_reducible refine LeO.ite ?_ ?_)
   | (with_reducible refine LeO.bind ?_ (fun _=>?_))
   | exact aa _ _ _ _
   | exact impl_GoodStats.mono _ _ _
   | exact impl_Stats_areSome.mono _ _ _ _
   | exact impl_Stats_size.mono _ _ _ _
   | exact impl_setOf.mono _ _
   | exact LeO.none _
   | refine LeO.ite ?_ ?_
   | refine LeO.bind ?_ (fun _=>?_)
theorem impl_SizeOf.mono : ∀ a0 a1 a2 k,LeO (impl_SizeOf.f k a0 a1 a2) (impl_SizeOf.f (k + 1) a0 a1 a2):=by
 intro a0 a1 a2 k;have aa:=impl_SizeOf.mono_l k;unfold impl_SizeOf.f
 repeat' first
   | (with_reducible exact aa _ _ _ _)
   | (with_reducible exact impl_GoodStats.mono _ _ _)
   | (with_reducible exact impl_Stats_areSome.mono _ _ _ _)
   | (with_reducible exact impl_Stats_size.mono _ _ _ _)
   | (with_reducible exact impl_setOf.mono _ _)
   | (with_reducible exact LeO.refl _)
   | (with_reducible exact LeO.none _)
   | (with_reducible refine LeO.ite ?_ ?_)
   | (with_reducible refine LeO.bind ?_ (fun _=>?_))
   | exact aa _ _ _ _
   | exact impl_GoodStats.mono _ _ _
   | exact impl_Stats_areSome.mono _ _ _ _
   | exact impl_Stats_size.mono _ _ _ _
   | exact impl_setOf.mono _ _
   | exact LeO.none _
   | refine LeO.ite ?_ ?_
   | refine LeO.bind ?_ (fun _=>?_)
set_option maxHeartbeats 8000000 in
set_option maxRecDepth 100000 in
theorem impl_SizeOf.calls (k:Nat) (ae:Option Addr) (af:Nat) (ab:List Int) (ag:Option Addr) (ah:Nat) (ac:List (List Int)) (A1:Option Addr) (c1:Nat) (l1:List Int) (r1:Int) (r2:Bool) (w:World) (aE:Kd.C (Kd.int .i64) w ae ab.length ab) (aG:ab.length≤af) (aH:Kd.C (Kd.slice 3 (Kd.int .i64)) w ag ac.length ac) (aI:ac.length≤ah) (aV:Kd.C (Kd.int .i64) w A1 l1.length l1) (aW:l1.length≤c1) (h:impl_SizeOf.f k ab ac l1=some (r1,r2)) :
  Calls Try.prog 26 #[.agg #[.slice ae ab.length af,.slice ag ac.length ah],.slice A1 l1.length c1] w fun e w'=>e=.returned (.tuple #[.int .i64 r1,.bool r2])∧Below w.heap.size w w':=by
 have bd:=Try.underlying29;have am:=qK aE;have an:=qK aG;clear aE aG;have ao:=qK aH;have ap:=qK aI;clear aH aI;have aX:=qK aV;have aY:=qK aW;clear aV aW;have HB:=qK (Below.refl w.heap.size w);have H:((impl_GoodStats.f k ab ac).bind fun av=>(if av=true then ((impl_Stats_areSome.f k ab ac l1).bind fun al=>(impl_SizeOf.j0 k l1 (!al) ab ac)) else (impl_SizeOf.j0 k l1 true ab ac)))=some (r1,r2):=h;clear h;have aT:=qK H;clear H;go_enter Try.func26,Try.ntmps26
 go_upto_region 1 with (first|((with_reducible refine gate_dst (N:=2) rfl ?_);refine box_event ?hg (N:=2) ?hd (cs:=#[.slice ae ab.length af,.slice ag ac.length ah]) (t:=29) ?hr ?_;(case hd=>rfl);(case hg=>rfl);(case hr=>(go_simp;try rfl));intro ad hg w4 hbox hb;have aj:=qK (qT HB.out hb);have ak:=qK (hbox);have aU:=qK ((by rw [hg];exact (qZ HB.out):w.heap.size≤ad));have aZ:=aU;clear HB;have HB:=aj;have aa:=ak;have ba:=aU;have ai:=aZ;clear aj ak aU aZ;clear hb hbox hg))
 (try simp only [Act.put,List.setIfInBounds_toArray,List.set_cons_zero,List.set_cons_succ]);go_cut [14] (fun be wc=>∃ (kq:Nat) (aq:Bool),be=.bool aq∧Aside0 (impl_SizeOf.j0 kq l1 aq ab ac=some (r1,r2))∧Aside0 (kq≤k)∧Aside0 (wc.heap[ad]?=some (.cells #[(.slice ae ab.length af),(.slice ag ac.length ah)] 29 (0,0)))∧Aside0 (Below w.heap.size w wc))
 case first =>
  have H:=aT.out;clear aT;replace H:=Option.bind_eq_some_iff.mp H;obtain ⟨av,bb,H⟩:=H;replace H:(if av=true then ((impl_Stats_areSome.f k ab ac l1).bind fun al=>(impl_SizeOf.j0 k l1 (!al) ab ac)) else (impl_SizeOf.j0 k l1 true ab ac))=some (r1,r2):=H;have A5:=qK bb;clear bb;by_cases c6:av=true
  ·subst c6;have H1:((impl_Stats_areSome.f k ab ac l1).bind fun al=>(impl_SizeOf.j0 k l1 (!al) ab ac))=some (r1,r2):=by rw [if_pos rfl] at H;exact H
   clear H;have H:=H1;clear H1;replace H:=Option.bind_eq_some_iff.mp H;obtain ⟨al,bc,H⟩:=H;replace H:(impl_SizeOf.j0 k l1 (!al) ab ac)=some (r1,r2):=H;have A7:=qK bc;clear bc;have H':=qK H;clear H;have aJ:w4.cell? ⟨ad,0,none⟩=some (.slice ae ab.length af):=(qC aa.out 0).trans rfl;have aK:w4.cell? ⟨ad,1,none⟩=some (.slice ag ac.length ah):=(qC aa.out 1).trans rfl;have aM:=qF aa.out 0;have aN:=qF aa.out 1;go_wp2_with (first|((with_reducible refine gate_callee (f:=22) rfl ?_);refine goesL_ (some 7) rfl rfl Try.func22 (by kernel_rfl) rfl #[.agg #[.slice ae ab.length af,.slice ag ac.length ah]] rfl (by (try simp only [mT,mC,mN]);first|done|rfl|(simp only [lD,lT];rfl)) ?_;(with_reducible refine (impl_GoodStats.calls k _ _ ab _ _ ac true _ ?side1 ?side2 ?side3 ?side4 A5.out).mono ?_);(case side1=>exact (cB am.out (by repeat (with_reducible first|exact HB.out|apply qA|apply qD|apply qO|refine qS ?_ ai.out))));(case side2=>exact an.out);(case side3=>exact (cB ao.out (by repeat (with_reducible first|exact HB.out|apply qA|apply qD|apply qO|refine qS ?_ ai.out))));(case side4=>exact ap.out);rintro e w9 ⟨rfl,hb⟩;refine ⟨_,rfl,?_⟩;have aj:=qK (qB (g:=ad) (o:=_) (by exact aa.out) hb);have ak:=qK (qT HB.out hb);clear aa HB;have aa:=aj;have HB:=ak;clear aj ak;(try clear hb);have aw:w9.cell? ⟨ad,0,none⟩=some (.slice ae ab.length af):=(qC aa.out 0).trans rfl;have ax:w9.cell? ⟨ad,1,none⟩=some (.slice ag ac.length ah):=(qC aa.out 1).trans rfl;have ay:=qF aa.out 0;have az:=qF aa.out 1)|(go_at_call 34;(with_reducible refine (impl_Stats_areSome.calls k _ _ ab _ _ ac _ _ l1 al _ ?side1 ?side2 ?side3 ?side4 ?side5 ?side6 A7.out).mono ?_);(case side1=>exact (cB am.out HB.out));(case side2=>exact an.out);(case side3=>exact (cB ao.out HB.out));(case side4=>exact ap.out);(case side5=>exact (cB aX.out HB.out));(case side6=>exact aY.out);rintro e bh ⟨rfl,hb⟩;have aj:=qK (qB (g:=ad) (o:=_) (by exact aa.out) hb);have ak:=qK (qT HB.out hb);clear aa HB;have aa:=aj;have HB:=ak;clear aj ak;(try clear hb)))
   go_meet
   case rel=>exact ⟨_,(!al),(by rfl),H',⟨by first|omega|exact Nat.le_refl _⟩,⟨aa.out⟩,⟨HB.out⟩⟩
  ·replace c6:=Bool.eq_false_iff.mpr c6;subst c6;have H1:(impl_SizeOf.j0 k l1 true ab ac)=some (r1,r2):=by rw [if_neg (show ¬ (false=true) by decide)] at H;exact H
   clear H;have H:=H1;clear H1;have H':=qK H;clear H;have aA:w4.cell? ⟨ad,0,none⟩=some (.slice ae ab.length af):=(qC aa.out 0).trans rfl;have aB:w4.cell? ⟨ad,1,none⟩=some (.slice ag ac.length ah):=(qC aa.out 1).trans rfl;have aC:=qF aa.out 0;have aD:=qF aa.out 1;go_wp2_with (first|((with_reducible refine gate_callee (f:=22) rfl ?_);refine goesL_ (some 7) rfl rfl Try.func22 (by kernel_rfl) rfl #[.agg #[.slice ae ab.length af,.slice ag ac.length ah]] rfl (by (try simp only [mT,mC,mN]);first|done|rfl|(simp only [lD,lT];rfl)) ?_;(with_reducible refine (impl_GoodStats.calls k _ _ ab _ _ ac false _ ?side1 ?side2 ?side3 ?side4 A5.out).mono ?_);(case side1=>exact (cB am.out (by repeat (with_reducible first|exact HB.out|apply qA|apply qD|apply qO|refine qS ?_ ai.out))));(case side2=>exact an.out);(case side3=>exact (cB ao.out (by repeat (with_reducible first|exact HB.out|apply qA|apply qD|apply qO|refine qS ?_ ai.out))));(case side4=>exact ap.out);rintro e bi ⟨rfl,hb⟩;refine ⟨_,rfl,?_⟩;have aj:=qK (qB (g:=ad) (o:=_) (by exact aa.out) hb);have ak:=qK (qT HB.out hb);clear aa HB;have aa:=aj;have HB:=ak;clear aj ak;(try clear hb)))
   go_meet
   case rel=>exact ⟨_,(true),(by rfl),H',⟨by first|omega|exact Nat.le_refl _⟩,⟨aa.out⟩,⟨HB.out⟩⟩
 case rest =>
  clear aT;try clear c1
  try clear c2
  try clear p2
  try clear c6
  try clear aw
  try clear ax
  try clear aA
  try clear aB
  try clear aJ
  try clear aK
  try clear ay
  try clear az
  try clear aC
  try clear aD
  try clear aM
  try clear aN
  obtain ⟨kq,aq,rfl,HA,bj,aa,HB⟩:=hcut;cases kq with
  | zero=>exact absurd HA.out (by simp [impl_SizeOf.j0])
  | succ kj2 =>
   have H:=HA.out;clear HA;simp only [impl_SizeOf.j0] at H;by_cases c14:aq=true
   ·subst c14;have H1:(some (0,false))=some (r1,r2):=by rw [if_pos rfl] at H;exact H
    clear H;have H:=H1;clear H1;simp only [Option.some.injEq,Prod.mk.injEq] at H;obtain ⟨rfl,rfl⟩:=H;go_wp2
    go_ret2
    exact ⟨by rfl,HB.out⟩
   ·replace c14:=Bool.eq_false_iff.mpr c14;subst c14;have H1:((impl_setOf.f kj2 l1).bind fun ar=>((impl_Stats_size.f kj2 ab ac ar).bind fun au=>(some (au,true))))=some (r1,r2):=by rw [if_neg (show ¬ (false=true) by decide)] at H;exact H
    clear H;have H:=H1;clear H1;replace H:=Option.bind_eq_some_iff.mp H;obtain ⟨ar,aQ,H⟩:=H;replace H:((impl_Stats_size.f kj2 ab ac ar).bind fun au=>(some (au,true)))=some (r1,r2):=H;have bf:=qK aQ;clear aQ;replace H:=Option.bind_eq_some_iff.mp H;obtain ⟨au,aR,H⟩:=H;replace H:(some (au,true))=some (r1,r2):=H;have bg:=qK aR;clear aR;simp only [Option.some.injEq,Prod.mk.injEq] at H;obtain ⟨rfl,rfl⟩:=H;try go_wp2
    (try (rw [drewN_self wc];generalize hq_:World.drewN wc _=wc;have aj:Aside0 (wc.heap[ad]?=some (.cells #[.slice ae ab.length af,.slice ag ac.length ah] 29 (0,0))):=⟨by rw [← hq_];exact aa.out⟩;have ak:Aside0 (Below w.heap.size w wc):=⟨by rw [← hq_];exact HB.out⟩;clear aa HB hq_;have aa:=aj;have HB:=ak;clear aj ak));have aj:=qK (qW aa.out);have ak:=qK (qO HB.out);clear aa HB;have aa:=aj;have HB:=ak;clear aj ak;refine start_ (n:=6) (S:=fun w'=>w'.cell? ⟨ad,0,none⟩=some (.slice ae ab.length af)∧w'.cell? ⟨ad,1,none⟩=some (.slice ag ac.length ah)) (ds:=[]) #[Z,Z,Z,Z,Z,Z] (by kernel_rfl) rfl rfl ⟨(qC aa.out 0).trans rfl,(qC aa.out 1).trans rfl⟩ (fun hHeld=>?_);generalize wc.drew=w17 at aa HB hHeld ⊢
    refine pure_ (i:=1) (N:=some 16) (v:=?_) (a':=?_) #[Z,Y,Z,Z,Z,Z] rfl rfl (by kernel_rfl) (fun _ _ _ h=>h) (Or.inl ⟨by rfl,?_⟩) ?_ ?_;rotate_left
    ·intro w';go_simp;with_reducible rfl
    rotate_left
    ·simp only [Act.put,sIb,sZ,sS,i64_w,i32_w];rfl
    refine take_ (i:=0) (N:=some 15) (v:=?_) (a':=?_) #[Y,Y,Z,Z,Z,Z] rfl rfl (by kernel_rfl) (fun _ _ _ h=>h) (Or.inl ⟨by rfl,?_⟩) hHeld ?_ ?_;rotate_left
    ·rintro w' ⟨s0,s1⟩;go_simp;with_reducible rfl
    rotate_left
    ·simp only [Act.put,sIb,sZ,sS,i64_w,i32_w];rfl
    refine one_ (i:=2) (N:=some 17) #[Y,Y,Y,Z,Z,Z] rfl rfl (by kernel_rfl) (by decide) (fun K hK=>?_);refine goes_ Try.func36 (by kernel_rfl) rfl #[.slice A1 l1.length c1] (by rfl) rfl rfl (by (try simp only [mT,mC,mN]);first|done|rfl|(simp only [lD,lT];rfl)) ?_;with_reducible refine (impl_setOf.calls kj2 _ _ l1 ar _ ?side1 ?side2 bf.out).mono ?_
    (case side1=>exact (cB aX.out HB.out));(case side2=>exact aY.out);rintro e w' ⟨rfl,⟨nd,rfl⟩⟩;refine ⟨_,rfl,?_⟩;refine hK.out _ _ ⟨(qC aa.out 0).trans rfl,(qC aa.out 1).trans rfl⟩ (fun hHeld=>?_);clear hK K;refine norm_ (a':=?_) ?_ ?_;rotate_left
    ·show Act.put _ (some 17) _=_
     simp only [Act.put,sIb,sZ,sS,i64_w,i32_w];rfl
    refine one_ (i:=3) (N:=some 18) #[Y,Y,Y,Y,Z,Z] rfl rfl (by kernel_rfl) (by decide) (fun K hK=>?_);refine goes_ Try.func43 (by kernel_rfl) rfl #[.agg #[.slice ae ab.length af,.slice ag ac.length ah],.int .i64 ar] (by rfl) rfl rfl (by (try simp only [mT,mC,mN]);first|done|rfl|(simp only [lD,lT];rfl)) ?_;with_reducible refine (impl_Stats_size.calls kj2 _ _ ab _ _ ac ar au _ ?side1 ?side2 ?side3 ?side4 bg.out).mono ?_
    (case side1=>exact (cB am.out (by repeat (with_reducible first|exact HB.out|apply qA|apply qD|apply qO|refine qS ?_ ai.out))));(case side2=>exact an.out);(case side3=>exact (cB ao.out (by repeat (with_reducible first|exact HB.out|apply qA|apply qD|apply qO|refine qS ?_ ai.out))));(case side4=>exact ap.out);rintro e bk ⟨rfl,hb⟩;refine ⟨_,rfl,?_⟩;have aj:=qK (qB (g:=ad) (o:=_) (by exact aa.out) hb);have ak:=qK (qT (by repeat (with_reducible first|exact HB.out|apply qA|apply qD|apply qO|refine qS ?_ ai.out)) hb);clear aa HB;have aa:=aj;have HB:=ak;clear aj ak;(try clear hb);refine hK.out _ _ ⟨(qC aa.out 0).trans rfl,(qC aa.out 1).trans rfl⟩ (fun hHeld=>?_);clear hK K;refine norm_ (a':=?_) ?_ ?_;rotate_left
    ·show Act.put _ (some 18) _=_
     simp only [Act.put,sIb,sZ,sS,i64_w,i32_w];rfl
    refine pure_ (i:=4) (N:=some 4) (v:=?_) (a':=?_) #[Y,Y,Y,Y,Y,Z] rfl rfl (by kernel_rfl) (fun _ _ _ h=>h) (Or.inl ⟨by rfl,?_⟩) ?_ ?_;rotate_left
    ·intro w';go_simp;with_reducible rfl
    rotate_left
    ·simp only [Act.put,sIb,sZ,sS,i64_w,i32_w];rfl
    refine pure_ (i:=5) (N:=some 5) (v:=?_) (a':=?_) #[Y,Y,Y,Y,Y,Y] rfl rfl (by kernel_rfl) (fun _ _ _ h=>h) (Or.inl ⟨by rfl,?_⟩) ?_ ?_;rotate_left
    ·intro w';go_simp;with_reducible rfl
    rotate_left
    ·simp only [Act.put,sIb,sZ,sS,i64_w,i32_w];rfl
    refine done_ (by kernel_rfl) ?_;try go_wp2
    go_ret2
    exact ⟨by rfl,HB.out⟩

/-! ### spec_SizeOf: function 27 -/
def spec_SizeOf.f (k:Nat) (l0_0:List Int) (l0_1:List (List Int)) (l1:List Int):Option (Int × Bool):=(spec_GoodStats.f k l0_0 l0_1).bind fun t434=>(if t434=true then ((spec_l1Some.f k l1 (l0_0.length:Int)).bind fun t435=>(if t435=true then (if (l1.length:Int)=0 then (some (0,false)) else ((spec_l12Size.f k l0_0 l0_1 l1).bind fun t436=>(some (t436,true)))) else (some (0,false)))) else (some (0,false)))
theorem spec_SizeOf.mono : ∀ a0 a1 a2 k,LeO (spec_SizeOf.f k a0 a1 a2) (spec_SizeOf.f (k + 1) a0 a1 a2):=by
 intro a0 a1 a2 k;unfold spec_SizeOf.f
 repeat' first
   | (with_reducible exact spec_GoodStats.mono _ _ _)
   | (with_reducible exact spec_l12Size.mono _ _ _ _)
   | (with_reducible exact spec_l1Some.mono _ _ _)
   | (with_reducible exact LeO.refl _)
   | (with_reducible exact LeO.none _)
   | (with_reducible refine LeO.ite ?_ ?_)
   | (with_reducible refine LeO.bind ?_ (fun _=>?_))
   | exact spec_GoodStats.mono _ _ _
   | exact spec_l12Size.mono _ _ _ _
   | exact spec_l1Some.mono _ _ _
   | exact LeO.none _
   | refine LeO.ite ?_ ?_
   | refine LeO.bind ?_ (fun _=>?_)
set_option maxHeartbeats 8000000 in
set_option maxRecDepth 100000 in
theorem spec_SizeOf.calls (k:Nat) (ae:Option Addr) (af:Nat) (ac:List Int) (ag:Option Addr) (ah:Nat) (ad:List (List Int)) (A1:Option Addr) (c1:Nat) (l1:List Int) (r1:Int) (r2:Bool) (w:World) (ax:Kd.C (Kd.int .i64) w ae ac.length ac) (ay:ac.length≤af) (az:Kd.C (Kd.slice 3 (Kd.int .i64)) w ag ad.length ad) (aA:ad.length≤ah) (bn:Kd.C (Kd.int .i64) w A1 l1.length l1) (bo:l1.length≤c1) (h:spec_SizeOf.f k ac ad l1=some (r1,r2)) :
  Calls Try.prog 27 #[.agg #[.slice ae ac.length af,.slice ag ad.length ah],.slice A1 l1.length c1] w fun e w'=>e=.returned (.tuple #[.int .i64 r1,.bool r2])∧Below w.heap.size w w':=by
 have bx:=Try.underlying29;have am:=qK ax;have an:=qK ay;clear ax ay;have ao:=qK az;have ap:=qK aA;clear az aA;have aC:=qK bn;have aD:=qK bo;clear bn bo;have HB:=qK (Below.refl w.heap.size w);have H:((spec_GoodStats.f k ac ad).bind fun aw=>(if aw=true then ((spec_l1Some.f k l1 (ac.length:Int)).bind fun aq=>(if aq=true then (if (l1.length:Int)=0 then (some (0,false)) else ((spec_l12Size.f k ac ad l1).bind fun al=>(some (al,true)))) else (some (0,false)))) else (some (0,false))))=some (r1,r2):=h;clear h;replace H:=Option.bind_eq_some_iff.mp H;obtain ⟨aw,bp,H⟩:=H;replace H:(if aw=true then ((spec_l1Some.f k l1 (ac.length:Int)).bind fun aq=>(if aq=true then (if (l1.length:Int)=0 then (some (0,false)) else ((spec_l12Size.f k ac ad l1).bind fun al=>(some (al,true)))) else (some (0,false)))) else (some (0,false)))=some (r1,r2):=H;have A3:=qK bp;clear bp;by_cases c4:aw=true
 ·subst c4;have H1:((spec_l1Some.f k l1 (ac.length:Int)).bind fun aq=>(if aq=true then (if (l1.length:Int)=0 then (some (0,false)) else ((spec_l12Size.f k ac ad l1).bind fun al=>(some (al,true)))) else (some (0,false))))=some (r1,r2):=by rw [if_pos rfl] at H;exact H
  clear H;have H:=H1;clear H1;replace H:=Option.bind_eq_some_iff.mp H;obtain ⟨aq,bq,H⟩:=H;replace H:(if aq=true then (if (l1.length:Int)=0 then (some (0,false)) else ((spec_l12Size.f k ac ad l1).bind fun al=>(some (al,true)))) else (some (0,false)))=some (r1,r2):=H;have A5:=qK bq;clear bq;by_cases c6:aq=true
  ·subst c6;have H1:(if (l1.length:Int)=0 then (some (0,false)) else ((spec_l12Size.f k ac ad l1).bind fun al=>(some (al,true))))=some (r1,r2):=by rw [if_pos rfl] at H;exact H
   clear H;have H:=H1;clear H1;by_cases c7:(l1.length:Int)=0
   ·rw [if_pos c7] at H;have bh:((l1.length:Int) == 0)=true:=beq_iff_eq.mpr c7;have bi:((l1.length:Int) != 0)=false:=bne_eq_false_iff_eq.mpr c7;clear c7;simp only [Option.some.injEq,Prod.mk.injEq] at H;obtain ⟨rfl,rfl⟩:=H;go_enter Try.func27,Try.ntmps27
    go_wp2_with (first|((with_reducible refine gate_dst (N:=2) rfl ?_);(try (refine gate_guard (by rfl) ?_;dsimp only));refine box_event ?hg (N:=2) ?hd (cs:=#[.slice ae ac.length af,.slice ag ad.length ah]) (t:=29) ?hr ?_;(case hd=>rfl);(case hg=>rfl);(case hr=>(go_simp;try rfl));intro ab hg w8 hbox hb;have aj:=qK (qT HB.out hb);have ak:=qK (hbox);have ar:=qK ((by rw [hg];exact (qZ HB.out):w.heap.size≤ab));have au:=ar;clear HB;have HB:=aj;have aa:=ak;have av:=ar;have ai:=au;clear aj ak ar au hb hbox hg;have bj:w8.cell? ⟨ab,0,none⟩=some (.slice ae ac.length af):=(qC aa.out 0).trans rfl;have bk:w8.cell? ⟨ab,1,none⟩=some (.slice ag ad.length ah):=(qC aa.out 1).trans rfl;have bl:=qF aa.out 0;have bm:=qF aa.out 1)|((with_reducible refine gate_callee (f:=23) rfl ?_);refine goesL_ (some 7) rfl rfl Try.func23 (by kernel_rfl) rfl #[.agg #[.slice ae ac.length af,.slice ag ad.length ah]] rfl (by (try simp only [mT,mC,mN]);first|done|rfl|(simp only [lD,lT];rfl)) ?_;(with_reducible refine (spec_GoodStats.calls k _ _ ac _ _ ad true _ ?side1 ?side2 ?side3 ?side4 A3.out).mono ?_);(case side1=>exact (cB am.out HB.out));(case side2=>exact an.out);(case side3=>exact (cB ao.out HB.out));(case side4=>exact ap.out);rintro e br ⟨rfl,hb⟩;refine ⟨_,rfl,?_⟩;have aj:=qK (qB (g:=ab) (o:=_) (by exact aa.out) hb);have ak:=qK (qT HB.out hb);clear aa HB;have aa:=aj;have HB:=ak;clear aj ak;(try clear hb);have aE:br.cell? ⟨ab,0,none⟩=some (.slice ae ac.length af):=(qC aa.out 0).trans rfl;have aG:br.cell? ⟨ab,1,none⟩=some (.slice ag ad.length ah):=(qC aa.out 1).trans rfl;have aH:=qF aa.out 0;have aI:=qF aa.out 1)|(go_at_call 30;(with_reducible refine (spec_l1Some.calls k _ _ l1 (ac.length:Int) true _ ?side1 ?side2 A5.out).mono ?_);(case side1=>exact (cB aC.out HB.out));(case side2=>exact aD.out);rintro e w' ⟨rfl,⟨nd,rfl⟩⟩))
    go_ret2
    exact ⟨by rfl,by repeat (first|(with_reducible first|exact HB.out|apply qA|apply qD|apply qO|refine qS ?_ ai.out)|exact HB.out)⟩
   ·rw [if_neg c7] at H;have bh:((l1.length:Int) == 0)=false:=beq_eq_false_iff_ne.mpr c7;have bi:((l1.length:Int) != 0)=true:=bne_iff_ne.mpr c7;have bz:¬ (l1=[]):=fun h_=>c7 (by rw [h_];rfl)
    replace H:=Option.bind_eq_some_iff.mp H;obtain ⟨al,aB,H⟩:=H;replace H:(some (al,true))=some (r1,r2):=H;have bA:=qK aB;clear aB;simp only [Option.some.injEq,Prod.mk.injEq] at H;obtain ⟨rfl,rfl⟩:=H;go_enter Try.func27,Try.ntmps27
    go_wp2_with (first|((with_reducible refine gate_dst (N:=2) rfl ?_);(try (refine gate_guard (by rfl) ?_;dsimp only));refine box_event ?hg (N:=2) ?hd (cs:=#[.slice ae ac.length af,.slice ag ad.length ah]) (t:=29) ?hr ?_;(case hd=>rfl);(case hg=>rfl);(case hr=>(go_simp;try rfl));intro ab hg bs hbox hb;have aj:=qK (qT HB.out hb);have ak:=qK (hbox);have ar:=qK ((by rw [hg];exact (qZ HB.out):w.heap.size≤ab));have au:=ar;clear HB;have HB:=aj;have aa:=ak;have av:=ar;have ai:=au;clear aj ak ar au hb hbox hg;have aJ:bs.cell? ⟨ab,0,none⟩=some (.slice ae ac.length af):=(qC aa.out 0).trans rfl;have aK:bs.cell? ⟨ab,1,none⟩=some (.slice ag ad.length ah):=(qC aa.out 1).trans rfl;have aM:=qF aa.out 0;have aN:=qF aa.out 1)|((with_reducible refine gate_callee (f:=23) rfl ?_);refine goesL_ (some 7) rfl rfl Try.func23 (by kernel_rfl) rfl #[.agg #[.slice ae ac.length af,.slice ag ad.length ah]] rfl (by (try simp only [mT,mC,mN]);first|done|rfl|(simp only [lD,lT];rfl)) ?_;(with_reducible refine (spec_GoodStats.calls k _ _ ac _ _ ad true _ ?side1 ?side2 ?side3 ?side4 A3.out).mono ?_);(case side1=>exact (cB am.out HB.out));(case side2=>exact an.out);(case side3=>exact (cB ao.out HB.out));(case side4=>exact ap.out);rintro e bt ⟨rfl,hb⟩;refine ⟨_,rfl,?_⟩;have aj:=qK (qB (g:=ab) (o:=_) (by exact aa.out) hb);have ak:=qK (qT HB.out hb);clear aa HB;have aa:=aj;have HB:=ak;clear aj ak;(try clear hb);have aQ:bt.cell? ⟨ab,0,none⟩=some (.slice ae ac.length af):=(qC aa.out 0).trans rfl;have aR:bt.cell? ⟨ab,1,none⟩=some (.slice ag ad.length ah):=(qC aa.out 1).trans rfl;have aT:=qF aa.out 0;have aU:=qF aa.out 1)|(go_at_call 30;(with_reducible refine (spec_l1Some.calls k _ _ l1 (ac.length:Int) true _ ?side1 ?side2 A5.out).mono ?_);(case side1=>exact (cB aC.out HB.out));(case side2=>exact aD.out);rintro e w' ⟨rfl,⟨nd,rfl⟩⟩)|((with_reducible refine gate_callee (f:=52) rfl ?_);refine goesL_ (some 24) rfl rfl Try.func52 (by kernel_rfl) rfl #[.agg #[.slice ae ac.length af,.slice ag ad.length ah],.slice A1 l1.length c1] rfl (by (try simp only [mT,mC,mN]);first|done|rfl|(simp only [lD,lT];rfl)) ?_;(with_reducible refine (spec_l12Size.calls k _ _ ac _ _ ad _ _ l1 al _ ?side1 ?side2 ?side3 ?side4 ?side5 ?side6 bA.out).mono ?_);(case side1=>exact (cB am.out (by repeat (with_reducible first|exact HB.out|apply qA|apply qD|apply qO|refine qS ?_ ai.out))));(case side2=>exact an.out);(case side3=>exact (cB ao.out (by repeat (with_reducible first|exact HB.out|apply qA|apply qD|apply qO|refine qS ?_ ai.out))));(case side4=>exact ap.out);(case side5=>exact (cB aC.out (by repeat (with_reducible first|exact HB.out|apply qA|apply qD|apply qO|refine qS ?_ ai.out))));(case side6=>exact aD.out);rintro e bB ⟨rfl,hb⟩;refine ⟨_,rfl,?_⟩;have aj:=qK (qB (g:=ab) (o:=_) (by exact aa.out) hb);have ak:=qK (qT (by repeat (with_reducible first|exact HB.out|apply qA|apply qD|apply qO|refine qS ?_ ai.out)) hb);clear aa HB;have aa:=aj;have HB:=ak;clear aj ak;(try clear hb)))
    go_ret2
    exact ⟨by rfl,HB.out⟩
  ·replace c6:=Bool.eq_false_iff.mpr c6;subst c6;have H1:(some (0,false))=some (r1,r2):=by rw [if_neg (show ¬ (false=true) by decide)] at H;exact H
   clear H;have H:=H1;clear H1;simp only [Option.some.injEq,Prod.mk.injEq] at H;obtain ⟨rfl,rfl⟩:=H;go_enter Try.func27,Try.ntmps27
   go_wp2_with (first|((with_reducible refine gate_dst (N:=2) rfl ?_);(try (refine gate_guard (by rfl) ?_;dsimp only));refine box_event ?hg (N:=2) ?hd (cs:=#[.slice ae ac.length af,.slice ag ad.length ah]) (t:=29) ?hr ?_;(case hd=>rfl);(case hg=>rfl);(case hr=>(go_simp;try rfl));intro ab hg bu hbox hb;have aj:=qK (qT HB.out hb);have ak:=qK (hbox);have ar:=qK ((by rw [hg];exact (qZ HB.out):w.heap.size≤ab));have au:=ar;clear HB;have HB:=aj;have aa:=ak;have av:=ar;have ai:=au;clear aj ak ar au hb hbox hg;have aV:bu.cell? ⟨ab,0,none⟩=some (.slice ae ac.length af):=(qC aa.out 0).trans rfl;have aW:bu.cell? ⟨ab,1,none⟩=some (.slice ag ad.length ah):=(qC aa.out 1).trans rfl;have aX:=qF aa.out 0;have aY:=qF aa.out 1)|((with_reducible refine gate_callee (f:=23) rfl ?_);refine goesL_ (some 7) rfl rfl Try.func23 (by kernel_rfl) rfl #[.agg #[.slice ae ac.length af,.slice ag ad.length ah]] rfl (by (try simp only [mT,mC,mN]);first|done|rfl|(simp only [lD,lT];rfl)) ?_;(with_reducible refine (spec_GoodStats.calls k _ _ ac _ _ ad true _ ?side1 ?side2 ?side3 ?side4 A3.out).mono ?_);(case side1=>exact (cB am.out HB.out));(case side2=>exact an.out);(case side3=>exact (cB ao.out HB.out));(case side4=>exact ap.out);rintro e bv ⟨rfl,hb⟩;refine ⟨_,rfl,?_⟩;have aj:=qK (qB (g:=ab) (o:=_) (by exact aa.out) hb);have ak:=qK (qT HB.out hb);clear aa HB;have aa:=aj;have HB:=ak;clear aj ak;(try clear hb);have aZ:bv.cell? ⟨ab,0,none⟩=some (.slice ae ac.length af):=(qC aa.out 0).trans rfl;have ba:bv.cell? ⟨ab,1,none⟩=some (.slice ag ad.length ah):=(qC aa.out 1).trans rfl;have bb:=qF aa.out 0;have bc:=qF aa.out 1)|(go_at_call 30;(with_reducible refine (spec_l1Some.calls k _ _ l1 (ac.length:Int) false _ ?side1 ?side2 A5.out).mono ?_);(case side1=>exact (cB aC.out HB.out));(case side2=>exact aD.out);rintro e w' ⟨rfl,⟨nd,rfl⟩⟩))
   go_ret2
   exact ⟨by rfl,by repeat (first|(with_reducible first|exact HB.out|apply qA|apply qD|apply qO|refine qS ?_ ai.out)|exact HB.out)⟩
 ·replace c4:=Bool.eq_false_iff.mpr c4;subst c4;have H1:(some (0,false))=some (r1,r2):=by rw [if_neg (show ¬ (false=true) by decide)] at H;exact H
  clear H;have H:=H1;clear H1;simp only [Option.some.injEq,Prod.mk.injEq] at H;obtain ⟨rfl,rfl⟩:=H;go_enter Try.func27,Try.ntmps27
  go_wp2_with (first|((with_reducible refine gate_dst (N:=2) rfl ?_);(try (refine gate_guard (by rfl) ?_;dsimp only));refine box_event ?hg (N:=2) ?hd (cs:=#[.slice ae ac.length af,.slice ag ad.length ah]) (t:=29) ?hr ?_;(case hd=>rfl);(case hg=>rfl);(case hr=>(go_simp;try rfl));intro ab hg bw hbox hb;have aj:=qK (qT HB.out hb);have ak:=qK (hbox);have ar:=qK ((by rw [hg];exact (qZ HB.out):w.heap.size≤ab));have au:=ar;clear HB;have HB:=aj;have aa:=ak;have av:=ar;have ai:=au;clear aj ak ar au hb hbox hg;have bd:bw.cell? ⟨ab,0,none⟩=some (.slice ae ac.length af):=(qC aa.out 0).trans rfl;have be:bw.cell? ⟨ab,1,none⟩=some (.slice ag ad.length ah):=(qC aa.out 1).trans rfl;have bf:=qF aa.out 0;have bg:=qF aa.out 1)|((with_reducible refine gate_callee (f:=23) rfl ?_);refine goesL_ (some 7) rfl rfl Try.func23 (by kernel_rfl) rfl #[.agg #[.slice ae ac.length af,.slice ag ad.length ah]] rfl (by (try simp only [mT,mC,mN]);first|done|rfl|(simp only [lD,lT];rfl)) ?_;(with_reducible refine (spec_GoodStats.calls k _ _ ac _ _ ad false _ ?side1 ?side2 ?side3 ?side4 A3.out).mono ?_);(case side1=>exact (cB am.out HB.out));(case side2=>exact an.out);(case side3=>exact (cB ao.out HB.out));(case side4=>exact ap.out);rintro e bC ⟨rfl,hb⟩;refine ⟨_,rfl,?_⟩;have aj:=qK (qB (g:=ab) (o:=_) (by exact aa.out) hb);have ak:=qK (qT HB.out hb);clear aa HB;have aa:=aj;have HB:=ak;clear aj ak;(try clear hb)))
  go_ret2
  exact ⟨by rfl,HB.out⟩

end Go.Proofs.Ytecebaeifmddnaa.PFnOrdered
