/-
  A text of this claim's own, printed by a program of the session (wip/tools/xprint.py): functions of the program as Lean functions, each with what its call comes to.
-/
import Derived.Test.YtecebaeifmddnaaPFnOrderedx0
import Derived.Test.YtecebaeifmddnaaPFnOrderedx1
import Derived.Test.YtecebaeifmddnaaPFnOrderedx2
namespace Go.Proofs.Ytecebaeifmddnaa.PFnOrdered
open Go.Proofs.YtecebaeifmddnaaW.PrintWords renaming pw_below_drewN → qD, blk_cell → qC, below_drew1 → qO, below_alloc → qA, blk_frozen → qF, below_set → qS, blk_drewN → qN, blk_alloc → qL, blk_drew → qW, below_size → qZ, below_step → qT, blk_below → qB, blk_far → qR, blk_put → qP
open Go.Proofs.YtecebaeifmddnaaW.PrintWords.Aside0 renaming mk → qK
open Bool renaming true → Y, false → Z
open List renaming setIfInBounds_toArray → sIb, set_cons_zero → sZ, set_cons_succ → sS, map_toArray → mT, map_cons → mC, map_nil → mN, length_drop → lD, length_take → lT
open Go.Proofs.YtecebaeifmddnaaW.PrintWords.Kd renaming C_alloc → cL, C_drewN → cN, C_drew → cW, C_below → cB, R_alloc → rL, R_drewN → rN, R_drew → rW, R_below → rB
open Go.RowKit Go.Proofs.YtecebaeifmddnaaW.PrintWords Go.Proofs.YtecebaeifmddnaaW.PrintLast Go.Proofs.YtecebaeifmddnaaW.PrintMore
attribute [local go_sem] max2_int min2_int max_two min_two max_three min_three max_four min_four   -- for this text's walks alone
set_option linter.unusedVariables false
set_option linter.unusedSimpArgs false

/-! ### spec_l12Best: function 31 -/
mutual
def spec_l12Best.l0 : Nat→List Int→List Int→List Int→Int→Int→List Int→List (List Int)→Option (List Int)
 | 0,_,_,_,_,_,_,_=>none
 | k + 1,x1,x5,x15,x16,x17,x174000,x174001=>if x17 < x16 then (if 0≤x17 then (if x17 < (x15.length:Int) then ((spec_l11Without.f k x1 (rd x15 x17)).bind fun t181=>((spec_l12Best.f k x174000 x174001 t181).bind fun t184=>((some (([rd x15 x17]:List Int):List Int)).bind fun y187=>(if t184.length + y187.length < 17592186044416 then ((some (t184 ++ y187:List Int)).bind fun y190=>(if (x5.length:Int)=0 then (spec_l12Best.l0 k x1 y190 x15 x16 (wrap64 (x17 + 1)) x174000 x174001) else ((spec_l12Cost.f k x174000 x174001 y190).bind fun t193=>((spec_l12Cost.f k x174000 x174001 x5).bind fun t194=>(if t193 < t194 then (spec_l12Best.l0 k x1 y190 x15 x16 (wrap64 (x17 + 1)) x174000 x174001) else ((spec_l12Cost.f k x174000 x174001 y190).bind fun t195=>((spec_l12Cost.f k x174000 x174001 x5).bind fun t196=>(if t195=t196 then ((spec_l12Before.f k y190 x5).bind fun t197=>(if t197=true then (spec_l12Best.l0 k x1 y190 x15 x16 (wrap64 (x17 + 1)) x174000 x174001) else (spec_l12Best.l0 k x1 x5 x15 x16 (wrap64 (x17 + 1)) x174000 x174001))) else (spec_l12Best.l0 k x1 x5 x15 x16 (wrap64 (x17 + 1)) x174000 x174001))))))))) else (none))))) else (none)) else (none)) else (some x5)
def spec_l12Best.f : Nat→List Int→List (List Int)→List Int→Option (List Int)
 | 0,_,_,_=>none
 | k + 1,l0_0,l0_1,l1=>if (l1.length:Int)=1 then ((some (([]:List Int):List Int)).bind fun y174=>(if y174.length + l1.length < 17592186044416 then (some (y174 ++ l1)) else (none))) else (spec_l12Best.l0 k l1 ([]:List Int) l1 (l1.length:Int) 0 l0_0 l0_1)
end
theorem spec_l12Best.mono_l : ∀ k,(∀ y0 y1 y2,LeO (spec_l12Best.f k y0 y1 y2) (spec_l12Best.f (k + 1) y0 y1 y2))∧(∀ y0 y1 y2 y3 y4 y5 y6,LeO (spec_l12Best.l0 k y0 y1 y2 y3 y4 y5 y6) (spec_l12Best.l0 (k + 1) y0 y1 y2 y3 y4 y5 y6))
 | 0=>⟨fun _ _ _ r h=>by simp [spec_l12Best.f] at h,fun _ _ _ _ _ _ _ r h=>by simp [spec_l12Best.l0] at h⟩
 | k + 1=>by
  obtain ⟨aa,ab⟩:=spec_l12Best.mono_l k;refine ⟨?_,?_⟩
  ·intro y0 y1 y2;unfold spec_l12Best.f
   repeat' first
   | (with_reducible exact aa _ _ _)
   | (with_reducible exact ab _ _ _ _ _ _ _)
   | (with_reducible exact spec_l11Without.mono _ _ _)
   | (with_reducible exact spec_l12Before.mono _ _ _)
   | (with_reducible exact spec_l12Cost.mono _ _ _ _)
   | (with_reducible exact LeO.refl _)
   | (with_reducible exact LeO.none _)
   | (with_reducible refine LeO.ite ?_ ?_)
   | (with_reducible refine LeO.bind ?_ (fun _=>?_))
   | exact aa _ _ _
   | exact ab _ _ _ _ _ _ _
   | exact spec_l11Without.mono _ _ _
   | exact spec_l12Before.mono _ _ _
   | exact spec_l12Cost.mono _ _ _ _
   | exact LeO.none _
   | refine LeO.ite ?_ ?_
   | refine LeO.bind ?_ (fun _=>?_)
  ·intro y0 y1 y2 y3 y4 y5 y6;unfold spec_l12Best.l0
   repeat' first
   | (with_reducible exact aa _ _ _)
   | (with_reducible exact ab _ _ _ _ _ _ _)
   | (with_reducible exact spec_l11Without.mono _ _ _)
   | (with_reducible exact spec_l12Before.mono _ _ _)
   | (with_reducible exact spec_l12Cost.mono _ _ _ _)
   | (with_reducible exact LeO.refl _)
   | (with_reducible exact LeO.none _)
   | (with_reducible refine LeO.ite ?_ ?_)
   | (with_reducible refine LeO.bind ?_ (fun _=>?_))
   | exact aa _ _ _
   | exact ab _ _ _ _ _ _ _
   | exact spec_l11Without.mono _ _ _
   | exact spec_l12Before.mono _ _ _
   | exact spec_l12Cost.mono _ _ _ _
   | exact LeO.none _
   | refine LeO.ite ?_ ?_
   | refine LeO.bind ?_ (fun _=>?_)
theorem spec_l12Best.mono : ∀ a0 a1 a2 k,LeO (spec_l12Best.f k a0 a1 a2) (spec_l12Best.f (k + 1) a0 a1 a2):=by
 intro a0 a1 a2 k;obtain ⟨aa,ab⟩:=spec_l12Best.mono_l k;exact aa a0 a1 a2
def spec_l12Best.T7 : Bool × List (List Nat × List Nat):=(true,[([],[]),([],[]),([],[]),([1,2],[1,2]),([0,3,3],[0,3]),([],[]),([5],[5]),([4,6,4],[4,6]),([7,7,0,1,2,3,4,5,6,7],[7])])
def spec_l12Best.B7 : List Nat:=[0,0,0,6,15,0,32,127,255]
theorem spec_l12Best.tab7 : rtab .any (opsOf Try.f31 7)=spec_l12Best.T7:=by kernel_rfl
theorem spec_l12Best.bits7 : waitsOk spec_l12Best.T7.2 spec_l12Best.B7=true:=by kernel_rfl
def spec_l12Best.T8 : Bool × List (List Nat × List Nat):=(true,[([],[]),([0],[0]),([1],[1]),([2],[2]),([3],[3]),([3],[3]),([4,5,3,3],[3,4,5]),([3],[3]),([3],[3]),([7,8,6,3],[3,7,8]),([6,9,3],[3,6,9]),([3,10],[3,10]),([11,9],[11]),([12],[12]),([12],[12]),([13,14,12,12],[12,13,14]),([12],[12]),([12],[12]),([16,17,15,12],[12,16,17]),([15,18,12],[12,15,18]),([19,18,12],[12,19]),([20],[20]),([20],[20]),([21,22,20,20],[20,21,22]),([20,23,12],[12,20,23]),([12,24],[12,24])])
def spec_l12Best.B8 : List Nat:=[0,1,3,7,15,15,63,15,15,511,1023,2047,4095,8191,8191,32767,8191,8191,262143,524287,1048575,2097151,2097151,8388607,16777215,33554431]
theorem spec_l12Best.tab8 : rtab .any (opsOf Try.f31 8)=spec_l12Best.T8:=by kernel_rfl
theorem spec_l12Best.bits8 : waitsOk spec_l12Best.T8.2 spec_l12Best.B8=true:=by kernel_rfl
set_option maxHeartbeats 8000000 in
set_option maxRecDepth 100000 in
theorem spec_l12Best.calls (k:Nat):∀ (aq:Option Addr) (ar:Nat) (ag:List Int) (au:Option Addr) (av:Nat) (ah:List (List Int)) (A1:Option Addr) (c1:Nat) (l1:List Int) (r:List Int) (w:World) (bH:Kd.C (Kd.int .i64) w aq ag.length ag) (bI:ag.length≤ar) (bJ:Kd.C (Kd.slice 3 (Kd.int .i64)) w au ah.length ah) (bK:ah.length≤av) (dv:Kd.C (Kd.int .i64) w A1 l1.length l1) (dw:l1.length≤c1) (h:spec_l12Best.f k ag ah l1=some r),
  Calls Try.prog 31 #[.agg #[.slice aq ag.length ar,.slice au ah.length av],.slice A1 l1.length c1] w fun e w'=>∃ dZ:Value,e=.returned (dZ)∧Kd.R (Kd.int .i64) 3 w' w.heap.size (fun _=>True) dZ r∧Below w.heap.size w w':=by
 induction k using Nat.strongRecOn with
 | _ k ih =>
 intro aq ar ag au av ah A1 c1 l1 r w bH bI bJ bK dv dw h;cases k with
 | zero=>exact absurd h (by simp [spec_l12Best.f])
 | succ k =>
 simp only [spec_l12Best.f] at h;have ee:=Try.underlying29;have aH:=qK bH;have aI:=qK bI;clear bH bI;have aJ:=qK bJ;have aK:=qK bK;clear bJ bK;have bn:=qK dv;have bX:=qK dw;clear dv dw;have HB:=qK (Below.refl w.heap.size w);have H:(if (l1.length:Int)=1 then ((some (([]:List Int):List Int)).bind fun bb=>(if bb.length + l1.length < 17592186044416 then (some (bb ++ l1)) else (none))) else (spec_l12Best.l0 k l1 ([]:List Int) l1 (l1.length:Int) 0 ag ah))=some r:=h;clear h;by_cases c3:(l1.length:Int)=1
 ·rw [if_pos c3] at H;have cH:((l1.length:Int) == 1)=true:=beq_iff_eq.mpr c3;have cI:((l1.length:Int) != 1)=false:=bne_eq_false_iff_eq.mpr c3;clear c3;obtain ⟨bb,bc⟩:∃ y_:List Int,y_=(([]:List Int)):=⟨_,rfl⟩;replace H:(if bb.length + l1.length < 17592186044416 then (some (bb ++ l1)) else (none))=some r:=by first|(rw [bc];with_reducible exact H)|(have bo:=(Option.bind_some _ _).symm.trans H;rw [bc];with_reducible exact bo)|(have bo:=(Option.bind_some _ _).symm.trans H;with_reducible exact bo)|with_reducible exact H|(rw [bc];exact H)|exact H
  have ch:=qK bc;clear bc;by_cases c4:bb.length + l1.length < 17592186044416
  ·rw [if_pos c4] at H;have dx:=qK c4;clear c4;obtain ⟨dy,bd⟩:∃ y_:List Int,y_=(bb ++ l1):=⟨_,rfl⟩;replace H:(some dy)=some r:=by first|(rw [bd];with_reducible exact H)|(have bo:=(Option.bind_some _ _).symm.trans H;rw [bd];with_reducible exact bo)|(have bo:=(Option.bind_some _ _).symm.trans H;with_reducible exact bo)|with_reducible exact H|(rw [bd];exact H)|exact H
   have cJ:=qK bd;clear bd;obtain rfl:=Option.some.inj H;go_enter Try.func31,Try.ntmps31
   go_wp2_with (first|((with_reducible refine gate_dst (N:=2) rfl ?_);refine box_event ?hg (N:=2) ?hd (cs:=#[.slice aq ag.length ar,.slice au ah.length av]) (t:=29) ?hr ?_;(case hd=>rfl);(case hg=>rfl);(case hr=>(go_simp;try rfl));intro af hg w5 hbox hb;have ak:=qK (qT HB.out hb);have al:=qK (hbox);have aj:=qK ((by rw [hg];exact (qZ HB.out):w.heap.size≤af));have am:=aj;clear HB;have HB:=ak;have aa:=al;have cK:=aj;have bL:=am;clear ak al aj am;clear hb hbox hg)|((with_reducible refine gate_dst (N:=12) rfl ?_);refine Kd.R_lit (Kd.int .i64) _ 3 ?hg (N:=12) ?hd (xs:=([]:List Int)) (inner:=[]) (ok:=fun _=>True) (okp:=fun _=>True) ?hr ?hp (fun _ hk=>hk) trivial (Below.refl _ _) (Nat.le_refl _) (by simp) ?_;(case hd=>rfl);(case hg=>rfl);(case hr=>(go_simp;try rfl));(case hp=>exact (Reps.none _ _));intro dz w6 cM hb hg_ hnew_;clear hg_ hnew_;(first|rw [← ch.out] at cM|(simp only [Int.reduceToNat] at cM;rw [← ch.out] at cM));have ak:=qK (Kd.R_lower cM (qZ HB.out));have al:=qK (qB (g:=af) (o:=_) (by exact aa.out) hb);have aj:=qK (qT HB.out hb);clear aa HB;have bM:=ak;have aa:=al;have HB:=aj;clear ak al aj;clear hb cM)|((with_reducible refine gate_builtin (b:=.append) (xs:=#[.tmp 12,.tmp 13]) rfl ?_);at_builtin;refine Kd.R_append_rows (Kd.int .i64) (w0:=w) w.heap.size rfl (.tmp 12) (.tmp 13) 22 3 (.int .i64 0) 8 rfl Try.underlying22 info3 rfl (by decide) (by omega) dz bb l1 _ _ _ (fun _=>True) (fun _=>False) rfl rfl ?aO ?aR (fun _ _ h=>h) (fun _ h=>h.elim) ?aF ?aB ?aS ?aL ?_;(case aR=>repeat (first|exact (cB bn.out HB.out)|(with_reducible first|refine cL ?_ _|refine cN ?_ _|refine cW ?_)));(case aB=>exact HB.out);(case aF=>exact (fun _ _=>trivial));(case aO=>exact bM.out);(case aS=>exact (qZ HB.out));(case aL=>have:=dx.out;omega);intro ef w8 ho hb hg hat;rw [← cJ.out] at ho;have ak:=qK (blk_grown (g:=af) (o:=_) (by exact aa.out) hg (Kd.R_ne bM.out aa.out (by decide)));have al:=qK (hb);have aj:=qK (ho);clear aa HB bM;have aa:=ak;have HB:=al;have cO:=aj;clear ak al aj;clear ho hb hg hat))
   go_ret
   exact ⟨_,by rfl,cO.out,HB.out⟩
  ·rw [if_neg c4] at H;exact absurd H (by simp)
 ·rw [if_neg c3] at H;have cH:((l1.length:Int) == 1)=false:=beq_eq_false_iff_ne.mpr c3;have cI:((l1.length:Int) != 1)=true:=bne_iff_ne.mpr c3;have H':=qK H;clear H;go_enter Try.func31,Try.ntmps31
  go_wp2_with (first|((with_reducible refine gate_dst (N:=2) rfl ?_);refine box_event ?hg (N:=2) ?hd (cs:=#[.slice aq ag.length ar,.slice au ah.length av]) (t:=29) ?hr ?_;(case hd=>rfl);(case hg=>rfl);(case hr=>(go_simp;try rfl));intro af hg w9 hbox hb;have ak:=qK (qT HB.out hb);have al:=qK (hbox);have aj:=qK ((by rw [hg];exact (qZ HB.out):w.heap.size≤af));have am:=aj;clear HB;have HB:=ak;have aa:=al;have cK:=aj;have bL:=am;clear ak al aj am;clear hb hbox hg))
  go_loopg [5,17] k (fun kq v5 eg w'=>∃ (ap:List Int) (ae:Int),eg=.int .i64 ae∧Aside0 (spec_l12Best.l0 kq l1 ap l1 (l1.length:Int) ae ag ah=some r)∧Aside0 (kq≤k)∧Aside0 (Kd.R (Kd.int .i64) 3 w' w.heap.size (fun _=>True) v5 ap)∧Aside0 (w'.heap[af]?=some (.cells #[(.slice aq ag.length ar),(.slice au ah.length av)] 29 (0,0)))∧Aside0 (Below w.heap.size w w'))
  case atStart=>exact ⟨(([]:List Int)),(0),(by rfl),H',⟨Nat.le_refl _⟩,⟨by first|exact Kd.R_nil _ _ _ _ _|exact Kd.N_nil _ _ _ _ _|exact Kd.V_nil _ _ _ _ _|exact Kd.Q_nil _ _ _ _ _|exact Kd.S_nil _ _ _ _ _⟩,⟨aa.out⟩,⟨HB.out⟩⟩
  case round =>
   clear H';try clear c1
   try clear p2
   try clear c3
   try clear cH
   try clear cI
   try clear c4
   obtain ⟨ap,ae,rfl,HA,aZ,ac,aa,HB⟩:=hrel;cases gk with
   | zero=>exact absurd HA.out (by simp [spec_l12Best.l0])
   | succ k1 =>
    have H:=HA.out;clear HA;simp only [spec_l12Best.l0] at H;by_cases c10:ae < (l1.length:Int)
    ·rw [if_pos c10] at H;have cP:decide (ae < (l1.length:Int))=true:=decide_eq_true c10;clear c10;by_cases c11:0≤ae
     ·rw [if_pos c11] at H;have ea:decide (0≤ae)=true:=decide_eq_true c11;clear c11;by_cases c12:ae < (l1.length:Int)
      ·rw [if_pos c12] at H;have eb:decide (ae < (l1.length:Int))=true:=decide_eq_true c12;clear c12;replace H:=Option.bind_eq_some_iff.mp H;obtain ⟨aw,cQ,H⟩:=H;replace H:((spec_l12Best.f k1 ag ah aw).bind fun aN=>((some (([rd l1 ae]:List Int):List Int)).bind fun aM=>(if aN.length + aM.length < 17592186044416 then ((some (aN ++ aM:List Int)).bind fun az=>(if (ap.length:Int)=0 then (spec_l12Best.l0 k1 l1 az l1 (l1.length:Int) (wrap64 (ae + 1)) ag ah) else ((spec_l12Cost.f k1 ag ah az).bind fun aY=>((spec_l12Cost.f k1 ag ah ap).bind fun aW=>(if aY < aW then (spec_l12Best.l0 k1 l1 az l1 (l1.length:Int) (wrap64 (ae + 1)) ag ah) else ((spec_l12Cost.f k1 ag ah az).bind fun aQ=>((spec_l12Cost.f k1 ag ah ap).bind fun aP=>(if aQ=aP then ((spec_l12Before.f k1 az ap).bind fun aX=>(if aX=true then (spec_l12Best.l0 k1 l1 az l1 (l1.length:Int) (wrap64 (ae + 1)) ag ah) else (spec_l12Best.l0 k1 l1 ap l1 (l1.length:Int) (wrap64 (ae + 1)) ag ah))) else (spec_l12Best.l0 k1 l1 ap l1 (l1.length:Int) (wrap64 (ae + 1)) ag ah))))))))) else (none))))=some r:=H;have bY:=qK cQ;clear cQ;replace H:=Option.bind_eq_some_iff.mp H;obtain ⟨aN,cR,H⟩:=H;replace H:((some (([rd l1 ae]:List Int):List Int)).bind fun aM=>(if aN.length + aM.length < 17592186044416 then ((some (aN ++ aM:List Int)).bind fun az=>(if (ap.length:Int)=0 then (spec_l12Best.l0 k1 l1 az l1 (l1.length:Int) (wrap64 (ae + 1)) ag ah) else ((spec_l12Cost.f k1 ag ah az).bind fun aY=>((spec_l12Cost.f k1 ag ah ap).bind fun aW=>(if aY < aW then (spec_l12Best.l0 k1 l1 az l1 (l1.length:Int) (wrap64 (ae + 1)) ag ah) else ((spec_l12Cost.f k1 ag ah az).bind fun aQ=>((spec_l12Cost.f k1 ag ah ap).bind fun aP=>(if aQ=aP then ((spec_l12Before.f k1 az ap).bind fun aX=>(if aX=true then (spec_l12Best.l0 k1 l1 az l1 (l1.length:Int) (wrap64 (ae + 1)) ag ah) else (spec_l12Best.l0 k1 l1 ap l1 (l1.length:Int) (wrap64 (ae + 1)) ag ah))) else (spec_l12Best.l0 k1 l1 ap l1 (l1.length:Int) (wrap64 (ae + 1)) ag ah))))))))) else (none)))=some r:=H;have bp:=qK cR;clear cR;obtain ⟨aM,be⟩:∃ y_:List Int,y_=(([rd l1 ae]:List Int)):=⟨_,rfl⟩;replace H:(if aN.length + aM.length < 17592186044416 then ((some (aN ++ aM:List Int)).bind fun az=>(if (ap.length:Int)=0 then (spec_l12Best.l0 k1 l1 az l1 (l1.length:Int) (wrap64 (ae + 1)) ag ah) else ((spec_l12Cost.f k1 ag ah az).bind fun aY=>((spec_l12Cost.f k1 ag ah ap).bind fun aW=>(if aY < aW then (spec_l12Best.l0 k1 l1 az l1 (l1.length:Int) (wrap64 (ae + 1)) ag ah) else ((spec_l12Cost.f k1 ag ah az).bind fun aQ=>((spec_l12Cost.f k1 ag ah ap).bind fun aP=>(if aQ=aP then ((spec_l12Before.f k1 az ap).bind fun aX=>(if aX=true then (spec_l12Best.l0 k1 l1 az l1 (l1.length:Int) (wrap64 (ae + 1)) ag ah) else (spec_l12Best.l0 k1 l1 ap l1 (l1.length:Int) (wrap64 (ae + 1)) ag ah))) else (spec_l12Best.l0 k1 l1 ap l1 (l1.length:Int) (wrap64 (ae + 1)) ag ah))))))))) else (none))=some r:=by first|(rw [be];with_reducible exact H)|(have bo:=(Option.bind_some _ _).symm.trans H;rw [be];with_reducible exact bo)|(have bo:=(Option.bind_some _ _).symm.trans H;with_reducible exact bo)|with_reducible exact H|(rw [be];exact H)|exact H
       have aG:=qK be;clear be;by_cases c15:aN.length + aM.length < 17592186044416
       ·rw [if_pos c15] at H;have bf:=qK c15;clear c15;obtain ⟨az,bg⟩:∃ y_:List Int,y_=(aN ++ aM):=⟨_,rfl⟩;replace H:(if (ap.length:Int)=0 then (spec_l12Best.l0 k1 l1 az l1 (l1.length:Int) (wrap64 (ae + 1)) ag ah) else ((spec_l12Cost.f k1 ag ah az).bind fun aY=>((spec_l12Cost.f k1 ag ah ap).bind fun aW=>(if aY < aW then (spec_l12Best.l0 k1 l1 az l1 (l1.length:Int) (wrap64 (ae + 1)) ag ah) else ((spec_l12Cost.f k1 ag ah az).bind fun aQ=>((spec_l12Cost.f k1 ag ah ap).bind fun aP=>(if aQ=aP then ((spec_l12Before.f k1 az ap).bind fun aX=>(if aX=true then (spec_l12Best.l0 k1 l1 az l1 (l1.length:Int) (wrap64 (ae + 1)) ag ah) else (spec_l12Best.l0 k1 l1 ap l1 (l1.length:Int) (wrap64 (ae + 1)) ag ah))) else (spec_l12Best.l0 k1 l1 ap l1 (l1.length:Int) (wrap64 (ae + 1)) ag ah))))))))=some r:=by first|(rw [bg];with_reducible exact H)|(have bo:=(Option.bind_some _ _).symm.trans H;rw [bg];with_reducible exact bo)|(have bo:=(Option.bind_some _ _).symm.trans H;with_reducible exact bo)|with_reducible exact H|(rw [bg];exact H)|exact H
        have bh:=qK bg;clear bg;by_cases c16:(ap.length:Int)=0
        ·rw [if_pos c16] at H;have cS:((ap.length:Int) == 0)=true:=beq_iff_eq.mpr c16;have cT:((ap.length:Int) != 0)=false:=bne_eq_false_iff_eq.mpr c16;clear c16;have H':=qK H;clear H;have aU:0≤(ae:Int):=of_decide_eq_true (by assumption);have aV:ae < (l1.length:Int):=of_decide_eq_true (by assumption);obtain ⟨aT,ba,aD⟩:=Kd.at_int bn.out ae aU aV;cases ba
         replace aD:=(HB.out.cell (World.block_lt_of_cell? w _ aD)).trans aD;replace aU:=eq_true aU;replace aV:=eq_true aV;try go_wp2
         (try (rw [drewN_self wr];generalize hq_:World.drewN wr _=wr;have ak:Aside0 (Kd.R (Kd.int .i64) 3 wr w.heap.size (fun _=>True) u5 ap):=⟨by rw [← hq_];exact ac.out⟩;have al:Aside0 (wr.heap[af]?=some (.cells #[.slice aq ag.length ar,.slice au ah.length av] 29 (0,0))):=⟨by rw [← hq_];exact aa.out⟩;have aj:Aside0 (Below w.heap.size w wr):=⟨by rw [← hq_];exact HB.out⟩;clear ac aa HB hq_;have ac:=ak;have aa:=al;have HB:=aj;clear ak al aj));have ak:=qK (rW ac.out);have al:=qK (qW aa.out);have aj:=qK (qO HB.out);clear ac aa HB;have ac:=ak;have aa:=al;have HB:=aj;clear ak al aj;refine start_ (n:=9) (S:=fun w'=>w'.cell? ⟨af,0,none⟩=some (.slice aq ag.length ar)∧w'.cell? ⟨af,1,none⟩=some (.slice au ah.length av)) (ds:=[]) #[Z,Z,Z,Z,Z,Z,Z,Z,Z] (by kernel_rfl) rfl rfl ⟨(qC aa.out 0).trans rfl,(qC aa.out 1).trans rfl⟩ (fun hHeld=>?_);refine with_tabW spec_l12Best.tab7 spec_l12Best.bits7 (fun HT_ HW_=>?_);generalize wr.drew=w17 at ac aa HB hHeld ⊢
         refine pure_ (i:=1) (N:=some 22) (v:=?_) (a':=?_) #[Z,Y,Z,Z,Z,Z,Z,Z,Z] rfl rfl (any_of HT_.out (by kernel_rfl)) (fun _ _ _ h=>h) (Or.inl ⟨by rfl,?_⟩) ?_ ?_;rotate_left
         ·intro w';go_simp;with_reducible rfl
         rotate_left
         ·simp only [Act.put,sIb,sZ,sS,i64_w,i32_w];rfl
         refine pure_ (i:=2) (N:=some 23) (v:=?_) (a':=?_) #[Z,Y,Y,Z,Z,Z,Z,Z,Z] rfl rfl (any_of HT_.out (by kernel_rfl)) (fun _ _ _ h=>h) (Or.inl ⟨by rfl,?_⟩) ?_ ?_;rotate_left
         ·intro w';go_simp;with_reducible rfl
         rotate_left
         ·simp only [Act.put,sIb,sZ,sS,i64_w,i32_w];rfl
         refine pure_ (i:=5) (N:=some 26) (v:=?_) (a':=?_) #[Z,Y,Y,Z,Z,Y,Z,Z,Z] rfl rfl (any_of HT_.out (by kernel_rfl)) (fun _ _ _ h=>h) (Or.inl ⟨by rfl,?_⟩) ?_ ?_;rotate_left
         ·intro w';go_simp;with_reducible rfl
         rotate_left
         ·simp only [Act.put,sIb,sZ,sS,i64_w,i32_w];rfl
         refine take_ (i:=0) (N:=some 21) (v:=?_) (a':=?_) #[Y,Y,Y,Z,Z,Y,Z,Z,Z] rfl rfl (take_ofW HT_.out HW_.out (by kernel_rfl)) (fun _ _ _ h=>h) (Or.inl ⟨by rfl,?_⟩) hHeld ?_ ?_;rotate_left
         ·rintro w' ⟨s0,s1⟩;go_simp;with_reducible rfl
         rotate_left
         ·simp only [Act.put,sIb,sZ,sS,i64_w,i32_w];rfl
         refine join_ (σ:=Value × Value × Value) 2 #[Y,Y,Y,Y,Y,Y,Y,Z,Z] (fun s_=>[(24,s_.1),(25,s_.2.1),(27,s_.2.2)]) (fun s_ w'=>(w'.cell? ⟨af,0,none⟩=some (.slice aq ag.length ar)∧w'.cell? ⟨af,1,none⟩=some (.slice au ah.length av))∧(Kd.R (Kd.int .i64) 3 w' w.heap.size (fun k_=>some k_ ≠ (s_.2.1:Value).ownBlock∧some k_ ≠ (s_.2.2:Value).ownBlock∧some k_ ≠ (u5:Value).ownBlock) s_.1 aw)∧(Kd.R (Kd.int .i64) 3 w' w.heap.size (fun k_=>some k_ ≠ (s_.1:Value).ownBlock∧some k_ ≠ (s_.2.2:Value).ownBlock∧some k_ ≠ (u5:Value).ownBlock) s_.2.1 aN)∧(Kd.R (Kd.int .i64) 3 w' w.heap.size (fun k_=>some k_ ≠ (s_.1:Value).ownBlock∧some k_ ≠ (s_.2.1:Value).ownBlock∧some k_ ≠ (u5:Value).ownBlock) s_.2.2 aM)∧(Kd.R (Kd.int .i64) 3 w' w.heap.size (fun k_=>some k_ ≠ (s_.1:Value).ownBlock∧some k_ ≠ (s_.2.1:Value).ownBlock∧some k_ ≠ (s_.2.2:Value).ownBlock) u5 ap)∧(w'.heap[af]?=some (.cells #[.slice aq ag.length ar,.slice au ah.length av] 29 (0,0)))∧(Below w.heap.size w w')) ?_ ?_;rotate_left
         ·intro hCont;refine two_ (i:=3) (j:=6) (Ni:=some 24) (Nj:=some 27) #[Y,Y,Y,Y,Z,Y,Z,Z,Z] #[Y,Y,Y,Z,Z,Y,Y,Z,Z] rfl rfl rfl rfl (two_of HT_.out (by kernel_rfl)) (by decide) (by decide) (fun K hK=>?_) (fun K hK=>?_)
          ·skip
           refine goes_ Try.func53 (by kernel_rfl) rfl #[.slice (some aT) l1.length c1,.int .i64 (rd l1 ae)] (by rfl) rfl rfl (by (try simp only [mT,mC,mN]);first|done|rfl|(simp only [lD,lT];rfl)) ?_;with_reducible refine (spec_l11Without.calls k1 _ _ l1 (rd l1 ae) aw _ ?side1 ?side2 bY.out).mono ?_
           (case side1=>exact (cB bn.out HB.out));(case side2=>exact bX.out);rintro e eh ⟨aE,rfl,ay,hb⟩;refine ⟨_,rfl,?_⟩;have ak:=qK (Kd.R_elder' ac.out (Kd.R_base ay) hb);have al:=qK (Kd.R_lower (Kd.R_new' ay (Kd.R_lt ac.out)) (qZ HB.out));have aj:=qK (qB (g:=af) (o:=_) (by exact aa.out) hb);have am:=qK (qT HB.out hb);clear ac aa HB;have ac:=ak;have ab:=al;have aa:=aj;have HB:=am;clear ak al aj am;(try clear hb);(try clear ay);obtain ⟨cU,cV,dA⟩:=Kd.R_slice ab.out;subst dA;refine hK.out _ _ ⟨(qC aa.out 0).trans rfl,(qC aa.out 1).trans rfl⟩ (fun hHeld=>?_);clear hK K;refine norm_ (a':=?_) ?_ ?_;rotate_left
           ·show Act.put _ (some 24) _=_
            simp only [Act.put,sIb,sZ,sS,i64_w,i32_w];rfl
           refine two_ (i:=4) (j:=6) (Ni:=some 25) (Nj:=some 27) #[Y,Y,Y,Y,Y,Y,Z,Z,Z] #[Y,Y,Y,Y,Z,Y,Y,Z,Z] rfl rfl rfl rfl (two_of HT_.out (by kernel_rfl)) (by decide) (by decide) (fun K hK=>?_) (fun K hK=>?_)
           ·skip
            refine goes_ Try.func31 (by kernel_rfl) rfl #[.agg #[.slice aq ag.length ar,.slice au ah.length av],.slice cU aw.length cV] (by rfl) rfl rfl (by (try simp only [mT,mC,mN]);first|done|rfl|(simp only [lD,lT];rfl)) ?_;with_reducible refine (ih k1 (by have:=aZ.out;omega) _ _ ag _ _ ah _ _ aw aN _ ?side1 ?side2 ?side3 ?side4 ?side5 ?side6 bp.out).mono ?_
            (case side1=>exact (cB aH.out HB.out));(case side2=>exact aI.out);(case side3=>exact (cB aJ.out HB.out));(case side4=>exact aK.out);(case side5=>exact (Kd.R_reads' ab.out).2.2);(case side6=>exact (Kd.R_reads' ab.out).2.1);rintro e ei ⟨aA,rfl,ay,hb⟩;refine ⟨_,rfl,?_⟩;have ak:=qK (Kd.R_elder' ac.out (Kd.R_base ay) hb);have al:=qK (Kd.R_elder' ab.out (Kd.R_base ay) hb);have aj:=qK (Kd.R_lower (Kd.R_new' (Kd.R_new' ay (Kd.R_lt ac.out)) (Kd.R_lt ab.out)) (qZ HB.out));have am:=qK (qB (g:=af) (o:=_) (by exact aa.out) hb);have ao:=qK (qT HB.out hb);clear ac ab aa HB;have ac:=ak;have ab:=al;have an:=aj;have aa:=am;have HB:=ao;clear ak al aj am ao;(try clear hb);(try clear ay);refine hK.out _ _ ⟨(qC aa.out 0).trans rfl,(qC aa.out 1).trans rfl⟩ (fun hHeld=>?_);clear hK K;refine norm_ (a':=?_) ?_ ?_;rotate_left
            ·show Act.put _ (some 25) _=_
             simp only [Act.put,sIb,sZ,sS,i64_w,i32_w];rfl
            refine one_ (i:=6) (N:=some 27) #[Y,Y,Y,Y,Y,Y,Y,Z,Z] rfl rfl (one_of HT_.out (by kernel_rfl)) (by decide) (fun K hK=>?_);refine Kd.R_lit_step (Kd.int .i64) _ 3 ?hg (N:=27) ?hd (xs:=([rd l1 ae]:List Int)) (inner:=[.int .i64 (rd l1 ae)]) (ok:=fun _=>True) (okp:=fun _=>True) ?hr ?hp (fun _ hk=>hk) trivial (Below.refl _ _) (Nat.le_refl _) (by simp) ?_;(case hd=>rfl);(case hg=>rfl);(case hr=>(go_simp;try rfl));(case hp=>exact (Reps.one (show Kd.M (Kd.int .i64) _ _ _ (rd l1 ae) [.int .i64 (rd l1 ae)] from rfl) (Reps.none _ _)));intro aC eD bi hb hg_ hnew_;clear hg_ hnew_;(first|rw [← aG.out] at bi|(simp only [Int.reduceToNat] at bi;rw [← aG.out] at bi));have ak:=qK (Kd.R_elder' ac.out (Kd.R_base bi) hb);have al:=qK (Kd.R_elder' ab.out (Kd.R_base bi) hb);have aj:=qK (Kd.R_elder' an.out (Kd.R_base bi) hb);have am:=qK (Kd.R_lower (Kd.R_new' (Kd.R_new' (Kd.R_new' bi (Kd.R_lt ac.out)) (Kd.R_lt ab.out)) (Kd.R_lt an.out)) (qZ HB.out));have ao:=qK (qB (g:=af) (o:=_) (by exact aa.out) hb);have ax:=qK (qT HB.out hb);clear ac ab an aa HB;have ac:=ak;have ab:=al;have an:=aj;have ad:=am;have aa:=ao;have HB:=ax;clear ak al aj am ao ax hb bi;refine hK.out _ _ ⟨(qC aa.out 0).trans rfl,(qC aa.out 1).trans rfl⟩ (fun hHeld=>?_);clear hK K;refine norm_ (a':=?_) ?_ ?_;rotate_left
            ·show Act.put _ (some 27) _=_
             simp only [Act.put,sIb,sZ,sS,i64_w,i32_w];rfl
            exact norm_ (by simp only [putAll,Act.put,List.setIfInBounds_toArray,List.set_cons_zero,List.set_cons_succ]) (hCont (.slice cU aw.length cV,aA,aC) _ ⟨hHeld,(Kd.R_mono ab.out (fun _ hk=>⟨hk.1.2,⟨hk.2,hk.1.1.2⟩⟩)),(Kd.R_mono an.out (fun _ hk=>⟨hk.1.2,⟨hk.2,hk.1.1.2⟩⟩)),(Kd.R_mono ad.out (fun _ hk=>⟨hk.1.2,⟨hk.2,hk.1.1.2⟩⟩)),(Kd.R_mono ac.out (fun _ hk=>⟨hk.1.1.2,⟨hk.1.2,hk.2⟩⟩)),aa.out,HB.out⟩)
           ·skip
            refine Kd.R_lit_step (Kd.int .i64) _ 3 ?hg (N:=27) ?hd (xs:=([rd l1 ae]:List Int)) (inner:=[.int .i64 (rd l1 ae)]) (ok:=fun _=>True) (okp:=fun _=>True) ?hr ?hp (fun _ hk=>hk) trivial (Below.refl _ _) (Nat.le_refl _) (by simp) ?_;(case hd=>rfl);(case hg=>rfl);(case hr=>(go_simp;try rfl));(case hp=>exact (Reps.one (show Kd.M (Kd.int .i64) _ _ _ (rd l1 ae) [.int .i64 (rd l1 ae)] from rfl) (Reps.none _ _)));intro aC eE bq hb hg_ hnew_;clear hg_ hnew_;(first|rw [← aG.out] at bq|(simp only [Int.reduceToNat] at bq;rw [← aG.out] at bq));have ak:=qK (Kd.R_elder' ac.out (Kd.R_base bq) hb);have al:=qK (Kd.R_elder' ab.out (Kd.R_base bq) hb);have aj:=qK (Kd.R_lower (Kd.R_new' (Kd.R_new' bq (Kd.R_lt ac.out)) (Kd.R_lt ab.out)) (qZ HB.out));have am:=qK (qB (g:=af) (o:=_) (by exact aa.out) hb);have ao:=qK (qT HB.out hb);clear ac ab aa HB;have ac:=ak;have ab:=al;have ad:=aj;have aa:=am;have HB:=ao;clear ak al aj am ao hb bq;obtain ⟨bN,bO,bZ⟩:=Kd.R_slice ab.out;(first|subst bZ|(injection bZ with f1_ f2_ f3_;have ca:=f1_.symm;have cb:=f3_.symm;clear f1_ f2_ f3_;subst ca;subst cb));refine hK.out _ _ ⟨(qC aa.out 0).trans rfl,(qC aa.out 1).trans rfl⟩ (fun hHeld=>?_);clear hK K;refine norm_ (a':=?_) ?_ ?_;rotate_left
            ·show Act.put _ (some 27) _=_
             simp only [Act.put,sIb,sZ,sS,i64_w,i32_w];rfl
            refine one_ (i:=4) (N:=some 25) #[Y,Y,Y,Y,Y,Y,Y,Z,Z] rfl rfl (one_of HT_.out (by kernel_rfl)) (by decide) (fun K hK=>?_);refine goes_ Try.func31 (by kernel_rfl) rfl #[.agg #[.slice aq ag.length ar,.slice au ah.length av],.slice bN aw.length bO] (by rfl) rfl rfl (by (try simp only [mT,mC,mN]);first|done|rfl|(simp only [lD,lT];rfl)) ?_;with_reducible refine (ih k1 (by have:=aZ.out;omega) _ _ ag _ _ ah _ _ aw aN _ ?side1 ?side2 ?side3 ?side4 ?side5 ?side6 bp.out).mono ?_
            (case side1=>exact (cB aH.out HB.out));(case side2=>exact aI.out);(case side3=>exact (cB aJ.out HB.out));(case side4=>exact aK.out);(case side5=>exact (Kd.R_reads' ab.out).2.2);(case side6=>exact (Kd.R_reads' ab.out).2.1);rintro e ej ⟨aA,rfl,ay,hb⟩;refine ⟨_,rfl,?_⟩;have ak:=qK (Kd.R_elder' ac.out (Kd.R_base ay) hb);have al:=qK (Kd.R_elder' ab.out (Kd.R_base ay) hb);have aj:=qK (Kd.R_elder' ad.out (Kd.R_base ay) hb);have am:=qK (Kd.R_lower (Kd.R_new' (Kd.R_new' (Kd.R_new' ay (Kd.R_lt ac.out)) (Kd.R_lt ab.out)) (Kd.R_lt ad.out)) (qZ HB.out));have ao:=qK (qB (g:=af) (o:=_) (by exact aa.out) hb);have ax:=qK (qT HB.out hb);clear ac ab ad aa HB;have ac:=ak;have ab:=al;have ad:=aj;have an:=am;have aa:=ao;have HB:=ax;clear ak al aj am ao ax;(try clear hb);(try clear ay);refine hK.out _ _ ⟨(qC aa.out 0).trans rfl,(qC aa.out 1).trans rfl⟩ (fun hHeld=>?_);clear hK K;refine norm_ (a':=?_) ?_ ?_;rotate_left
            ·show Act.put _ (some 25) _=_
             simp only [Act.put,sIb,sZ,sS,i64_w,i32_w];rfl
            exact norm_ (by simp only [putAll,Act.put,List.setIfInBounds_toArray,List.set_cons_zero,List.set_cons_succ]) (hCont (.slice bN aw.length bO,aA,aC) _ ⟨hHeld,(Kd.R_mono ab.out (fun _ hk=>⟨hk.2,⟨hk.1.2,hk.1.1.2⟩⟩)),(Kd.R_mono an.out (fun _ hk=>⟨hk.1.2,⟨hk.2,hk.1.1.2⟩⟩)),(Kd.R_mono ad.out (fun _ hk=>⟨hk.1.2,⟨hk.2,hk.1.1.2⟩⟩)),(Kd.R_mono ac.out (fun _ hk=>⟨hk.1.1.2,⟨hk.2,hk.1.2⟩⟩)),aa.out,HB.out⟩)
          ·skip
           refine Kd.R_lit_step (Kd.int .i64) _ 3 ?hg (N:=27) ?hd (xs:=([rd l1 ae]:List Int)) (inner:=[.int .i64 (rd l1 ae)]) (ok:=fun _=>True) (okp:=fun _=>True) ?hr ?hp (fun _ hk=>hk) trivial (Below.refl _ _) (Nat.le_refl _) (by simp) ?_;(case hd=>rfl);(case hg=>rfl);(case hr=>(go_simp;try rfl));(case hp=>exact (Reps.one (show Kd.M (Kd.int .i64) _ _ _ (rd l1 ae) [.int .i64 (rd l1 ae)] from rfl) (Reps.none _ _)));intro aC eh bC hb hg_ hnew_;clear hg_ hnew_;(first|rw [← aG.out] at bC|(simp only [Int.reduceToNat] at bC;rw [← aG.out] at bC));have ak:=qK (Kd.R_elder' ac.out (Kd.R_base bC) hb);have al:=qK (Kd.R_lower (Kd.R_new' bC (Kd.R_lt ac.out)) (qZ HB.out));have aj:=qK (qB (g:=af) (o:=_) (by exact aa.out) hb);have am:=qK (qT HB.out hb);clear ac aa HB;have ac:=ak;have ad:=al;have aa:=aj;have HB:=am;clear ak al aj am hb bC;refine hK.out _ _ ⟨(qC aa.out 0).trans rfl,(qC aa.out 1).trans rfl⟩ (fun hHeld=>?_);clear hK K;refine norm_ (a':=?_) ?_ ?_;rotate_left
           ·show Act.put _ (some 27) _=_
            simp only [Act.put,sIb,sZ,sS,i64_w,i32_w];rfl
           refine one_ (i:=3) (N:=some 24) #[Y,Y,Y,Y,Z,Y,Y,Z,Z] rfl rfl (one_of HT_.out (by kernel_rfl)) (by decide) (fun K hK=>?_);refine goes_ Try.func53 (by kernel_rfl) rfl #[.slice (some aT) l1.length c1,.int .i64 (rd l1 ae)] (by rfl) rfl rfl (by (try simp only [mT,mC,mN]);first|done|rfl|(simp only [lD,lT];rfl)) ?_;with_reducible refine (spec_l11Without.calls k1 _ _ l1 (rd l1 ae) aw _ ?side1 ?side2 bY.out).mono ?_
           (case side1=>exact (cB bn.out HB.out));(case side2=>exact bX.out);rintro e ei ⟨aE,rfl,ay,hb⟩;refine ⟨_,rfl,?_⟩;have ak:=qK (Kd.R_elder' ac.out (Kd.R_base ay) hb);have al:=qK (Kd.R_elder' ad.out (Kd.R_base ay) hb);have aj:=qK (Kd.R_lower (Kd.R_new' (Kd.R_new' ay (Kd.R_lt ac.out)) (Kd.R_lt ad.out)) (qZ HB.out));have am:=qK (qB (g:=af) (o:=_) (by exact aa.out) hb);have ao:=qK (qT HB.out hb);clear ac ad aa HB;have ac:=ak;have ad:=al;have ab:=aj;have aa:=am;have HB:=ao;clear ak al aj am ao;(try clear hb);(try clear ay);obtain ⟨bN,bO,bZ⟩:=Kd.R_slice ab.out;subst bZ;refine hK.out _ _ ⟨(qC aa.out 0).trans rfl,(qC aa.out 1).trans rfl⟩ (fun hHeld=>?_);clear hK K;refine norm_ (a':=?_) ?_ ?_;rotate_left
           ·show Act.put _ (some 24) _=_
            simp only [Act.put,sIb,sZ,sS,i64_w,i32_w];rfl
           refine one_ (i:=4) (N:=some 25) #[Y,Y,Y,Y,Y,Y,Y,Z,Z] rfl rfl (one_of HT_.out (by kernel_rfl)) (by decide) (fun K hK=>?_);refine goes_ Try.func31 (by kernel_rfl) rfl #[.agg #[.slice aq ag.length ar,.slice au ah.length av],.slice bN aw.length bO] (by rfl) rfl rfl (by (try simp only [mT,mC,mN]);first|done|rfl|(simp only [lD,lT];rfl)) ?_;with_reducible refine (ih k1 (by have:=aZ.out;omega) _ _ ag _ _ ah _ _ aw aN _ ?side1 ?side2 ?side3 ?side4 ?side5 ?side6 bp.out).mono ?_
           (case side1=>exact (cB aH.out HB.out));(case side2=>exact aI.out);(case side3=>exact (cB aJ.out HB.out));(case side4=>exact aK.out);(case side5=>exact (Kd.R_reads' ab.out).2.2);(case side6=>exact (Kd.R_reads' ab.out).2.1);rintro e ej ⟨aA,rfl,ay,hb⟩;refine ⟨_,rfl,?_⟩;have ak:=qK (Kd.R_elder' ac.out (Kd.R_base ay) hb);have al:=qK (Kd.R_elder' ad.out (Kd.R_base ay) hb);have aj:=qK (Kd.R_elder' ab.out (Kd.R_base ay) hb);have am:=qK (Kd.R_lower (Kd.R_new' (Kd.R_new' (Kd.R_new' ay (Kd.R_lt ac.out)) (Kd.R_lt ad.out)) (Kd.R_lt ab.out)) (qZ HB.out));have ao:=qK (qB (g:=af) (o:=_) (by exact aa.out) hb);have ax:=qK (qT HB.out hb);clear ac ad ab aa HB;have ac:=ak;have ad:=al;have ab:=aj;have an:=am;have aa:=ao;have HB:=ax;clear ak al aj am ao ax;(try clear hb);(try clear ay);refine hK.out _ _ ⟨(qC aa.out 0).trans rfl,(qC aa.out 1).trans rfl⟩ (fun hHeld=>?_);clear hK K;refine norm_ (a':=?_) ?_ ?_;rotate_left
           ·show Act.put _ (some 25) _=_
            simp only [Act.put,sIb,sZ,sS,i64_w,i32_w];rfl
           exact norm_ (by simp only [putAll,Act.put,List.setIfInBounds_toArray,List.set_cons_zero,List.set_cons_succ]) (hCont (.slice bN aw.length bO,aA,aC) _ ⟨hHeld,(Kd.R_mono ab.out (fun _ hk=>⟨hk.2,⟨hk.1.2,hk.1.1.2⟩⟩)),(Kd.R_mono an.out (fun _ hk=>⟨hk.2,⟨hk.1.2,hk.1.1.2⟩⟩)),(Kd.R_mono ad.out (fun _ hk=>⟨hk.1.2,⟨hk.2,hk.1.1.2⟩⟩)),(Kd.R_mono ac.out (fun _ hk=>⟨hk.1.2,⟨hk.2,hk.1.1.2⟩⟩)),aa.out,HB.out⟩)
         rintro ⟨aE,aA,aC⟩ ci ⟨hS_,bv,bw,bx,bz,bA,bB⟩;have ak:Aside0 (Kd.R (Kd.int .i64) 3 ci w.heap.size (fun k_=>some k_ ≠ (aA:Value).ownBlock∧some k_ ≠ (aC:Value).ownBlock∧some k_ ≠ (u5:Value).ownBlock) aE aw):=⟨bv⟩;have al:Aside0 (Kd.R (Kd.int .i64) 3 ci w.heap.size (fun k_=>some k_ ≠ (aE:Value).ownBlock∧some k_ ≠ (aC:Value).ownBlock∧some k_ ≠ (u5:Value).ownBlock) aA aN):=⟨bw⟩;have aj:Aside0 (Kd.R (Kd.int .i64) 3 ci w.heap.size (fun k_=>some k_ ≠ (aE:Value).ownBlock∧some k_ ≠ (aA:Value).ownBlock∧some k_ ≠ (u5:Value).ownBlock) aC aM):=⟨bx⟩;have am:Aside0 (Kd.R (Kd.int .i64) 3 ci w.heap.size (fun k_=>some k_ ≠ (aE:Value).ownBlock∧some k_ ≠ (aA:Value).ownBlock∧some k_ ≠ (aC:Value).ownBlock) u5 ap):=⟨bz⟩;have ao:Aside0 (ci.heap[af]?=some (.cells #[.slice aq ag.length ar,.slice au ah.length av] 29 (0,0))):=⟨bA⟩;have ax:Aside0 (Below w.heap.size w ci):=⟨bB⟩;clear ac aa HB bv bw bx bz bA bB;have ab:=ak;have an:=al;have ad:=aj;have ac:=am;have aa:=ao;have HB:=ax;clear ak al aj am ao ax;have hHeld:ci.cell? ⟨af,0,none⟩=some (.slice aq ag.length ar)∧ci.cell? ⟨af,1,none⟩=some (.slice au ah.length av):=hS_;obtain ⟨cn,co,dB⟩:=Kd.R_slice ad.out;subst dB;refine norm_ (a':=?_) ?_ ?_;rotate_left
         ·simp only [putAll,Act.put,List.setIfInBounds_toArray,List.set_cons_zero,List.set_cons_succ];rfl
         refine one_ (i:=7) (N:=some 28) #[Y,Y,Y,Y,Y,Y,Y,Y,Z] rfl rfl (one_of HT_.out (by kernel_rfl)) (by decide) (fun K hK=>?_);refine Kd.R_append_rows_step (Kd.int .i64) (w0:=w) w.heap.size (by rfl) (.tmp 25) (.tmp 27) 22 3 (.int .i64 0) 8 rfl Try.underlying22 info3 rfl (by decide) (by omega) aA aN aM _ _ _ (fun k_=>some k_ ≠ (u5:Value).ownBlock∧some k_ ≠ (aE:Value).ownBlock∧some k_ ≠ (.slice cn aM.length co:Value).ownBlock) (fun _=>False) rfl rfl ?aO ?aR (fun _ _ h=>h) (fun _ h=>h.elim) ?aF ?aB ?aS ?aL ?_;(case aR=>repeat (first|exact (Kd.R_reads' ad.out).2.2|(with_reducible first|refine cL ?_ _|refine cN ?_ _|refine cW ?_)));(case aB=>exact HB.out);(case aF=>exact (fun k_ hk=>⟨Kd.fresh' (Kd.R_lt ac.out) k_ hk,Kd.fresh' (Kd.R_lt ab.out) k_ hk,Kd.fresh' (Kd.R_lt ad.out) k_ hk⟩));(case aO=>exact (Kd.R_mono an.out (fun _ hk=>⟨hk.2.2,⟨hk.1,hk.2.1⟩⟩)));(case aS=>exact (qZ HB.out));(case aL=>have:=bf.out;omega);intro cc ek ho hb hg hat;rw [← bh.out] at ho;have ak:=qK (Kd.R_after (ok:=(fun k_=>some k_ ≠ (aE:Value).ownBlock∧some k_ ≠ (.slice cn aM.length co:Value).ownBlock)) (Kd.R_mono ac.out (fun _ hk=>⟨⟨hk.1,hk.2.2⟩,hk.2.1⟩)) hg hat);have al:=qK (blk_grown (g:=af) (o:=_) (by exact aa.out) hg (Kd.R_ne an.out aa.out (by decide)));have aj:=qK (Kd.R_after (ok:=(fun k_=>some k_ ≠ (u5:Value).ownBlock∧some k_ ≠ (.slice cn aM.length co:Value).ownBlock)) (Kd.R_mono ab.out (fun _ hk=>⟨⟨hk.2.2,hk.2.1⟩,hk.1⟩)) hg hat);have am:=qK (Kd.R_after (ok:=(fun k_=>some k_ ≠ (u5:Value).ownBlock∧some k_ ≠ (aE:Value).ownBlock)) (Kd.R_mono ad.out (fun _ hk=>⟨⟨hk.2.2,hk.1⟩,hk.2.1⟩)) hg hat);have ao:=qK (hb);have ax:=qK (ho);clear ac aa ab ad HB an;have ac:=ak;have aa:=al;have ab:=aj;have ad:=am;have HB:=ao;have ai:=ax;clear ak al aj am ao ax ho hb hg hat;refine hK.out _ _ ⟨(qC aa.out 0).trans rfl,(qC aa.out 1).trans rfl⟩ (fun hHeld=>?_);clear hK K;refine norm_ (a':=?_) ?_ ?_;rotate_left
         ·show Act.put _ (some 28) _=_
          simp only [Act.put,sIb,sZ,sS,i64_w,i32_w];rfl
         refine pure_ (i:=8) (N:=some 8) (v:=?_) (a':=?_) #[Y,Y,Y,Y,Y,Y,Y,Y,Y] rfl rfl (any_of HT_.out (by kernel_rfl)) (fun _ _ _ h=>h) (Or.inl ⟨by rfl,?_⟩) ?_ ?_;rotate_left
         ·intro w';go_simp;with_reducible rfl
         rotate_left
         ·simp only [Act.put,sIb,sZ,sS,i64_w,i32_w];rfl
         refine done_ (done_of HT_.out (by kernel_rfl)) ?_;try go_wp2
         have ak:=qK (rW ac.out);have al:=qK (rW ab.out);have aj:=qK (rW ad.out);have am:=qK (rW ai.out);have ao:=qK (qW aa.out);have ax:=qK (qO HB.out);clear ac ab ad ai aa HB;have ac:=ak;have ab:=al;have ad:=aj;have ai:=am;have aa:=ao;have HB:=ax;clear ak al aj am ao ax;obtain ⟨el,em,dC⟩:=Kd.R_slice ac.out;subst dC;refine start_ (n:=26) (S:=fun w'=>True) (ds:=[]) #[Z,Z,Z,Z,Z,Z,Z,Z,Z,Z,Z,Z,Z,Z,Z,Z,Z,Z,Z,Z,Z,Z,Z,Z,Z,Z] (by kernel_rfl) rfl rfl trivial (fun hHeld=>?_);refine with_tabW spec_l12Best.tab8 spec_l12Best.bits8 (fun HT_ HW_=>?_);generalize ek.drew=w26 at ac ab ad ai aa HB hHeld ⊢
         refine pure_ (i:=0) (N:=some 29) (v:=?_) (a':=?_) #[Y,Z,Z,Z,Z,Z,Z,Z,Z,Z,Z,Z,Z,Z,Z,Z,Z,Z,Z,Z,Z,Z,Z,Z,Z,Z] rfl rfl (any_of HT_.out (by kernel_rfl)) (fun _ _ _ h=>h) (Or.inl ⟨by rfl,?_⟩) ?_ ?_;rotate_left
         ·intro w';go_simp;with_reducible rfl
         rotate_left
         ·simp only [Act.put,sIb,sZ,sS,i64_w,i32_w];rfl
         refine pure_ (i:=1) (N:=some 30) (v:=?_) (a':=?_) #[Y,Y,Z,Z,Z,Z,Z,Z,Z,Z,Z,Z,Z,Z,Z,Z,Z,Z,Z,Z,Z,Z,Z,Z,Z,Z] rfl rfl (any_of HT_.out (by kernel_rfl)) (fun _ _ _ h=>h) (Or.inl ⟨by rfl,?_⟩) ?_ ?_;rotate_left
         ·intro w';go_simp;with_reducible rfl
         rotate_left
         ·simp only [Act.put,sIb,sZ,sS,i64_w,i32_w];rfl
         refine pure_ (i:=2) (N:=some 31) (v:=?_) (a':=?_) #[Y,Y,Y,Z,Z,Z,Z,Z,Z,Z,Z,Z,Z,Z,Z,Z,Z,Z,Z,Z,Z,Z,Z,Z,Z,Z] rfl rfl (any_of HT_.out (by kernel_rfl)) (fun _ _ _ h=>h) (Or.inl ⟨by rfl,?_⟩) ?_ ?_;rotate_left
         ·intro w';go_simp;with_reducible rfl
         rotate_left
         ·simp only [Act.put,sIb,sZ,sS,i64_w,i32_w];rfl
         refine pure_ (i:=3) (N:=some 32) (v:=?_) (a':=?_) #[Y,Y,Y,Y,Z,Z,Z,Z,Z,Z,Z,Z,Z,Z,Z,Z,Z,Z,Z,Z,Z,Z,Z,Z,Z,Z] rfl rfl (any_of HT_.out (by kernel_rfl)) (fun _ _ _ h=>h) (Or.inl ⟨by rfl,?_⟩) ?_ ?_;rotate_left
         ·intro w';go_simp;with_reducible rfl
         rotate_left
         ·simp only [Act.put,sIb,sZ,sS,i64_w,i32_w];rfl
         refine pure_ (i:=4) (N:=some 33) (v:=undef) (a':=?_) #[Y,Y,Y,Y,Y,Z,Z,Z,Z,Z,Z,Z,Z,Z,Z,Z,Z,Z,Z,Z,Z,Z,Z,Z,Z,Z] rfl rfl (any_of HT_.out (by kernel_rfl)) (fun _ _ _ h=>h) (Or.inr ⟨by rfl,rfl⟩) ?_ ?_;rotate_left
         ·simp only [Act.put,sIb,sZ,sS,i64_w,i32_w];rfl
         refine pure_ (i:=5) (N:=some 34) (v:=undef) (a':=?_) #[Y,Y,Y,Y,Y,Y,Z,Z,Z,Z,Z,Z,Z,Z,Z,Z,Z,Z,Z,Z,Z,Z,Z,Z,Z,Z] rfl rfl (any_of HT_.out (by kernel_rfl)) (fun _ _ _ h=>h) (Or.inr ⟨by rfl,rfl⟩) ?_ ?_;rotate_left
         ·simp only [Act.put,sIb,sZ,sS,i64_w,i32_w];rfl
         refine pure_ (i:=6) (N:=some 35) (v:=undef) (a':=?_) #[Y,Y,Y,Y,Y,Y,Y,Z,Z,Z,Z,Z,Z,Z,Z,Z,Z,Z,Z,Z,Z,Z,Z,Z,Z,Z] rfl rfl (any_of HT_.out (by kernel_rfl)) (fun _ _ _ h=>h) (Or.inr ⟨by rfl,rfl⟩) ?_ ?_;rotate_left
         ·simp only [Act.put,sIb,sZ,sS,i64_w,i32_w];rfl
         refine pure_ (i:=7) (N:=some 36) (v:=undef) (a':=?_) #[Y,Y,Y,Y,Y,Y,Y,Y,Z,Z,Z,Z,Z,Z,Z,Z,Z,Z,Z,Z,Z,Z,Z,Z,Z,Z] rfl rfl (any_of HT_.out (by kernel_rfl)) (fun _ _ _ h=>h) (Or.inr ⟨by rfl,rfl⟩) ?_ ?_;rotate_left
         ·simp only [Act.put,sIb,sZ,sS,i64_w,i32_w];rfl
         refine pure_ (i:=8) (N:=some 37) (v:=undef) (a':=?_) #[Y,Y,Y,Y,Y,Y,Y,Y,Y,Z,Z,Z,Z,Z,Z,Z,Z,Z,Z,Z,Z,Z,Z,Z,Z,Z] rfl rfl (any_of HT_.out (by kernel_rfl)) (fun _ _ _ h=>h) (Or.inr ⟨by rfl,rfl⟩) ?_ ?_;rotate_left
         ·simp only [Act.put,sIb,sZ,sS,i64_w,i32_w];rfl
         refine pure_ (i:=9) (N:=some 38) (v:=undef) (a':=?_) #[Y,Y,Y,Y,Y,Y,Y,Y,Y,Y,Z,Z,Z,Z,Z,Z,Z,Z,Z,Z,Z,Z,Z,Z,Z,Z] rfl rfl (any_of HT_.out (by kernel_rfl)) (fun _ _ _ h=>h) (Or.inr ⟨by rfl,rfl⟩) ?_ ?_;rotate_left
         ·simp only [Act.put,sIb,sZ,sS,i64_w,i32_w];rfl
         refine pure_ (i:=10) (N:=some 39) (v:=undef) (a':=?_) #[Y,Y,Y,Y,Y,Y,Y,Y,Y,Y,Y,Z,Z,Z,Z,Z,Z,Z,Z,Z,Z,Z,Z,Z,Z,Z] rfl rfl (any_of HT_.out (by kernel_rfl)) (fun _ _ _ h=>h) (Or.inr ⟨by rfl,rfl⟩) ?_ ?_;rotate_left
         ·simp only [Act.put,sIb,sZ,sS,i64_w,i32_w];rfl
         refine pure_ (i:=11) (N:=some 40) (v:=?_) (a':=?_) #[Y,Y,Y,Y,Y,Y,Y,Y,Y,Y,Y,Y,Z,Z,Z,Z,Z,Z,Z,Z,Z,Z,Z,Z,Z,Z] rfl rfl (any_of HT_.out (by kernel_rfl)) (fun _ _ _ h=>h) (Or.inl ⟨by rfl,?_⟩) ?_ ?_;rotate_left
         ·intro w';go_simp;with_reducible rfl
         rotate_left
         ·simp only [Act.put,sIb,sZ,sS,i64_w,i32_w];rfl
         refine pure_ (i:=12) (N:=some 41) (v:=?_) (a':=?_) #[Y,Y,Y,Y,Y,Y,Y,Y,Y,Y,Y,Y,Y,Z,Z,Z,Z,Z,Z,Z,Z,Z,Z,Z,Z,Z] rfl rfl (any_of HT_.out (by kernel_rfl)) (fun _ _ _ h=>h) (Or.inl ⟨by rfl,?_⟩) ?_ ?_;rotate_left
         ·intro w';go_simp;with_reducible rfl
         rotate_left
         ·simp only [Act.put,sIb,sZ,sS,i64_w,i32_w];rfl
         refine pure_ (i:=13) (N:=some 42) (v:=undef) (a':=?_) #[Y,Y,Y,Y,Y,Y,Y,Y,Y,Y,Y,Y,Y,Y,Z,Z,Z,Z,Z,Z,Z,Z,Z,Z,Z,Z] rfl rfl (any_of HT_.out (by kernel_rfl)) (fun _ _ _ h=>h) (Or.inr ⟨by rfl,rfl⟩) ?_ ?_;rotate_left
         ·simp only [Act.put,sIb,sZ,sS,i64_w,i32_w];rfl
         refine pure_ (i:=14) (N:=some 43) (v:=undef) (a':=?_) #[Y,Y,Y,Y,Y,Y,Y,Y,Y,Y,Y,Y,Y,Y,Y,Z,Z,Z,Z,Z,Z,Z,Z,Z,Z,Z] rfl rfl (any_of HT_.out (by kernel_rfl)) (fun _ _ _ h=>h) (Or.inr ⟨by rfl,rfl⟩) ?_ ?_;rotate_left
         ·simp only [Act.put,sIb,sZ,sS,i64_w,i32_w];rfl
         refine pure_ (i:=15) (N:=some 44) (v:=undef) (a':=?_) #[Y,Y,Y,Y,Y,Y,Y,Y,Y,Y,Y,Y,Y,Y,Y,Y,Z,Z,Z,Z,Z,Z,Z,Z,Z,Z] rfl rfl (any_of HT_.out (by kernel_rfl)) (fun _ _ _ h=>h) (Or.inr ⟨by rfl,rfl⟩) ?_ ?_;rotate_left
         ·simp only [Act.put,sIb,sZ,sS,i64_w,i32_w];rfl
         refine pure_ (i:=16) (N:=some 45) (v:=undef) (a':=?_) #[Y,Y,Y,Y,Y,Y,Y,Y,Y,Y,Y,Y,Y,Y,Y,Y,Y,Z,Z,Z,Z,Z,Z,Z,Z,Z] rfl rfl (any_of HT_.out (by kernel_rfl)) (fun _ _ _ h=>h) (Or.inr ⟨by rfl,rfl⟩) ?_ ?_;rotate_left
         ·simp only [Act.put,sIb,sZ,sS,i64_w,i32_w];rfl
         refine pure_ (i:=17) (N:=some 46) (v:=undef) (a':=?_) #[Y,Y,Y,Y,Y,Y,Y,Y,Y,Y,Y,Y,Y,Y,Y,Y,Y,Y,Z,Z,Z,Z,Z,Z,Z,Z] rfl rfl (any_of HT_.out (by kernel_rfl)) (fun _ _ _ h=>h) (Or.inr ⟨by rfl,rfl⟩) ?_ ?_;rotate_left
         ·simp only [Act.put,sIb,sZ,sS,i64_w,i32_w];rfl
         refine pure_ (i:=18) (N:=some 47) (v:=undef) (a':=?_) #[Y,Y,Y,Y,Y,Y,Y,Y,Y,Y,Y,Y,Y,Y,Y,Y,Y,Y,Y,Z,Z,Z,Z,Z,Z,Z] rfl rfl (any_of HT_.out (by kernel_rfl)) (fun _ _ _ h=>h) (Or.inr ⟨by rfl,rfl⟩) ?_ ?_;rotate_left
         ·simp only [Act.put,sIb,sZ,sS,i64_w,i32_w];rfl
         refine pure_ (i:=19) (N:=some 48) (v:=undef) (a':=?_) #[Y,Y,Y,Y,Y,Y,Y,Y,Y,Y,Y,Y,Y,Y,Y,Y,Y,Y,Y,Y,Z,Z,Z,Z,Z,Z] rfl rfl (any_of HT_.out (by kernel_rfl)) (fun _ _ _ h=>h) (Or.inr ⟨by rfl,rfl⟩) ?_ ?_;rotate_left
         ·simp only [Act.put,sIb,sZ,sS,i64_w,i32_w];rfl
         refine pure_ (i:=20) (N:=some 49) (v:=undef) (a':=?_) #[Y,Y,Y,Y,Y,Y,Y,Y,Y,Y,Y,Y,Y,Y,Y,Y,Y,Y,Y,Y,Y,Z,Z,Z,Z,Z] rfl rfl (any_of HT_.out (by kernel_rfl)) (fun _ _ _ h=>h) (Or.inr ⟨by rfl,rfl⟩) ?_ ?_;rotate_left
         ·simp only [Act.put,sIb,sZ,sS,i64_w,i32_w];rfl
         refine pure_ (i:=21) (N:=some 50) (v:=undef) (a':=?_) #[Y,Y,Y,Y,Y,Y,Y,Y,Y,Y,Y,Y,Y,Y,Y,Y,Y,Y,Y,Y,Y,Y,Z,Z,Z,Z] rfl rfl (any_of HT_.out (by kernel_rfl)) (fun _ _ _ h=>h) (Or.inr ⟨by rfl,rfl⟩) ?_ ?_;rotate_left
         ·simp only [Act.put,sIb,sZ,sS,i64_w,i32_w];rfl
         refine pure_ (i:=22) (N:=some 51) (v:=undef) (a':=?_) #[Y,Y,Y,Y,Y,Y,Y,Y,Y,Y,Y,Y,Y,Y,Y,Y,Y,Y,Y,Y,Y,Y,Y,Z,Z,Z] rfl rfl (any_of HT_.out (by kernel_rfl)) (fun _ _ _ h=>h) (Or.inr ⟨by rfl,rfl⟩) ?_ ?_;rotate_left
         ·simp only [Act.put,sIb,sZ,sS,i64_w,i32_w];rfl
         refine pure_ (i:=23) (N:=some 52) (v:=undef) (a':=?_) #[Y,Y,Y,Y,Y,Y,Y,Y,Y,Y,Y,Y,Y,Y,Y,Y,Y,Y,Y,Y,Y,Y,Y,Y,Z,Z] rfl rfl (any_of HT_.out (by kernel_rfl)) (fun _ _ _ h=>h) (Or.inr ⟨by rfl,rfl⟩) ?_ ?_;rotate_left
         ·simp only [Act.put,sIb,sZ,sS,i64_w,i32_w];rfl
         refine pure_ (i:=24) (N:=some 53) (v:=undef) (a':=?_) #[Y,Y,Y,Y,Y,Y,Y,Y,Y,Y,Y,Y,Y,Y,Y,Y,Y,Y,Y,Y,Y,Y,Y,Y,Y,Z] rfl rfl (any_of HT_.out (by kernel_rfl)) (fun _ _ _ h=>h) (Or.inr ⟨by rfl,rfl⟩) ?_ ?_;rotate_left
         ·simp only [Act.put,sIb,sZ,sS,i64_w,i32_w];rfl
         refine pure_ (i:=25) (N:=some 54) (v:=?_) (a':=?_) #[Y,Y,Y,Y,Y,Y,Y,Y,Y,Y,Y,Y,Y,Y,Y,Y,Y,Y,Y,Y,Y,Y,Y,Y,Y,Y] rfl rfl (any_of HT_.out (by kernel_rfl)) (fun _ _ _ h=>h) (Or.inl ⟨by rfl,?_⟩) ?_ ?_;rotate_left
         ·intro w';go_simp;with_reducible rfl
         rotate_left
         ·simp only [Act.put,sIb,sZ,sS,i64_w,i32_w];rfl
         refine done_ (done_of HT_.out (by kernel_rfl)) ?_;try go_wp2
         go_roundg k1
         case measure=>have:=aZ.out;omega
         case rel=>exact ⟨(az),(wrap64 (ae + 1)),(by rfl),H',⟨by have:=aZ.out;omega⟩,⟨Kd.R_mono ai.out (fun _ hk=>trivial)⟩,⟨aa.out⟩,⟨HB.out⟩⟩
        ·rw [if_neg c16] at H;have cS:((ap.length:Int) == 0)=false:=beq_eq_false_iff_ne.mpr c16;have cT:((ap.length:Int) != 0)=true:=bne_iff_ne.mpr c16;have ec:¬ (ap=[]):=fun h_=>c16 (by rw [h_];rfl)
         replace H:=Option.bind_eq_some_iff.mp H;obtain ⟨aY,cX,H⟩:=H;replace H:((spec_l12Cost.f k1 ag ah ap).bind fun aW=>(if aY < aW then (spec_l12Best.l0 k1 l1 az l1 (l1.length:Int) (wrap64 (ae + 1)) ag ah) else ((spec_l12Cost.f k1 ag ah az).bind fun aQ=>((spec_l12Cost.f k1 ag ah ap).bind fun aP=>(if aQ=aP then ((spec_l12Before.f k1 az ap).bind fun aX=>(if aX=true then (spec_l12Best.l0 k1 l1 az l1 (l1.length:Int) (wrap64 (ae + 1)) ag ah) else (spec_l12Best.l0 k1 l1 ap l1 (l1.length:Int) (wrap64 (ae + 1)) ag ah))) else (spec_l12Best.l0 k1 l1 ap l1 (l1.length:Int) (wrap64 (ae + 1)) ag ah))))))=some r:=H;have dt:=qK cX;clear cX;replace H:=Option.bind_eq_some_iff.mp H;obtain ⟨aW,cY,H⟩:=H;replace H:(if aY < aW then (spec_l12Best.l0 k1 l1 az l1 (l1.length:Int) (wrap64 (ae + 1)) ag ah) else ((spec_l12Cost.f k1 ag ah az).bind fun aQ=>((spec_l12Cost.f k1 ag ah ap).bind fun aP=>(if aQ=aP then ((spec_l12Before.f k1 az ap).bind fun aX=>(if aX=true then (spec_l12Best.l0 k1 l1 az l1 (l1.length:Int) (wrap64 (ae + 1)) ag ah) else (spec_l12Best.l0 k1 l1 ap l1 (l1.length:Int) (wrap64 (ae + 1)) ag ah))) else (spec_l12Best.l0 k1 l1 ap l1 (l1.length:Int) (wrap64 (ae + 1)) ag ah)))))=some r:=H;have du:=qK cY;clear cY;by_cases c30:aY < aW
         ·rw [if_pos c30] at H;have cZ:decide (aY < aW)=true:=decide_eq_true c30;clear c30;have H':=qK H;clear H;have aU:0≤(ae:Int):=of_decide_eq_true (by assumption);have aV:ae < (l1.length:Int):=of_decide_eq_true (by assumption);obtain ⟨aT,ba,aD⟩:=Kd.at_int bn.out ae aU aV;cases ba
          replace aD:=(HB.out.cell (World.block_lt_of_cell? w _ aD)).trans aD;replace aU:=eq_true aU;replace aV:=eq_true aV;try go_wp2
          (try (rw [drewN_self wr];generalize hq_:World.drewN wr _=wr;have ak:Aside0 (Kd.R (Kd.int .i64) 3 wr w.heap.size (fun _=>True) u5 ap):=⟨by rw [← hq_];exact ac.out⟩;have al:Aside0 (wr.heap[af]?=some (.cells #[.slice aq ag.length ar,.slice au ah.length av] 29 (0,0))):=⟨by rw [← hq_];exact aa.out⟩;have aj:Aside0 (Below w.heap.size w wr):=⟨by rw [← hq_];exact HB.out⟩;clear ac aa HB hq_;have ac:=ak;have aa:=al;have HB:=aj;clear ak al aj));have ak:=qK (rW ac.out);have al:=qK (qW aa.out);have aj:=qK (qO HB.out);clear ac aa HB;have ac:=ak;have aa:=al;have HB:=aj;clear ak al aj;refine start_ (n:=9) (S:=fun w'=>w'.cell? ⟨af,0,none⟩=some (.slice aq ag.length ar)∧w'.cell? ⟨af,1,none⟩=some (.slice au ah.length av)) (ds:=[]) #[Z,Z,Z,Z,Z,Z,Z,Z,Z] (by kernel_rfl) rfl rfl ⟨(qC aa.out 0).trans rfl,(qC aa.out 1).trans rfl⟩ (fun hHeld=>?_);refine with_tabW spec_l12Best.tab7 spec_l12Best.bits7 (fun HT_ HW_=>?_);generalize wr.drew=w31 at ac aa HB hHeld ⊢
          refine pure_ (i:=1) (N:=some 22) (v:=?_) (a':=?_) #[Z,Y,Z,Z,Z,Z,Z,Z,Z] rfl rfl (any_of HT_.out (by kernel_rfl)) (fun _ _ _ h=>h) (Or.inl ⟨by rfl,?_⟩) ?_ ?_;rotate_left
          ·intro w';go_simp;with_reducible rfl
          rotate_left
          ·simp only [Act.put,sIb,sZ,sS,i64_w,i32_w];rfl
          refine pure_ (i:=2) (N:=some 23) (v:=?_) (a':=?_) #[Z,Y,Y,Z,Z,Z,Z,Z,Z] rfl rfl (any_of HT_.out (by kernel_rfl)) (fun _ _ _ h=>h) (Or.inl ⟨by rfl,?_⟩) ?_ ?_;rotate_left
          ·intro w';go_simp;with_reducible rfl
          rotate_left
          ·simp only [Act.put,sIb,sZ,sS,i64_w,i32_w];rfl
          refine pure_ (i:=5) (N:=some 26) (v:=?_) (a':=?_) #[Z,Y,Y,Z,Z,Y,Z,Z,Z] rfl rfl (any_of HT_.out (by kernel_rfl)) (fun _ _ _ h=>h) (Or.inl ⟨by rfl,?_⟩) ?_ ?_;rotate_left
          ·intro w';go_simp;with_reducible rfl
          rotate_left
          ·simp only [Act.put,sIb,sZ,sS,i64_w,i32_w];rfl
          refine take_ (i:=0) (N:=some 21) (v:=?_) (a':=?_) #[Y,Y,Y,Z,Z,Y,Z,Z,Z] rfl rfl (take_ofW HT_.out HW_.out (by kernel_rfl)) (fun _ _ _ h=>h) (Or.inl ⟨by rfl,?_⟩) hHeld ?_ ?_;rotate_left
          ·rintro w' ⟨s0,s1⟩;go_simp;with_reducible rfl
          rotate_left
          ·simp only [Act.put,sIb,sZ,sS,i64_w,i32_w];rfl
          refine join_ (σ:=Value × Value × Value) 2 #[Y,Y,Y,Y,Y,Y,Y,Z,Z] (fun s_=>[(24,s_.1),(25,s_.2.1),(27,s_.2.2)]) (fun s_ w'=>(w'.cell? ⟨af,0,none⟩=some (.slice aq ag.length ar)∧w'.cell? ⟨af,1,none⟩=some (.slice au ah.length av))∧(Kd.R (Kd.int .i64) 3 w' w.heap.size (fun k_=>some k_ ≠ (s_.2.1:Value).ownBlock∧some k_ ≠ (s_.2.2:Value).ownBlock∧some k_ ≠ (u5:Value).ownBlock) s_.1 aw)∧(Kd.R (Kd.int .i64) 3 w' w.heap.size (fun k_=>some k_ ≠ (s_.1:Value).ownBlock∧some k_ ≠ (s_.2.2:Value).ownBlock∧some k_ ≠ (u5:Value).ownBlock) s_.2.1 aN)∧(Kd.R (Kd.int .i64) 3 w' w.heap.size (fun k_=>some k_ ≠ (s_.1:Value).ownBlock∧some k_ ≠ (s_.2.1:Value).ownBlock∧some k_ ≠ (u5:Value).ownBlock) s_.2.2 aM)∧(Kd.R (Kd.int .i64) 3 w' w.heap.size (fun k_=>some k_ ≠ (s_.1:Value).ownBlock∧some k_ ≠ (s_.2.1:Value).ownBlock∧some k_ ≠ (s_.2.2:Value).ownBlock) u5 ap)∧(w'.heap[af]?=some (.cells #[.slice aq ag.length ar,.slice au ah.length av] 29 (0,0)))∧(Below w.heap.size w w')) ?_ ?_;rotate_left
          ·intro hCont;refine two_ (i:=3) (j:=6) (Ni:=some 24) (Nj:=some 27) #[Y,Y,Y,Y,Z,Y,Z,Z,Z] #[Y,Y,Y,Z,Z,Y,Y,Z,Z] rfl rfl rfl rfl (two_of HT_.out (by kernel_rfl)) (by decide) (by decide) (fun K hK=>?_) (fun K hK=>?_)
           ·skip
            refine goes_ Try.func53 (by kernel_rfl) rfl #[.slice (some aT) l1.length c1,.int .i64 (rd l1 ae)] (by rfl) rfl rfl (by (try simp only [mT,mC,mN]);first|done|rfl|(simp only [lD,lT];rfl)) ?_;with_reducible refine (spec_l11Without.calls k1 _ _ l1 (rd l1 ae) aw _ ?side1 ?side2 bY.out).mono ?_
            (case side1=>exact (cB bn.out HB.out));(case side2=>exact bX.out);rintro e en ⟨aE,rfl,ay,hb⟩;refine ⟨_,rfl,?_⟩;have ak:=qK (Kd.R_elder' ac.out (Kd.R_base ay) hb);have al:=qK (Kd.R_lower (Kd.R_new' ay (Kd.R_lt ac.out)) (qZ HB.out));have aj:=qK (qB (g:=af) (o:=_) (by exact aa.out) hb);have am:=qK (qT HB.out hb);clear ac aa HB;have ac:=ak;have ab:=al;have aa:=aj;have HB:=am;clear ak al aj am;(try clear hb);(try clear ay);obtain ⟨da,db,dD⟩:=Kd.R_slice ab.out;subst dD;refine hK.out _ _ ⟨(qC aa.out 0).trans rfl,(qC aa.out 1).trans rfl⟩ (fun hHeld=>?_);clear hK K;refine norm_ (a':=?_) ?_ ?_;rotate_left
            ·show Act.put _ (some 24) _=_
             simp only [Act.put,sIb,sZ,sS,i64_w,i32_w];rfl
            refine two_ (i:=4) (j:=6) (Ni:=some 25) (Nj:=some 27) #[Y,Y,Y,Y,Y,Y,Z,Z,Z] #[Y,Y,Y,Y,Z,Y,Y,Z,Z] rfl rfl rfl rfl (two_of HT_.out (by kernel_rfl)) (by decide) (by decide) (fun K hK=>?_) (fun K hK=>?_)
            ·skip
             refine goes_ Try.func31 (by kernel_rfl) rfl #[.agg #[.slice aq ag.length ar,.slice au ah.length av],.slice da aw.length db] (by rfl) rfl rfl (by (try simp only [mT,mC,mN]);first|done|rfl|(simp only [lD,lT];rfl)) ?_;with_reducible refine (ih k1 (by have:=aZ.out;omega) _ _ ag _ _ ah _ _ aw aN _ ?side1 ?side2 ?side3 ?side4 ?side5 ?side6 bp.out).mono ?_
             (case side1=>exact (cB aH.out HB.out));(case side2=>exact aI.out);(case side3=>exact (cB aJ.out HB.out));(case side4=>exact aK.out);(case side5=>exact (Kd.R_reads' ab.out).2.2);(case side6=>exact (Kd.R_reads' ab.out).2.1);rintro e eo ⟨aA,rfl,ay,hb⟩;refine ⟨_,rfl,?_⟩;have ak:=qK (Kd.R_elder' ac.out (Kd.R_base ay) hb);have al:=qK (Kd.R_elder' ab.out (Kd.R_base ay) hb);have aj:=qK (Kd.R_lower (Kd.R_new' (Kd.R_new' ay (Kd.R_lt ac.out)) (Kd.R_lt ab.out)) (qZ HB.out));have am:=qK (qB (g:=af) (o:=_) (by exact aa.out) hb);have ao:=qK (qT HB.out hb);clear ac ab aa HB;have ac:=ak;have ab:=al;have an:=aj;have aa:=am;have HB:=ao;clear ak al aj am ao;(try clear hb);(try clear ay);refine hK.out _ _ ⟨(qC aa.out 0).trans rfl,(qC aa.out 1).trans rfl⟩ (fun hHeld=>?_);clear hK K;refine norm_ (a':=?_) ?_ ?_;rotate_left
             ·show Act.put _ (some 25) _=_
              simp only [Act.put,sIb,sZ,sS,i64_w,i32_w];rfl
             refine one_ (i:=6) (N:=some 27) #[Y,Y,Y,Y,Y,Y,Y,Z,Z] rfl rfl (one_of HT_.out (by kernel_rfl)) (by decide) (fun K hK=>?_);refine Kd.R_lit_step (Kd.int .i64) _ 3 ?hg (N:=27) ?hd (xs:=([rd l1 ae]:List Int)) (inner:=[.int .i64 (rd l1 ae)]) (ok:=fun _=>True) (okp:=fun _=>True) ?hr ?hp (fun _ hk=>hk) trivial (Below.refl _ _) (Nat.le_refl _) (by simp) ?_;(case hd=>rfl);(case hg=>rfl);(case hr=>(go_simp;try rfl));(case hp=>exact (Reps.one (show Kd.M (Kd.int .i64) _ _ _ (rd l1 ae) [.int .i64 (rd l1 ae)] from rfl) (Reps.none _ _)));intro aC eF bj hb hg_ hnew_;clear hg_ hnew_;(first|rw [← aG.out] at bj|(simp only [Int.reduceToNat] at bj;rw [← aG.out] at bj));have ak:=qK (Kd.R_elder' ac.out (Kd.R_base bj) hb);have al:=qK (Kd.R_elder' ab.out (Kd.R_base bj) hb);have aj:=qK (Kd.R_elder' an.out (Kd.R_base bj) hb);have am:=qK (Kd.R_lower (Kd.R_new' (Kd.R_new' (Kd.R_new' bj (Kd.R_lt ac.out)) (Kd.R_lt ab.out)) (Kd.R_lt an.out)) (qZ HB.out));have ao:=qK (qB (g:=af) (o:=_) (by exact aa.out) hb);have ax:=qK (qT HB.out hb);clear ac ab an aa HB;have ac:=ak;have ab:=al;have an:=aj;have ad:=am;have aa:=ao;have HB:=ax;clear ak al aj am ao ax hb bj;refine hK.out _ _ ⟨(qC aa.out 0).trans rfl,(qC aa.out 1).trans rfl⟩ (fun hHeld=>?_);clear hK K;refine norm_ (a':=?_) ?_ ?_;rotate_left
             ·show Act.put _ (some 27) _=_
              simp only [Act.put,sIb,sZ,sS,i64_w,i32_w];rfl
             exact norm_ (by simp only [putAll,Act.put,List.setIfInBounds_toArray,List.set_cons_zero,List.set_cons_succ]) (hCont (.slice da aw.length db,aA,aC) _ ⟨hHeld,(Kd.R_mono ab.out (fun _ hk=>⟨hk.1.2,⟨hk.2,hk.1.1.2⟩⟩)),(Kd.R_mono an.out (fun _ hk=>⟨hk.1.2,⟨hk.2,hk.1.1.2⟩⟩)),(Kd.R_mono ad.out (fun _ hk=>⟨hk.1.2,⟨hk.2,hk.1.1.2⟩⟩)),(Kd.R_mono ac.out (fun _ hk=>⟨hk.1.1.2,⟨hk.1.2,hk.2⟩⟩)),aa.out,HB.out⟩)
            ·skip
             refine Kd.R_lit_step (Kd.int .i64) _ 3 ?hg (N:=27) ?hd (xs:=([rd l1 ae]:List Int)) (inner:=[.int .i64 (rd l1 ae)]) (ok:=fun _=>True) (okp:=fun _=>True) ?hr ?hp (fun _ hk=>hk) trivial (Below.refl _ _) (Nat.le_refl _) (by simp) ?_;(case hd=>rfl);(case hg=>rfl);(case hr=>(go_simp;try rfl));(case hp=>exact (Reps.one (show Kd.M (Kd.int .i64) _ _ _ (rd l1 ae) [.int .i64 (rd l1 ae)] from rfl) (Reps.none _ _)));intro aC eG br hb hg_ hnew_;clear hg_ hnew_;(first|rw [← aG.out] at br|(simp only [Int.reduceToNat] at br;rw [← aG.out] at br));have ak:=qK (Kd.R_elder' ac.out (Kd.R_base br) hb);have al:=qK (Kd.R_elder' ab.out (Kd.R_base br) hb);have aj:=qK (Kd.R_lower (Kd.R_new' (Kd.R_new' br (Kd.R_lt ac.out)) (Kd.R_lt ab.out)) (qZ HB.out));have am:=qK (qB (g:=af) (o:=_) (by exact aa.out) hb);have ao:=qK (qT HB.out hb);clear ac ab aa HB;have ac:=ak;have ab:=al;have ad:=aj;have aa:=am;have HB:=ao;clear ak al aj am ao hb br;obtain ⟨bP,bQ,cd⟩:=Kd.R_slice ab.out;(first|subst cd|(injection cd with f1_ f2_ f3_;have ca:=f1_.symm;have cb:=f3_.symm;clear f1_ f2_ f3_;subst ca;subst cb));refine hK.out _ _ ⟨(qC aa.out 0).trans rfl,(qC aa.out 1).trans rfl⟩ (fun hHeld=>?_);clear hK K;refine norm_ (a':=?_) ?_ ?_;rotate_left
             ·show Act.put _ (some 27) _=_
              simp only [Act.put,sIb,sZ,sS,i64_w,i32_w];rfl
             refine one_ (i:=4) (N:=some 25) #[Y,Y,Y,Y,Y,Y,Y,Z,Z] rfl rfl (one_of HT_.out (by kernel_rfl)) (by decide) (fun K hK=>?_);refine goes_ Try.func31 (by kernel_rfl) rfl #[.agg #[.slice aq ag.length ar,.slice au ah.length av],.slice bP aw.length bQ] (by rfl) rfl rfl (by (try simp only [mT,mC,mN]);first|done|rfl|(simp only [lD,lT];rfl)) ?_;with_reducible refine (ih k1 (by have:=aZ.out;omega) _ _ ag _ _ ah _ _ aw aN _ ?side1 ?side2 ?side3 ?side4 ?side5 ?side6 bp.out).mono ?_
             (case side1=>exact (cB aH.out HB.out));(case side2=>exact aI.out);(case side3=>exact (cB aJ.out HB.out));(case side4=>exact aK.out);(case side5=>exact (Kd.R_reads' ab.out).2.2);(case side6=>exact (Kd.R_reads' ab.out).2.1);rintro e ep ⟨aA,rfl,ay,hb⟩;refine ⟨_,rfl,?_⟩;have ak:=qK (Kd.R_elder' ac.out (Kd.R_base ay) hb);have al:=qK (Kd.R_elder' ab.out (Kd.R_base ay) hb);have aj:=qK (Kd.R_elder' ad.out (Kd.R_base ay) hb);have am:=qK (Kd.R_lower (Kd.R_new' (Kd.R_new' (Kd.R_new' ay (Kd.R_lt ac.out)) (Kd.R_lt ab.out)) (Kd.R_lt ad.out)) (qZ HB.out));have ao:=qK (qB (g:=af) (o:=_) (by exact aa.out) hb);have ax:=qK (qT HB.out hb);clear ac ab ad aa HB;have ac:=ak;have ab:=al;have ad:=aj;have an:=am;have aa:=ao;have HB:=ax;clear ak al aj am ao ax;(try clear hb);(try clear ay);refine hK.out _ _ ⟨(qC aa.out 0).trans rfl,(qC aa.out 1).trans rfl⟩ (fun hHeld=>?_);clear hK K;refine norm_ (a':=?_) ?_ ?_;rotate_left
             ·show Act.put _ (some 25) _=_
              simp only [Act.put,sIb,sZ,sS,i64_w,i32_w];rfl
             exact norm_ (by simp only [putAll,Act.put,List.setIfInBounds_toArray,List.set_cons_zero,List.set_cons_succ]) (hCont (.slice bP aw.length bQ,aA,aC) _ ⟨hHeld,(Kd.R_mono ab.out (fun _ hk=>⟨hk.2,⟨hk.1.2,hk.1.1.2⟩⟩)),(Kd.R_mono an.out (fun _ hk=>⟨hk.1.2,⟨hk.2,hk.1.1.2⟩⟩)),(Kd.R_mono ad.out (fun _ hk=>⟨hk.1.2,⟨hk.2,hk.1.1.2⟩⟩)),(Kd.R_mono ac.out (fun _ hk=>⟨hk.1.1.2,⟨hk.2,hk.1.2⟩⟩)),aa.out,HB.out⟩)
           ·skip
            refine Kd.R_lit_step (Kd.int .i64) _ 3 ?hg (N:=27) ?hd (xs:=([rd l1 ae]:List Int)) (inner:=[.int .i64 (rd l1 ae)]) (ok:=fun _=>True) (okp:=fun _=>True) ?hr ?hp (fun _ hk=>hk) trivial (Below.refl _ _) (Nat.le_refl _) (by simp) ?_;(case hd=>rfl);(case hg=>rfl);(case hr=>(go_simp;try rfl));(case hp=>exact (Reps.one (show Kd.M (Kd.int .i64) _ _ _ (rd l1 ae) [.int .i64 (rd l1 ae)] from rfl) (Reps.none _ _)));intro aC en bD hb hg_ hnew_;clear hg_ hnew_;(first|rw [← aG.out] at bD|(simp only [Int.reduceToNat] at bD;rw [← aG.out] at bD));have ak:=qK (Kd.R_elder' ac.out (Kd.R_base bD) hb);have al:=qK (Kd.R_lower (Kd.R_new' bD (Kd.R_lt ac.out)) (qZ HB.out));have aj:=qK (qB (g:=af) (o:=_) (by exact aa.out) hb);have am:=qK (qT HB.out hb);clear ac aa HB;have ac:=ak;have ad:=al;have aa:=aj;have HB:=am;clear ak al aj am hb bD;refine hK.out _ _ ⟨(qC aa.out 0).trans rfl,(qC aa.out 1).trans rfl⟩ (fun hHeld=>?_);clear hK K;refine norm_ (a':=?_) ?_ ?_;rotate_left
            ·show Act.put _ (some 27) _=_
             simp only [Act.put,sIb,sZ,sS,i64_w,i32_w];rfl
            refine one_ (i:=3) (N:=some 24) #[Y,Y,Y,Y,Z,Y,Y,Z,Z] rfl rfl (one_of HT_.out (by kernel_rfl)) (by decide) (fun K hK=>?_);refine goes_ Try.func53 (by kernel_rfl) rfl #[.slice (some aT) l1.length c1,.int .i64 (rd l1 ae)] (by rfl) rfl rfl (by (try simp only [mT,mC,mN]);first|done|rfl|(simp only [lD,lT];rfl)) ?_;with_reducible refine (spec_l11Without.calls k1 _ _ l1 (rd l1 ae) aw _ ?side1 ?side2 bY.out).mono ?_
            (case side1=>exact (cB bn.out HB.out));(case side2=>exact bX.out);rintro e eo ⟨aE,rfl,ay,hb⟩;refine ⟨_,rfl,?_⟩;have ak:=qK (Kd.R_elder' ac.out (Kd.R_base ay) hb);have al:=qK (Kd.R_elder' ad.out (Kd.R_base ay) hb);have aj:=qK (Kd.R_lower (Kd.R_new' (Kd.R_new' ay (Kd.R_lt ac.out)) (Kd.R_lt ad.out)) (qZ HB.out));have am:=qK (qB (g:=af) (o:=_) (by exact aa.out) hb);have ao:=qK (qT HB.out hb);clear ac ad aa HB;have ac:=ak;have ad:=al;have ab:=aj;have aa:=am;have HB:=ao;clear ak al aj am ao;(try clear hb);(try clear ay);obtain ⟨bP,bQ,cd⟩:=Kd.R_slice ab.out;subst cd;refine hK.out _ _ ⟨(qC aa.out 0).trans rfl,(qC aa.out 1).trans rfl⟩ (fun hHeld=>?_);clear hK K;refine norm_ (a':=?_) ?_ ?_;rotate_left
            ·show Act.put _ (some 24) _=_
             simp only [Act.put,sIb,sZ,sS,i64_w,i32_w];rfl
            refine one_ (i:=4) (N:=some 25) #[Y,Y,Y,Y,Y,Y,Y,Z,Z] rfl rfl (one_of HT_.out (by kernel_rfl)) (by decide) (fun K hK=>?_);refine goes_ Try.func31 (by kernel_rfl) rfl #[.agg #[.slice aq ag.length ar,.slice au ah.length av],.slice bP aw.length bQ] (by rfl) rfl rfl (by (try simp only [mT,mC,mN]);first|done|rfl|(simp only [lD,lT];rfl)) ?_;with_reducible refine (ih k1 (by have:=aZ.out;omega) _ _ ag _ _ ah _ _ aw aN _ ?side1 ?side2 ?side3 ?side4 ?side5 ?side6 bp.out).mono ?_
            (case side1=>exact (cB aH.out HB.out));(case side2=>exact aI.out);(case side3=>exact (cB aJ.out HB.out));(case side4=>exact aK.out);(case side5=>exact (Kd.R_reads' ab.out).2.2);(case side6=>exact (Kd.R_reads' ab.out).2.1);rintro e ep ⟨aA,rfl,ay,hb⟩;refine ⟨_,rfl,?_⟩;have ak:=qK (Kd.R_elder' ac.out (Kd.R_base ay) hb);have al:=qK (Kd.R_elder' ad.out (Kd.R_base ay) hb);have aj:=qK (Kd.R_elder' ab.out (Kd.R_base ay) hb);have am:=qK (Kd.R_lower (Kd.R_new' (Kd.R_new' (Kd.R_new' ay (Kd.R_lt ac.out)) (Kd.R_lt ad.out)) (Kd.R_lt ab.out)) (qZ HB.out));have ao:=qK (qB (g:=af) (o:=_) (by exact aa.out) hb);have ax:=qK (qT HB.out hb);clear ac ad ab aa HB;have ac:=ak;have ad:=al;have ab:=aj;have an:=am;have aa:=ao;have HB:=ax;clear ak al aj am ao ax;(try clear hb);(try clear ay);refine hK.out _ _ ⟨(qC aa.out 0).trans rfl,(qC aa.out 1).trans rfl⟩ (fun hHeld=>?_);clear hK K;refine norm_ (a':=?_) ?_ ?_;rotate_left
            ·show Act.put _ (some 25) _=_
             simp only [Act.put,sIb,sZ,sS,i64_w,i32_w];rfl
            exact norm_ (by simp only [putAll,Act.put,List.setIfInBounds_toArray,List.set_cons_zero,List.set_cons_succ]) (hCont (.slice bP aw.length bQ,aA,aC) _ ⟨hHeld,(Kd.R_mono ab.out (fun _ hk=>⟨hk.2,⟨hk.1.2,hk.1.1.2⟩⟩)),(Kd.R_mono an.out (fun _ hk=>⟨hk.2,⟨hk.1.2,hk.1.1.2⟩⟩)),(Kd.R_mono ad.out (fun _ hk=>⟨hk.1.2,⟨hk.2,hk.1.1.2⟩⟩)),(Kd.R_mono ac.out (fun _ hk=>⟨hk.1.2,⟨hk.2,hk.1.1.2⟩⟩)),aa.out,HB.out⟩)
          rintro ⟨aE,aA,aC⟩ cj ⟨hS_,bv,bw,bx,bz,bA,bB⟩;have ak:Aside0 (Kd.R (Kd.int .i64) 3 cj w.heap.size (fun k_=>some k_ ≠ (aA:Value).ownBlock∧some k_ ≠ (aC:Value).ownBlock∧some k_ ≠ (u5:Value).ownBlock) aE aw):=⟨bv⟩;have al:Aside0 (Kd.R (Kd.int .i64) 3 cj w.heap.size (fun k_=>some k_ ≠ (aE:Value).ownBlock∧some k_ ≠ (aC:Value).ownBlock∧some k_ ≠ (u5:Value).ownBlock) aA aN):=⟨bw⟩;have aj:Aside0 (Kd.R (Kd.int .i64) 3 cj w.heap.size (fun k_=>some k_ ≠ (aE:Value).ownBlock∧some k_ ≠ (aA:Value).ownBlock∧some k_ ≠ (u5:Value).ownBlock) aC aM):=⟨bx⟩;have am:Aside0 (Kd.R (Kd.int .i64) 3 cj w.heap.size (fun k_=>some k_ ≠ (aE:Value).ownBlock∧some k_ ≠ (aA:Value).ownBlock∧some k_ ≠ (aC:Value).ownBlock) u5 ap):=⟨bz⟩;have ao:Aside0 (cj.heap[af]?=some (.cells #[.slice aq ag.length ar,.slice au ah.length av] 29 (0,0))):=⟨bA⟩;have ax:Aside0 (Below w.heap.size w cj):=⟨bB⟩;clear ac aa HB bv bw bx bz bA bB;have ab:=ak;have an:=al;have ad:=aj;have ac:=am;have aa:=ao;have HB:=ax;clear ak al aj am ao ax;have hHeld:cj.cell? ⟨af,0,none⟩=some (.slice aq ag.length ar)∧cj.cell? ⟨af,1,none⟩=some (.slice au ah.length av):=hS_;obtain ⟨cp,cq,dE⟩:=Kd.R_slice ad.out;subst dE;refine norm_ (a':=?_) ?_ ?_;rotate_left
          ·simp only [putAll,Act.put,List.setIfInBounds_toArray,List.set_cons_zero,List.set_cons_succ];rfl
          refine one_ (i:=7) (N:=some 28) #[Y,Y,Y,Y,Y,Y,Y,Y,Z] rfl rfl (one_of HT_.out (by kernel_rfl)) (by decide) (fun K hK=>?_);refine Kd.R_append_rows_step (Kd.int .i64) (w0:=w) w.heap.size (by rfl) (.tmp 25) (.tmp 27) 22 3 (.int .i64 0) 8 rfl Try.underlying22 info3 rfl (by decide) (by omega) aA aN aM _ _ _ (fun k_=>some k_ ≠ (u5:Value).ownBlock∧some k_ ≠ (aE:Value).ownBlock∧some k_ ≠ (.slice cp aM.length cq:Value).ownBlock) (fun _=>False) rfl rfl ?aO ?aR (fun _ _ h=>h) (fun _ h=>h.elim) ?aF ?aB ?aS ?aL ?_;(case aR=>repeat (first|exact (Kd.R_reads' ad.out).2.2|(with_reducible first|refine cL ?_ _|refine cN ?_ _|refine cW ?_)));(case aB=>exact HB.out);(case aF=>exact (fun k_ hk=>⟨Kd.fresh' (Kd.R_lt ac.out) k_ hk,Kd.fresh' (Kd.R_lt ab.out) k_ hk,Kd.fresh' (Kd.R_lt ad.out) k_ hk⟩));(case aO=>exact (Kd.R_mono an.out (fun _ hk=>⟨hk.2.2,⟨hk.1,hk.2.1⟩⟩)));(case aS=>exact (qZ HB.out));(case aL=>have:=bf.out;omega);intro cc eq ho hb hg hat;rw [← bh.out] at ho;have ak:=qK (Kd.R_after (ok:=(fun k_=>some k_ ≠ (aE:Value).ownBlock∧some k_ ≠ (.slice cp aM.length cq:Value).ownBlock)) (Kd.R_mono ac.out (fun _ hk=>⟨⟨hk.1,hk.2.2⟩,hk.2.1⟩)) hg hat);have al:=qK (blk_grown (g:=af) (o:=_) (by exact aa.out) hg (Kd.R_ne an.out aa.out (by decide)));have aj:=qK (Kd.R_after (ok:=(fun k_=>some k_ ≠ (u5:Value).ownBlock∧some k_ ≠ (.slice cp aM.length cq:Value).ownBlock)) (Kd.R_mono ab.out (fun _ hk=>⟨⟨hk.2.2,hk.2.1⟩,hk.1⟩)) hg hat);have am:=qK (Kd.R_after (ok:=(fun k_=>some k_ ≠ (u5:Value).ownBlock∧some k_ ≠ (aE:Value).ownBlock)) (Kd.R_mono ad.out (fun _ hk=>⟨⟨hk.2.2,hk.1⟩,hk.2.1⟩)) hg hat);have ao:=qK (hb);have ax:=qK (ho);clear ac aa ab ad HB an;have ac:=ak;have aa:=al;have ab:=aj;have ad:=am;have HB:=ao;have ai:=ax;clear ak al aj am ao ax ho hb hg hat;refine hK.out _ _ ⟨(qC aa.out 0).trans rfl,(qC aa.out 1).trans rfl⟩ (fun hHeld=>?_);clear hK K;refine norm_ (a':=?_) ?_ ?_;rotate_left
          ·show Act.put _ (some 28) _=_
           simp only [Act.put,sIb,sZ,sS,i64_w,i32_w];rfl
          refine pure_ (i:=8) (N:=some 8) (v:=?_) (a':=?_) #[Y,Y,Y,Y,Y,Y,Y,Y,Y] rfl rfl (any_of HT_.out (by kernel_rfl)) (fun _ _ _ h=>h) (Or.inl ⟨by rfl,?_⟩) ?_ ?_;rotate_left
          ·intro w';go_simp;with_reducible rfl
          rotate_left
          ·simp only [Act.put,sIb,sZ,sS,i64_w,i32_w];rfl
          refine done_ (done_of HT_.out (by kernel_rfl)) ?_;try go_wp2
          have ak:=qK (rW ac.out);have al:=qK (rW ab.out);have aj:=qK (rW ad.out);have am:=qK (rW ai.out);have ao:=qK (qW aa.out);have ax:=qK (qO HB.out);clear ac ab ad ai aa HB;have ac:=ak;have ab:=al;have ad:=aj;have ai:=am;have aa:=ao;have HB:=ax;clear ak al aj am ao ax;obtain ⟨dF,dG,dH⟩:=Kd.R_slice ac.out;subst dH;obtain ⟨dI,dJ,dK⟩:=Kd.R_slice ai.out;subst dK;refine start_ (n:=26) (S:=fun w'=>w'.cell? ⟨af,0,none⟩=some (.slice aq ag.length ar)∧w'.cell? ⟨af,1,none⟩=some (.slice au ah.length av)) (ds:=[]) #[Z,Z,Z,Z,Z,Z,Z,Z,Z,Z,Z,Z,Z,Z,Z,Z,Z,Z,Z,Z,Z,Z,Z,Z,Z,Z] (by kernel_rfl) rfl rfl ⟨(qC aa.out 0).trans rfl,(qC aa.out 1).trans rfl⟩ (fun hHeld=>?_);refine with_tabW spec_l12Best.tab8 spec_l12Best.bits8 (fun HT_ HW_=>?_);generalize eq.drew=w40 at ac ab ad ai aa HB hHeld ⊢
          refine pure_ (i:=0) (N:=some 29) (v:=?_) (a':=?_) #[Y,Z,Z,Z,Z,Z,Z,Z,Z,Z,Z,Z,Z,Z,Z,Z,Z,Z,Z,Z,Z,Z,Z,Z,Z,Z] rfl rfl (any_of HT_.out (by kernel_rfl)) (fun _ _ _ h=>h) (Or.inl ⟨by rfl,?_⟩) ?_ ?_;rotate_left
          ·intro w';go_simp;with_reducible rfl
          rotate_left
          ·simp only [Act.put,sIb,sZ,sS,i64_w,i32_w];rfl
          refine pure_ (i:=1) (N:=some 30) (v:=?_) (a':=?_) #[Y,Y,Z,Z,Z,Z,Z,Z,Z,Z,Z,Z,Z,Z,Z,Z,Z,Z,Z,Z,Z,Z,Z,Z,Z,Z] rfl rfl (any_of HT_.out (by kernel_rfl)) (fun _ _ _ h=>h) (Or.inl ⟨by rfl,?_⟩) ?_ ?_;rotate_left
          ·intro w';go_simp;with_reducible rfl
          rotate_left
          ·simp only [Act.put,sIb,sZ,sS,i64_w,i32_w];rfl
          refine pure_ (i:=2) (N:=some 31) (v:=?_) (a':=?_) #[Y,Y,Y,Z,Z,Z,Z,Z,Z,Z,Z,Z,Z,Z,Z,Z,Z,Z,Z,Z,Z,Z,Z,Z,Z,Z] rfl rfl (any_of HT_.out (by kernel_rfl)) (fun _ _ _ h=>h) (Or.inl ⟨by rfl,?_⟩) ?_ ?_;rotate_left
          ·intro w';go_simp;with_reducible rfl
          rotate_left
          ·simp only [Act.put,sIb,sZ,sS,i64_w,i32_w];rfl
          refine pure_ (i:=3) (N:=some 32) (v:=?_) (a':=?_) #[Y,Y,Y,Y,Z,Z,Z,Z,Z,Z,Z,Z,Z,Z,Z,Z,Z,Z,Z,Z,Z,Z,Z,Z,Z,Z] rfl rfl (any_of HT_.out (by kernel_rfl)) (fun _ _ _ h=>h) (Or.inl ⟨by rfl,?_⟩) ?_ ?_;rotate_left
          ·intro w';go_simp;with_reducible rfl
          rotate_left
          ·simp only [Act.put,sIb,sZ,sS,i64_w,i32_w];rfl
          refine pure_ (i:=5) (N:=some 34) (v:=?_) (a':=?_) #[Y,Y,Y,Y,Z,Y,Z,Z,Z,Z,Z,Z,Z,Z,Z,Z,Z,Z,Z,Z,Z,Z,Z,Z,Z,Z] rfl rfl (any_of HT_.out (by kernel_rfl)) (fun _ _ _ h=>h) (Or.inl ⟨by rfl,?_⟩) ?_ ?_;rotate_left
          ·intro w';go_simp;with_reducible rfl
          rotate_left
          ·simp only [Act.put,sIb,sZ,sS,i64_w,i32_w];rfl
          refine pure_ (i:=8) (N:=some 37) (v:=?_) (a':=?_) #[Y,Y,Y,Y,Z,Y,Z,Z,Y,Z,Z,Z,Z,Z,Z,Z,Z,Z,Z,Z,Z,Z,Z,Z,Z,Z] rfl rfl (any_of HT_.out (by kernel_rfl)) (fun _ _ _ h=>h) (Or.inl ⟨by rfl,?_⟩) ?_ ?_;rotate_left
          ·intro w';go_simp;with_reducible rfl
          rotate_left
          ·simp only [Act.put,sIb,sZ,sS,i64_w,i32_w];rfl
          refine take_ (i:=4) (N:=some 33) (v:=?_) (a':=?_) #[Y,Y,Y,Y,Y,Y,Z,Z,Y,Z,Z,Z,Z,Z,Z,Z,Z,Z,Z,Z,Z,Z,Z,Z,Z,Z] rfl rfl (take_ofW HT_.out HW_.out (by kernel_rfl)) (fun _ _ _ h=>h) (Or.inl ⟨by rfl,?_⟩) hHeld ?_ ?_;rotate_left
          ·rintro w' ⟨s0,s1⟩;go_simp;with_reducible rfl
          rotate_left
          ·simp only [Act.put,sIb,sZ,sS,i64_w,i32_w];rfl
          refine take_ (i:=7) (N:=some 36) (v:=?_) (a':=?_) #[Y,Y,Y,Y,Y,Y,Z,Y,Y,Z,Z,Z,Z,Z,Z,Z,Z,Z,Z,Z,Z,Z,Z,Z,Z,Z] rfl rfl (take_ofW HT_.out HW_.out (by kernel_rfl)) (fun _ _ _ h=>h) (Or.inl ⟨by rfl,?_⟩) hHeld ?_ ?_;rotate_left
          ·rintro w' ⟨s0,s1⟩;go_simp;with_reducible rfl
          rotate_left
          ·simp only [Act.put,sIb,sZ,sS,i64_w,i32_w];rfl
          refine one_ (i:=6) (N:=some 35) #[Y,Y,Y,Y,Y,Y,Y,Y,Y,Z,Z,Z,Z,Z,Z,Z,Z,Z,Z,Z,Z,Z,Z,Z,Z,Z] rfl rfl (one_of HT_.out (by kernel_rfl)) (by decide) (fun K hK=>?_);refine goes_ Try.func32 (by kernel_rfl) rfl #[.agg #[.slice aq ag.length ar,.slice au ah.length av],.slice dI az.length dJ] (by rfl) rfl rfl (by (try simp only [mT,mC,mN]);first|done|rfl|(simp only [lD,lT];rfl)) ?_;with_reducible refine (spec_l12Cost.calls k1 _ _ ag _ _ ah _ _ az aY _ ?side1 ?side2 ?side3 ?side4 ?side5 ?side6 dt.out).mono ?_
          (case side1=>exact (cB aH.out HB.out));(case side2=>exact aI.out);(case side3=>exact (cB aJ.out HB.out));(case side4=>exact aK.out);(case side5=>exact (Kd.R_reads' ai.out).2.2);(case side6=>exact (Kd.R_reads' ai.out).2.1);rintro e eH ⟨rfl,hb⟩;refine ⟨_,rfl,?_⟩;have ak:=qK (rB ac.out hb);have al:=qK (rB ab.out hb);have aj:=qK (rB ad.out hb);have am:=qK (rB ai.out hb);have ao:=qK (qB (g:=af) (o:=_) (by exact aa.out) hb);have ax:=qK (qT HB.out hb);clear ac ab ad ai aa HB;have ac:=ak;have ab:=al;have ad:=aj;have ai:=am;have aa:=ao;have HB:=ax;clear ak al aj am ao ax;(try clear hb);refine hK.out _ _ ⟨(qC aa.out 0).trans rfl,(qC aa.out 1).trans rfl⟩ (fun hHeld=>?_);clear hK K;refine norm_ (a':=?_) ?_ ?_;rotate_left
          ·show Act.put _ (some 35) _=_
           simp only [Act.put,sIb,sZ,sS,i64_w,i32_w];rfl
          refine one_ (i:=9) (N:=some 38) #[Y,Y,Y,Y,Y,Y,Y,Y,Y,Y,Z,Z,Z,Z,Z,Z,Z,Z,Z,Z,Z,Z,Z,Z,Z,Z] rfl rfl (one_of HT_.out (by kernel_rfl)) (by decide) (fun K hK=>?_);refine goes_ Try.func32 (by kernel_rfl) rfl #[.agg #[.slice aq ag.length ar,.slice au ah.length av],.slice dF ap.length dG] (by rfl) rfl rfl (by (try simp only [mT,mC,mN]);first|done|rfl|(simp only [lD,lT];rfl)) ?_;with_reducible refine (spec_l12Cost.calls k1 _ _ ag _ _ ah _ _ ap aW _ ?side1 ?side2 ?side3 ?side4 ?side5 ?side6 du.out).mono ?_
          (case side1=>exact (cB aH.out HB.out));(case side2=>exact aI.out);(case side3=>exact (cB aJ.out HB.out));(case side4=>exact aK.out);(case side5=>exact (Kd.R_reads' ac.out).2.2);(case side6=>exact (Kd.R_reads' ac.out).2.1);rintro e eI ⟨rfl,hb⟩;refine ⟨_,rfl,?_⟩;have ak:=qK (rB ac.out hb);have al:=qK (rB ab.out hb);have aj:=qK (rB ad.out hb);have am:=qK (rB ai.out hb);have ao:=qK (qB (g:=af) (o:=_) (by exact aa.out) hb);have ax:=qK (qT HB.out hb);clear ac ab ad ai aa HB;have ac:=ak;have ab:=al;have ad:=aj;have ai:=am;have aa:=ao;have HB:=ax;clear ak al aj am ao ax;(try clear hb);refine hK.out _ _ ⟨(qC aa.out 0).trans rfl,(qC aa.out 1).trans rfl⟩ (fun hHeld=>?_);clear hK K;refine norm_ (a':=?_) ?_ ?_;rotate_left
          ·show Act.put _ (some 38) _=_
           simp only [Act.put,sIb,sZ,sS,i64_w,i32_w];rfl
          refine pure_ (i:=10) (N:=some 39) (v:=?_) (a':=?_) #[Y,Y,Y,Y,Y,Y,Y,Y,Y,Y,Y,Z,Z,Z,Z,Z,Z,Z,Z,Z,Z,Z,Z,Z,Z,Z] rfl rfl (any_of HT_.out (by kernel_rfl)) (fun _ _ _ h=>h) (Or.inl ⟨by rfl,?_⟩) ?_ ?_;rotate_left
          ·intro w';go_simp;with_reducible rfl
          rotate_left
          ·simp only [Act.put,sIb,sZ,sS,i64_w,i32_w];rfl
          refine pure_ (i:=11) (N:=some 40) (v:=?_) (a':=?_) #[Y,Y,Y,Y,Y,Y,Y,Y,Y,Y,Y,Y,Z,Z,Z,Z,Z,Z,Z,Z,Z,Z,Z,Z,Z,Z] rfl rfl (any_of HT_.out (by kernel_rfl)) (fun _ _ _ h=>h) (Or.inl ⟨by rfl,?_⟩) ?_ ?_;rotate_left
          ·intro w';go_simp;with_reducible rfl
          rotate_left
          ·simp only [Act.put,sIb,sZ,sS,i64_w,i32_w];rfl
          refine pure_ (i:=12) (N:=some 41) (v:=?_) (a':=?_) #[Y,Y,Y,Y,Y,Y,Y,Y,Y,Y,Y,Y,Y,Z,Z,Z,Z,Z,Z,Z,Z,Z,Z,Z,Z,Z] rfl rfl (any_of HT_.out (by kernel_rfl)) (fun _ _ _ h=>h) (Or.inl ⟨by rfl,?_⟩) ?_ ?_;rotate_left
          ·intro w';go_simp;with_reducible rfl
          rotate_left
          ·simp only [Act.put,sIb,sZ,sS,i64_w,i32_w];rfl
          refine pure_ (i:=13) (N:=some 42) (v:=undef) (a':=?_) #[Y,Y,Y,Y,Y,Y,Y,Y,Y,Y,Y,Y,Y,Y,Z,Z,Z,Z,Z,Z,Z,Z,Z,Z,Z,Z] rfl rfl (any_of HT_.out (by kernel_rfl)) (fun _ _ _ h=>h) (Or.inr ⟨by rfl,rfl⟩) ?_ ?_;rotate_left
          ·simp only [Act.put,sIb,sZ,sS,i64_w,i32_w];rfl
          refine pure_ (i:=14) (N:=some 43) (v:=undef) (a':=?_) #[Y,Y,Y,Y,Y,Y,Y,Y,Y,Y,Y,Y,Y,Y,Y,Z,Z,Z,Z,Z,Z,Z,Z,Z,Z,Z] rfl rfl (any_of HT_.out (by kernel_rfl)) (fun _ _ _ h=>h) (Or.inr ⟨by rfl,rfl⟩) ?_ ?_;rotate_left
          ·simp only [Act.put,sIb,sZ,sS,i64_w,i32_w];rfl
          refine pure_ (i:=15) (N:=some 44) (v:=undef) (a':=?_) #[Y,Y,Y,Y,Y,Y,Y,Y,Y,Y,Y,Y,Y,Y,Y,Y,Z,Z,Z,Z,Z,Z,Z,Z,Z,Z] rfl rfl (any_of HT_.out (by kernel_rfl)) (fun _ _ _ h=>h) (Or.inr ⟨by rfl,rfl⟩) ?_ ?_;rotate_left
          ·simp only [Act.put,sIb,sZ,sS,i64_w,i32_w];rfl
          refine pure_ (i:=16) (N:=some 45) (v:=undef) (a':=?_) #[Y,Y,Y,Y,Y,Y,Y,Y,Y,Y,Y,Y,Y,Y,Y,Y,Y,Z,Z,Z,Z,Z,Z,Z,Z,Z] rfl rfl (any_of HT_.out (by kernel_rfl)) (fun _ _ _ h=>h) (Or.inr ⟨by rfl,rfl⟩) ?_ ?_;rotate_left
          ·simp only [Act.put,sIb,sZ,sS,i64_w,i32_w];rfl
          refine pure_ (i:=17) (N:=some 46) (v:=undef) (a':=?_) #[Y,Y,Y,Y,Y,Y,Y,Y,Y,Y,Y,Y,Y,Y,Y,Y,Y,Y,Z,Z,Z,Z,Z,Z,Z,Z] rfl rfl (any_of HT_.out (by kernel_rfl)) (fun _ _ _ h=>h) (Or.inr ⟨by rfl,rfl⟩) ?_ ?_;rotate_left
          ·simp only [Act.put,sIb,sZ,sS,i64_w,i32_w];rfl
          refine pure_ (i:=18) (N:=some 47) (v:=undef) (a':=?_) #[Y,Y,Y,Y,Y,Y,Y,Y,Y,Y,Y,Y,Y,Y,Y,Y,Y,Y,Y,Z,Z,Z,Z,Z,Z,Z] rfl rfl (any_of HT_.out (by kernel_rfl)) (fun _ _ _ h=>h) (Or.inr ⟨by rfl,rfl⟩) ?_ ?_;rotate_left
          ·simp only [Act.put,sIb,sZ,sS,i64_w,i32_w];rfl
          refine pure_ (i:=19) (N:=some 48) (v:=undef) (a':=?_) #[Y,Y,Y,Y,Y,Y,Y,Y,Y,Y,Y,Y,Y,Y,Y,Y,Y,Y,Y,Y,Z,Z,Z,Z,Z,Z] rfl rfl (any_of HT_.out (by kernel_rfl)) (fun _ _ _ h=>h) (Or.inr ⟨by rfl,rfl⟩) ?_ ?_;rotate_left
          ·simp only [Act.put,sIb,sZ,sS,i64_w,i32_w];rfl
          refine pure_ (i:=20) (N:=some 49) (v:=undef) (a':=?_) #[Y,Y,Y,Y,Y,Y,Y,Y,Y,Y,Y,Y,Y,Y,Y,Y,Y,Y,Y,Y,Y,Z,Z,Z,Z,Z] rfl rfl (any_of HT_.out (by kernel_rfl)) (fun _ _ _ h=>h) (Or.inr ⟨by rfl,rfl⟩) ?_ ?_;rotate_left
          ·simp only [Act.put,sIb,sZ,sS,i64_w,i32_w];rfl
          refine pure_ (i:=21) (N:=some 50) (v:=undef) (a':=?_) #[Y,Y,Y,Y,Y,Y,Y,Y,Y,Y,Y,Y,Y,Y,Y,Y,Y,Y,Y,Y,Y,Y,Z,Z,Z,Z] rfl rfl (any_of HT_.out (by kernel_rfl)) (fun _ _ _ h=>h) (Or.inr ⟨by rfl,rfl⟩) ?_ ?_;rotate_left
          ·simp only [Act.put,sIb,sZ,sS,i64_w,i32_w];rfl
          refine pure_ (i:=22) (N:=some 51) (v:=undef) (a':=?_) #[Y,Y,Y,Y,Y,Y,Y,Y,Y,Y,Y,Y,Y,Y,Y,Y,Y,Y,Y,Y,Y,Y,Y,Z,Z,Z] rfl rfl (any_of HT_.out (by kernel_rfl)) (fun _ _ _ h=>h) (Or.inr ⟨by rfl,rfl⟩) ?_ ?_;rotate_left
          ·simp only [Act.put,sIb,sZ,sS,i64_w,i32_w];rfl
          refine pure_ (i:=23) (N:=some 52) (v:=undef) (a':=?_) #[Y,Y,Y,Y,Y,Y,Y,Y,Y,Y,Y,Y,Y,Y,Y,Y,Y,Y,Y,Y,Y,Y,Y,Y,Z,Z] rfl rfl (any_of HT_.out (by kernel_rfl)) (fun _ _ _ h=>h) (Or.inr ⟨by rfl,rfl⟩) ?_ ?_;rotate_left
          ·simp only [Act.put,sIb,sZ,sS,i64_w,i32_w];rfl
          refine pure_ (i:=24) (N:=some 53) (v:=undef) (a':=?_) #[Y,Y,Y,Y,Y,Y,Y,Y,Y,Y,Y,Y,Y,Y,Y,Y,Y,Y,Y,Y,Y,Y,Y,Y,Y,Z] rfl rfl (any_of HT_.out (by kernel_rfl)) (fun _ _ _ h=>h) (Or.inr ⟨by rfl,rfl⟩) ?_ ?_;rotate_left
          ·simp only [Act.put,sIb,sZ,sS,i64_w,i32_w];rfl
          refine pure_ (i:=25) (N:=some 54) (v:=?_) (a':=?_) #[Y,Y,Y,Y,Y,Y,Y,Y,Y,Y,Y,Y,Y,Y,Y,Y,Y,Y,Y,Y,Y,Y,Y,Y,Y,Y] rfl rfl (any_of HT_.out (by kernel_rfl)) (fun _ _ _ h=>h) (Or.inl ⟨by rfl,?_⟩) ?_ ?_;rotate_left
          ·intro w';go_simp;with_reducible rfl
          rotate_left
          ·simp only [Act.put,sIb,sZ,sS,i64_w,i32_w];rfl
          refine done_ (done_of HT_.out (by kernel_rfl)) ?_;try go_wp2
          go_roundg k1
          case measure=>have:=aZ.out;omega
          case rel=>exact ⟨(az),(wrap64 (ae + 1)),(by rfl),H',⟨by have:=aZ.out;omega⟩,⟨Kd.R_mono ai.out (fun _ hk=>trivial)⟩,⟨aa.out⟩,⟨HB.out⟩⟩
         ·rw [if_neg c30] at H;have cZ:decide (aY < aW)=false:=decide_eq_false c30;clear c30;replace H:=Option.bind_eq_some_iff.mp H;obtain ⟨aQ,dc,H⟩:=H;replace H:((spec_l12Cost.f k1 ag ah ap).bind fun aP=>(if aQ=aP then ((spec_l12Before.f k1 az ap).bind fun aX=>(if aX=true then (spec_l12Best.l0 k1 l1 az l1 (l1.length:Int) (wrap64 (ae + 1)) ag ah) else (spec_l12Best.l0 k1 l1 ap l1 (l1.length:Int) (wrap64 (ae + 1)) ag ah))) else (spec_l12Best.l0 k1 l1 ap l1 (l1.length:Int) (wrap64 (ae + 1)) ag ah)))=some r:=H;have dL:=qK dc;clear dc;replace H:=Option.bind_eq_some_iff.mp H;obtain ⟨aP,dd,H⟩:=H;replace H:(if aQ=aP then ((spec_l12Before.f k1 az ap).bind fun aX=>(if aX=true then (spec_l12Best.l0 k1 l1 az l1 (l1.length:Int) (wrap64 (ae + 1)) ag ah) else (spec_l12Best.l0 k1 l1 ap l1 (l1.length:Int) (wrap64 (ae + 1)) ag ah))) else (spec_l12Best.l0 k1 l1 ap l1 (l1.length:Int) (wrap64 (ae + 1)) ag ah))=some r:=H;have dM:=qK dd;clear dd;by_cases c47:aQ=aP
          ·rw [if_pos c47] at H;have de:(aQ == aP)=true:=beq_iff_eq.mpr c47;have df:(aQ != aP)=false:=bne_eq_false_iff_eq.mpr c47;clear c47;replace H:=Option.bind_eq_some_iff.mp H;obtain ⟨aX,dg,H⟩:=H;replace H:(if aX=true then (spec_l12Best.l0 k1 l1 az l1 (l1.length:Int) (wrap64 (ae + 1)) ag ah) else (spec_l12Best.l0 k1 l1 ap l1 (l1.length:Int) (wrap64 (ae + 1)) ag ah))=some r:=H;have ed:=qK dg;clear dg;by_cases c49:aX=true
           ·subst c49;have H1:(spec_l12Best.l0 k1 l1 az l1 (l1.length:Int) (wrap64 (ae + 1)) ag ah)=some r:=by rw [if_pos rfl] at H;exact H
            clear H;have H:=H1;clear H1;have H':=qK H;clear H;have aU:0≤(ae:Int):=of_decide_eq_true (by assumption);have aV:ae < (l1.length:Int):=of_decide_eq_true (by assumption);obtain ⟨aT,ba,aD⟩:=Kd.at_int bn.out ae aU aV;cases ba
            replace aD:=(HB.out.cell (World.block_lt_of_cell? w _ aD)).trans aD;replace aU:=eq_true aU;replace aV:=eq_true aV;try go_wp2
            (try (rw [drewN_self wr];generalize hq_:World.drewN wr _=wr;have ak:Aside0 (Kd.R (Kd.int .i64) 3 wr w.heap.size (fun _=>True) u5 ap):=⟨by rw [← hq_];exact ac.out⟩;have al:Aside0 (wr.heap[af]?=some (.cells #[.slice aq ag.length ar,.slice au ah.length av] 29 (0,0))):=⟨by rw [← hq_];exact aa.out⟩;have aj:Aside0 (Below w.heap.size w wr):=⟨by rw [← hq_];exact HB.out⟩;clear ac aa HB hq_;have ac:=ak;have aa:=al;have HB:=aj;clear ak al aj));have ak:=qK (rW ac.out);have al:=qK (qW aa.out);have aj:=qK (qO HB.out);clear ac aa HB;have ac:=ak;have aa:=al;have HB:=aj;clear ak al aj;refine start_ (n:=9) (S:=fun w'=>w'.cell? ⟨af,0,none⟩=some (.slice aq ag.length ar)∧w'.cell? ⟨af,1,none⟩=some (.slice au ah.length av)) (ds:=[]) #[Z,Z,Z,Z,Z,Z,Z,Z,Z] (by kernel_rfl) rfl rfl ⟨(qC aa.out 0).trans rfl,(qC aa.out 1).trans rfl⟩ (fun hHeld=>?_);refine with_tabW spec_l12Best.tab7 spec_l12Best.bits7 (fun HT_ HW_=>?_);generalize wr.drew=w50 at ac aa HB hHeld ⊢
            refine pure_ (i:=1) (N:=some 22) (v:=?_) (a':=?_) #[Z,Y,Z,Z,Z,Z,Z,Z,Z] rfl rfl (any_of HT_.out (by kernel_rfl)) (fun _ _ _ h=>h) (Or.inl ⟨by rfl,?_⟩) ?_ ?_;rotate_left
            ·intro w';go_simp;with_reducible rfl
            rotate_left
            ·simp only [Act.put,sIb,sZ,sS,i64_w,i32_w];rfl
            refine pure_ (i:=2) (N:=some 23) (v:=?_) (a':=?_) #[Z,Y,Y,Z,Z,Z,Z,Z,Z] rfl rfl (any_of HT_.out (by kernel_rfl)) (fun _ _ _ h=>h) (Or.inl ⟨by rfl,?_⟩) ?_ ?_;rotate_left
            ·intro w';go_simp;with_reducible rfl
            rotate_left
            ·simp only [Act.put,sIb,sZ,sS,i64_w,i32_w];rfl
            refine pure_ (i:=5) (N:=some 26) (v:=?_) (a':=?_) #[Z,Y,Y,Z,Z,Y,Z,Z,Z] rfl rfl (any_of HT_.out (by kernel_rfl)) (fun _ _ _ h=>h) (Or.inl ⟨by rfl,?_⟩) ?_ ?_;rotate_left
            ·intro w';go_simp;with_reducible rfl
            rotate_left
            ·simp only [Act.put,sIb,sZ,sS,i64_w,i32_w];rfl
            refine take_ (i:=0) (N:=some 21) (v:=?_) (a':=?_) #[Y,Y,Y,Z,Z,Y,Z,Z,Z] rfl rfl (take_ofW HT_.out HW_.out (by kernel_rfl)) (fun _ _ _ h=>h) (Or.inl ⟨by rfl,?_⟩) hHeld ?_ ?_;rotate_left
            ·rintro w' ⟨s0,s1⟩;go_simp;with_reducible rfl
            rotate_left
            ·simp only [Act.put,sIb,sZ,sS,i64_w,i32_w];rfl
            refine join_ (σ:=Value × Value × Value) 2 #[Y,Y,Y,Y,Y,Y,Y,Z,Z] (fun s_=>[(24,s_.1),(25,s_.2.1),(27,s_.2.2)]) (fun s_ w'=>(w'.cell? ⟨af,0,none⟩=some (.slice aq ag.length ar)∧w'.cell? ⟨af,1,none⟩=some (.slice au ah.length av))∧(Kd.R (Kd.int .i64) 3 w' w.heap.size (fun k_=>some k_ ≠ (s_.2.1:Value).ownBlock∧some k_ ≠ (s_.2.2:Value).ownBlock∧some k_ ≠ (u5:Value).ownBlock) s_.1 aw)∧(Kd.R (Kd.int .i64) 3 w' w.heap.size (fun k_=>some k_ ≠ (s_.1:Value).ownBlock∧some k_ ≠ (s_.2.2:Value).ownBlock∧some k_ ≠ (u5:Value).ownBlock) s_.2.1 aN)∧(Kd.R (Kd.int .i64) 3 w' w.heap.size (fun k_=>some k_ ≠ (s_.1:Value).ownBlock∧some k_ ≠ (s_.2.1:Value).ownBlock∧some k_ ≠ (u5:Value).ownBlock) s_.2.2 aM)∧(Kd.R (Kd.int .i64) 3 w' w.heap.size (fun k_=>some k_ ≠ (s_.1:Value).ownBlock∧some k_ ≠ (s_.2.1:Value).ownBlock∧some k_ ≠ (s_.2.2:Value).ownBlock) u5 ap)∧(w'.heap[af]?=some (.cells #[.slice aq ag.length ar,.slice au ah.length av] 29 (0,0)))∧(Below w.heap.size w w')) ?_ ?_;rotate_left
            ·intro hCont;refine two_ (i:=3) (j:=6) (Ni:=some 24) (Nj:=some 27) #[Y,Y,Y,Y,Z,Y,Z,Z,Z] #[Y,Y,Y,Z,Z,Y,Y,Z,Z] rfl rfl rfl rfl (two_of HT_.out (by kernel_rfl)) (by decide) (by decide) (fun K hK=>?_) (fun K hK=>?_)
             ·skip
              refine goes_ Try.func53 (by kernel_rfl) rfl #[.slice (some aT) l1.length c1,.int .i64 (rd l1 ae)] (by rfl) rfl rfl (by (try simp only [mT,mC,mN]);first|done|rfl|(simp only [lD,lT];rfl)) ?_;with_reducible refine (spec_l11Without.calls k1 _ _ l1 (rd l1 ae) aw _ ?side1 ?side2 bY.out).mono ?_
              (case side1=>exact (cB bn.out HB.out));(case side2=>exact bX.out);rintro e er ⟨aE,rfl,ay,hb⟩;refine ⟨_,rfl,?_⟩;have ak:=qK (Kd.R_elder' ac.out (Kd.R_base ay) hb);have al:=qK (Kd.R_lower (Kd.R_new' ay (Kd.R_lt ac.out)) (qZ HB.out));have aj:=qK (qB (g:=af) (o:=_) (by exact aa.out) hb);have am:=qK (qT HB.out hb);clear ac aa HB;have ac:=ak;have ab:=al;have aa:=aj;have HB:=am;clear ak al aj am;(try clear hb);(try clear ay);obtain ⟨dh,di,dN⟩:=Kd.R_slice ab.out;subst dN;refine hK.out _ _ ⟨(qC aa.out 0).trans rfl,(qC aa.out 1).trans rfl⟩ (fun hHeld=>?_);clear hK K;refine norm_ (a':=?_) ?_ ?_;rotate_left
              ·show Act.put _ (some 24) _=_
               simp only [Act.put,sIb,sZ,sS,i64_w,i32_w];rfl
              refine two_ (i:=4) (j:=6) (Ni:=some 25) (Nj:=some 27) #[Y,Y,Y,Y,Y,Y,Z,Z,Z] #[Y,Y,Y,Y,Z,Y,Y,Z,Z] rfl rfl rfl rfl (two_of HT_.out (by kernel_rfl)) (by decide) (by decide) (fun K hK=>?_) (fun K hK=>?_)
              ·skip
               refine goes_ Try.func31 (by kernel_rfl) rfl #[.agg #[.slice aq ag.length ar,.slice au ah.length av],.slice dh aw.length di] (by rfl) rfl rfl (by (try simp only [mT,mC,mN]);first|done|rfl|(simp only [lD,lT];rfl)) ?_;with_reducible refine (ih k1 (by have:=aZ.out;omega) _ _ ag _ _ ah _ _ aw aN _ ?side1 ?side2 ?side3 ?side4 ?side5 ?side6 bp.out).mono ?_
               (case side1=>exact (cB aH.out HB.out));(case side2=>exact aI.out);(case side3=>exact (cB aJ.out HB.out));(case side4=>exact aK.out);(case side5=>exact (Kd.R_reads' ab.out).2.2);(case side6=>exact (Kd.R_reads' ab.out).2.1);rintro e es ⟨aA,rfl,ay,hb⟩;refine ⟨_,rfl,?_⟩;have ak:=qK (Kd.R_elder' ac.out (Kd.R_base ay) hb);have al:=qK (Kd.R_elder' ab.out (Kd.R_base ay) hb);have aj:=qK (Kd.R_lower (Kd.R_new' (Kd.R_new' ay (Kd.R_lt ac.out)) (Kd.R_lt ab.out)) (qZ HB.out));have am:=qK (qB (g:=af) (o:=_) (by exact aa.out) hb);have ao:=qK (qT HB.out hb);clear ac ab aa HB;have ac:=ak;have ab:=al;have an:=aj;have aa:=am;have HB:=ao;clear ak al aj am ao;(try clear hb);(try clear ay);refine hK.out _ _ ⟨(qC aa.out 0).trans rfl,(qC aa.out 1).trans rfl⟩ (fun hHeld=>?_);clear hK K;refine norm_ (a':=?_) ?_ ?_;rotate_left
               ·show Act.put _ (some 25) _=_
                simp only [Act.put,sIb,sZ,sS,i64_w,i32_w];rfl
               refine one_ (i:=6) (N:=some 27) #[Y,Y,Y,Y,Y,Y,Y,Z,Z] rfl rfl (one_of HT_.out (by kernel_rfl)) (by decide) (fun K hK=>?_);refine Kd.R_lit_step (Kd.int .i64) _ 3 ?hg (N:=27) ?hd (xs:=([rd l1 ae]:List Int)) (inner:=[.int .i64 (rd l1 ae)]) (ok:=fun _=>True) (okp:=fun _=>True) ?hr ?hp (fun _ hk=>hk) trivial (Below.refl _ _) (Nat.le_refl _) (by simp) ?_;(case hd=>rfl);(case hg=>rfl);(case hr=>(go_simp;try rfl));(case hp=>exact (Reps.one (show Kd.M (Kd.int .i64) _ _ _ (rd l1 ae) [.int .i64 (rd l1 ae)] from rfl) (Reps.none _ _)));intro aC eJ bk hb hg_ hnew_;clear hg_ hnew_;(first|rw [← aG.out] at bk|(simp only [Int.reduceToNat] at bk;rw [← aG.out] at bk));have ak:=qK (Kd.R_elder' ac.out (Kd.R_base bk) hb);have al:=qK (Kd.R_elder' ab.out (Kd.R_base bk) hb);have aj:=qK (Kd.R_elder' an.out (Kd.R_base bk) hb);have am:=qK (Kd.R_lower (Kd.R_new' (Kd.R_new' (Kd.R_new' bk (Kd.R_lt ac.out)) (Kd.R_lt ab.out)) (Kd.R_lt an.out)) (qZ HB.out));have ao:=qK (qB (g:=af) (o:=_) (by exact aa.out) hb);have ax:=qK (qT HB.out hb);clear ac ab an aa HB;have ac:=ak;have ab:=al;have an:=aj;have ad:=am;have aa:=ao;have HB:=ax;clear ak al aj am ao ax hb bk;refine hK.out _ _ ⟨(qC aa.out 0).trans rfl,(qC aa.out 1).trans rfl⟩ (fun hHeld=>?_);clear hK K;refine norm_ (a':=?_) ?_ ?_;rotate_left
               ·show Act.put _ (some 27) _=_
                simp only [Act.put,sIb,sZ,sS,i64_w,i32_w];rfl
               exact norm_ (by simp only [putAll,Act.put,List.setIfInBounds_toArray,List.set_cons_zero,List.set_cons_succ]) (hCont (.slice dh aw.length di,aA,aC) _ ⟨hHeld,(Kd.R_mono ab.out (fun _ hk=>⟨hk.1.2,⟨hk.2,hk.1.1.2⟩⟩)),(Kd.R_mono an.out (fun _ hk=>⟨hk.1.2,⟨hk.2,hk.1.1.2⟩⟩)),(Kd.R_mono ad.out (fun _ hk=>⟨hk.1.2,⟨hk.2,hk.1.1.2⟩⟩)),(Kd.R_mono ac.out (fun _ hk=>⟨hk.1.1.2,⟨hk.1.2,hk.2⟩⟩)),aa.out,HB.out⟩)
              ·skip
               refine Kd.R_lit_step (Kd.int .i64) _ 3 ?hg (N:=27) ?hd (xs:=([rd l1 ae]:List Int)) (inner:=[.int .i64 (rd l1 ae)]) (ok:=fun _=>True) (okp:=fun _=>True) ?hr ?hp (fun _ hk=>hk) trivial (Below.refl _ _) (Nat.le_refl _) (by simp) ?_;(case hd=>rfl);(case hg=>rfl);(case hr=>(go_simp;try rfl));(case hp=>exact (Reps.one (show Kd.M (Kd.int .i64) _ _ _ (rd l1 ae) [.int .i64 (rd l1 ae)] from rfl) (Reps.none _ _)));intro aC eK bs hb hg_ hnew_;clear hg_ hnew_;(first|rw [← aG.out] at bs|(simp only [Int.reduceToNat] at bs;rw [← aG.out] at bs));have ak:=qK (Kd.R_elder' ac.out (Kd.R_base bs) hb);have al:=qK (Kd.R_elder' ab.out (Kd.R_base bs) hb);have aj:=qK (Kd.R_lower (Kd.R_new' (Kd.R_new' bs (Kd.R_lt ac.out)) (Kd.R_lt ab.out)) (qZ HB.out));have am:=qK (qB (g:=af) (o:=_) (by exact aa.out) hb);have ao:=qK (qT HB.out hb);clear ac ab aa HB;have ac:=ak;have ab:=al;have ad:=aj;have aa:=am;have HB:=ao;clear ak al aj am ao hb bs;obtain ⟨bR,bS,ce⟩:=Kd.R_slice ab.out;(first|subst ce|(injection ce with f1_ f2_ f3_;have ca:=f1_.symm;have cb:=f3_.symm;clear f1_ f2_ f3_;subst ca;subst cb));refine hK.out _ _ ⟨(qC aa.out 0).trans rfl,(qC aa.out 1).trans rfl⟩ (fun hHeld=>?_);clear hK K;refine norm_ (a':=?_) ?_ ?_;rotate_left
               ·show Act.put _ (some 27) _=_
                simp only [Act.put,sIb,sZ,sS,i64_w,i32_w];rfl
               refine one_ (i:=4) (N:=some 25) #[Y,Y,Y,Y,Y,Y,Y,Z,Z] rfl rfl (one_of HT_.out (by kernel_rfl)) (by decide) (fun K hK=>?_);refine goes_ Try.func31 (by kernel_rfl) rfl #[.agg #[.slice aq ag.length ar,.slice au ah.length av],.slice bR aw.length bS] (by rfl) rfl rfl (by (try simp only [mT,mC,mN]);first|done|rfl|(simp only [lD,lT];rfl)) ?_;with_reducible refine (ih k1 (by have:=aZ.out;omega) _ _ ag _ _ ah _ _ aw aN _ ?side1 ?side2 ?side3 ?side4 ?side5 ?side6 bp.out).mono ?_
               (case side1=>exact (cB aH.out HB.out));(case side2=>exact aI.out);(case side3=>exact (cB aJ.out HB.out));(case side4=>exact aK.out);(case side5=>exact (Kd.R_reads' ab.out).2.2);(case side6=>exact (Kd.R_reads' ab.out).2.1);rintro e et ⟨aA,rfl,ay,hb⟩;refine ⟨_,rfl,?_⟩;have ak:=qK (Kd.R_elder' ac.out (Kd.R_base ay) hb);have al:=qK (Kd.R_elder' ab.out (Kd.R_base ay) hb);have aj:=qK (Kd.R_elder' ad.out (Kd.R_base ay) hb);have am:=qK (Kd.R_lower (Kd.R_new' (Kd.R_new' (Kd.R_new' ay (Kd.R_lt ac.out)) (Kd.R_lt ab.out)) (Kd.R_lt ad.out)) (qZ HB.out));have ao:=qK (qB (g:=af) (o:=_) (by exact aa.out) hb);have ax:=qK (qT HB.out hb);clear ac ab ad aa HB;have ac:=ak;have ab:=al;have ad:=aj;have an:=am;have aa:=ao;have HB:=ax;clear ak al aj am ao ax;(try clear hb);(try clear ay);refine hK.out _ _ ⟨(qC aa.out 0).trans rfl,(qC aa.out 1).trans rfl⟩ (fun hHeld=>?_);clear hK K;refine norm_ (a':=?_) ?_ ?_;rotate_left
               ·show Act.put _ (some 25) _=_
                simp only [Act.put,sIb,sZ,sS,i64_w,i32_w];rfl
               exact norm_ (by simp only [putAll,Act.put,List.setIfInBounds_toArray,List.set_cons_zero,List.set_cons_succ]) (hCont (.slice bR aw.length bS,aA,aC) _ ⟨hHeld,(Kd.R_mono ab.out (fun _ hk=>⟨hk.2,⟨hk.1.2,hk.1.1.2⟩⟩)),(Kd.R_mono an.out (fun _ hk=>⟨hk.1.2,⟨hk.2,hk.1.1.2⟩⟩)),(Kd.R_mono ad.out (fun _ hk=>⟨hk.1.2,⟨hk.2,hk.1.1.2⟩⟩)),(Kd.R_mono ac.out (fun _ hk=>⟨hk.1.1.2,⟨hk.2,hk.1.2⟩⟩)),aa.out,HB.out⟩)
             ·skip
              refine Kd.R_lit_step (Kd.int .i64) _ 3 ?hg (N:=27) ?hd (xs:=([rd l1 ae]:List Int)) (inner:=[.int .i64 (rd l1 ae)]) (ok:=fun _=>True) (okp:=fun _=>True) ?hr ?hp (fun _ hk=>hk) trivial (Below.refl _ _) (Nat.le_refl _) (by simp) ?_;(case hd=>rfl);(case hg=>rfl);(case hr=>(go_simp;try rfl));(case hp=>exact (Reps.one (show Kd.M (Kd.int .i64) _ _ _ (rd l1 ae) [.int .i64 (rd l1 ae)] from rfl) (Reps.none _ _)));intro aC er bE hb hg_ hnew_;clear hg_ hnew_;(first|rw [← aG.out] at bE|(simp only [Int.reduceToNat] at bE;rw [← aG.out] at bE));have ak:=qK (Kd.R_elder' ac.out (Kd.R_base bE) hb);have al:=qK (Kd.R_lower (Kd.R_new' bE (Kd.R_lt ac.out)) (qZ HB.out));have aj:=qK (qB (g:=af) (o:=_) (by exact aa.out) hb);have am:=qK (qT HB.out hb);clear ac aa HB;have ac:=ak;have ad:=al;have aa:=aj;have HB:=am;clear ak al aj am hb bE;refine hK.out _ _ ⟨(qC aa.out 0).trans rfl,(qC aa.out 1).trans rfl⟩ (fun hHeld=>?_);clear hK K;refine norm_ (a':=?_) ?_ ?_;rotate_left
              ·show Act.put _ (some 27) _=_
               simp only [Act.put,sIb,sZ,sS,i64_w,i32_w];rfl
              refine one_ (i:=3) (N:=some 24) #[Y,Y,Y,Y,Z,Y,Y,Z,Z] rfl rfl (one_of HT_.out (by kernel_rfl)) (by decide) (fun K hK=>?_);refine goes_ Try.func53 (by kernel_rfl) rfl #[.slice (some aT) l1.length c1,.int .i64 (rd l1 ae)] (by rfl) rfl rfl (by (try simp only [mT,mC,mN]);first|done|rfl|(simp only [lD,lT];rfl)) ?_;with_reducible refine (spec_l11Without.calls k1 _ _ l1 (rd l1 ae) aw _ ?side1 ?side2 bY.out).mono ?_
              (case side1=>exact (cB bn.out HB.out));(case side2=>exact bX.out);rintro e es ⟨aE,rfl,ay,hb⟩;refine ⟨_,rfl,?_⟩;have ak:=qK (Kd.R_elder' ac.out (Kd.R_base ay) hb);have al:=qK (Kd.R_elder' ad.out (Kd.R_base ay) hb);have aj:=qK (Kd.R_lower (Kd.R_new' (Kd.R_new' ay (Kd.R_lt ac.out)) (Kd.R_lt ad.out)) (qZ HB.out));have am:=qK (qB (g:=af) (o:=_) (by exact aa.out) hb);have ao:=qK (qT HB.out hb);clear ac ad aa HB;have ac:=ak;have ad:=al;have ab:=aj;have aa:=am;have HB:=ao;clear ak al aj am ao;(try clear hb);(try clear ay);obtain ⟨bR,bS,ce⟩:=Kd.R_slice ab.out;subst ce;refine hK.out _ _ ⟨(qC aa.out 0).trans rfl,(qC aa.out 1).trans rfl⟩ (fun hHeld=>?_);clear hK K;refine norm_ (a':=?_) ?_ ?_;rotate_left
              ·show Act.put _ (some 24) _=_
               simp only [Act.put,sIb,sZ,sS,i64_w,i32_w];rfl
              refine one_ (i:=4) (N:=some 25) #[Y,Y,Y,Y,Y,Y,Y,Z,Z] rfl rfl (one_of HT_.out (by kernel_rfl)) (by decide) (fun K hK=>?_);refine goes_ Try.func31 (by kernel_rfl) rfl #[.agg #[.slice aq ag.length ar,.slice au ah.length av],.slice bR aw.length bS] (by rfl) rfl rfl (by (try simp only [mT,mC,mN]);first|done|rfl|(simp only [lD,lT];rfl)) ?_;with_reducible refine (ih k1 (by have:=aZ.out;omega) _ _ ag _ _ ah _ _ aw aN _ ?side1 ?side2 ?side3 ?side4 ?side5 ?side6 bp.out).mono ?_
              (case side1=>exact (cB aH.out HB.out));(case side2=>exact aI.out);(case side3=>exact (cB aJ.out HB.out));(case side4=>exact aK.out);(case side5=>exact (Kd.R_reads' ab.out).2.2);(case side6=>exact (Kd.R_reads' ab.out).2.1);rintro e et ⟨aA,rfl,ay,hb⟩;refine ⟨_,rfl,?_⟩;have ak:=qK (Kd.R_elder' ac.out (Kd.R_base ay) hb);have al:=qK (Kd.R_elder' ad.out (Kd.R_base ay) hb);have aj:=qK (Kd.R_elder' ab.out (Kd.R_base ay) hb);have am:=qK (Kd.R_lower (Kd.R_new' (Kd.R_new' (Kd.R_new' ay (Kd.R_lt ac.out)) (Kd.R_lt ad.out)) (Kd.R_lt ab.out)) (qZ HB.out));have ao:=qK (qB (g:=af) (o:=_) (by exact aa.out) hb);have ax:=qK (qT HB.out hb);clear ac ad ab aa HB;have ac:=ak;have ad:=al;have ab:=aj;have an:=am;have aa:=ao;have HB:=ax;clear ak al aj am ao ax;(try clear hb);(try clear ay);refine hK.out _ _ ⟨(qC aa.out 0).trans rfl,(qC aa.out 1).trans rfl⟩ (fun hHeld=>?_);clear hK K;refine norm_ (a':=?_) ?_ ?_;rotate_left
              ·show Act.put _ (some 25) _=_
               simp only [Act.put,sIb,sZ,sS,i64_w,i32_w];rfl
              exact norm_ (by simp only [putAll,Act.put,List.setIfInBounds_toArray,List.set_cons_zero,List.set_cons_succ]) (hCont (.slice bR aw.length bS,aA,aC) _ ⟨hHeld,(Kd.R_mono ab.out (fun _ hk=>⟨hk.2,⟨hk.1.2,hk.1.1.2⟩⟩)),(Kd.R_mono an.out (fun _ hk=>⟨hk.2,⟨hk.1.2,hk.1.1.2⟩⟩)),(Kd.R_mono ad.out (fun _ hk=>⟨hk.1.2,⟨hk.2,hk.1.1.2⟩⟩)),(Kd.R_mono ac.out (fun _ hk=>⟨hk.1.2,⟨hk.2,hk.1.1.2⟩⟩)),aa.out,HB.out⟩)
            rintro ⟨aE,aA,aC⟩ ck ⟨hS_,bv,bw,bx,bz,bA,bB⟩;have ak:Aside0 (Kd.R (Kd.int .i64) 3 ck w.heap.size (fun k_=>some k_ ≠ (aA:Value).ownBlock∧some k_ ≠ (aC:Value).ownBlock∧some k_ ≠ (u5:Value).ownBlock) aE aw):=⟨bv⟩;have al:Aside0 (Kd.R (Kd.int .i64) 3 ck w.heap.size (fun k_=>some k_ ≠ (aE:Value).ownBlock∧some k_ ≠ (aC:Value).ownBlock∧some k_ ≠ (u5:Value).ownBlock) aA aN):=⟨bw⟩;have aj:Aside0 (Kd.R (Kd.int .i64) 3 ck w.heap.size (fun k_=>some k_ ≠ (aE:Value).ownBlock∧some k_ ≠ (aA:Value).ownBlock∧some k_ ≠ (u5:Value).ownBlock) aC aM):=⟨bx⟩;have am:Aside0 (Kd.R (Kd.int .i64) 3 ck w.heap.size (fun k_=>some k_ ≠ (aE:Value).ownBlock∧some k_ ≠ (aA:Value).ownBlock∧some k_ ≠ (aC:Value).ownBlock) u5 ap):=⟨bz⟩;have ao:Aside0 (ck.heap[af]?=some (.cells #[.slice aq ag.length ar,.slice au ah.length av] 29 (0,0))):=⟨bA⟩;have ax:Aside0 (Below w.heap.size w ck):=⟨bB⟩;clear ac aa HB bv bw bx bz bA bB;have ab:=ak;have an:=al;have ad:=aj;have ac:=am;have aa:=ao;have HB:=ax;clear ak al aj am ao ax;have hHeld:ck.cell? ⟨af,0,none⟩=some (.slice aq ag.length ar)∧ck.cell? ⟨af,1,none⟩=some (.slice au ah.length av):=hS_;obtain ⟨cr,ct,dO⟩:=Kd.R_slice ad.out;subst dO;refine norm_ (a':=?_) ?_ ?_;rotate_left
            ·simp only [putAll,Act.put,List.setIfInBounds_toArray,List.set_cons_zero,List.set_cons_succ];rfl
            refine one_ (i:=7) (N:=some 28) #[Y,Y,Y,Y,Y,Y,Y,Y,Z] rfl rfl (one_of HT_.out (by kernel_rfl)) (by decide) (fun K hK=>?_);refine Kd.R_append_rows_step (Kd.int .i64) (w0:=w) w.heap.size (by rfl) (.tmp 25) (.tmp 27) 22 3 (.int .i64 0) 8 rfl Try.underlying22 info3 rfl (by decide) (by omega) aA aN aM _ _ _ (fun k_=>some k_ ≠ (u5:Value).ownBlock∧some k_ ≠ (aE:Value).ownBlock∧some k_ ≠ (.slice cr aM.length ct:Value).ownBlock) (fun _=>False) rfl rfl ?aO ?aR (fun _ _ h=>h) (fun _ h=>h.elim) ?aF ?aB ?aS ?aL ?_;(case aR=>repeat (first|exact (Kd.R_reads' ad.out).2.2|(with_reducible first|refine cL ?_ _|refine cN ?_ _|refine cW ?_)));(case aB=>exact HB.out);(case aF=>exact (fun k_ hk=>⟨Kd.fresh' (Kd.R_lt ac.out) k_ hk,Kd.fresh' (Kd.R_lt ab.out) k_ hk,Kd.fresh' (Kd.R_lt ad.out) k_ hk⟩));(case aO=>exact (Kd.R_mono an.out (fun _ hk=>⟨hk.2.2,⟨hk.1,hk.2.1⟩⟩)));(case aS=>exact (qZ HB.out));(case aL=>have:=bf.out;omega);intro cc eu ho hb hg hat;rw [← bh.out] at ho;have ak:=qK (Kd.R_after (ok:=(fun k_=>some k_ ≠ (aE:Value).ownBlock∧some k_ ≠ (.slice cr aM.length ct:Value).ownBlock)) (Kd.R_mono ac.out (fun _ hk=>⟨⟨hk.1,hk.2.2⟩,hk.2.1⟩)) hg hat);have al:=qK (blk_grown (g:=af) (o:=_) (by exact aa.out) hg (Kd.R_ne an.out aa.out (by decide)));have aj:=qK (Kd.R_after (ok:=(fun k_=>some k_ ≠ (u5:Value).ownBlock∧some k_ ≠ (.slice cr aM.length ct:Value).ownBlock)) (Kd.R_mono ab.out (fun _ hk=>⟨⟨hk.2.2,hk.2.1⟩,hk.1⟩)) hg hat);have am:=qK (Kd.R_after (ok:=(fun k_=>some k_ ≠ (u5:Value).ownBlock∧some k_ ≠ (aE:Value).ownBlock)) (Kd.R_mono ad.out (fun _ hk=>⟨⟨hk.2.2,hk.1⟩,hk.2.1⟩)) hg hat);have ao:=qK (hb);have ax:=qK (ho);clear ac aa ab ad HB an;have ac:=ak;have aa:=al;have ab:=aj;have ad:=am;have HB:=ao;have ai:=ax;clear ak al aj am ao ax ho hb hg hat;refine hK.out _ _ ⟨(qC aa.out 0).trans rfl,(qC aa.out 1).trans rfl⟩ (fun hHeld=>?_);clear hK K;refine norm_ (a':=?_) ?_ ?_;rotate_left
            ·show Act.put _ (some 28) _=_
             simp only [Act.put,sIb,sZ,sS,i64_w,i32_w];rfl
            refine pure_ (i:=8) (N:=some 8) (v:=?_) (a':=?_) #[Y,Y,Y,Y,Y,Y,Y,Y,Y] rfl rfl (any_of HT_.out (by kernel_rfl)) (fun _ _ _ h=>h) (Or.inl ⟨by rfl,?_⟩) ?_ ?_;rotate_left
            ·intro w';go_simp;with_reducible rfl
            rotate_left
            ·simp only [Act.put,sIb,sZ,sS,i64_w,i32_w];rfl
            refine done_ (done_of HT_.out (by kernel_rfl)) ?_;try go_wp2
            have ak:=qK (rW ac.out);have al:=qK (rW ab.out);have aj:=qK (rW ad.out);have am:=qK (rW ai.out);have ao:=qK (qW aa.out);have ax:=qK (qO HB.out);clear ac ab ad ai aa HB;have ac:=ak;have ab:=al;have ad:=aj;have ai:=am;have aa:=ao;have HB:=ax;clear ak al aj am ao ax;obtain ⟨cu,cv,dP⟩:=Kd.R_slice ac.out;subst dP;obtain ⟨cw,cx,dQ⟩:=Kd.R_slice ai.out;subst dQ;refine start_ (n:=26) (S:=fun w'=>w'.cell? ⟨af,0,none⟩=some (.slice aq ag.length ar)∧w'.cell? ⟨af,1,none⟩=some (.slice au ah.length av)) (ds:=[]) #[Z,Z,Z,Z,Z,Z,Z,Z,Z,Z,Z,Z,Z,Z,Z,Z,Z,Z,Z,Z,Z,Z,Z,Z,Z,Z] (by kernel_rfl) rfl rfl ⟨(qC aa.out 0).trans rfl,(qC aa.out 1).trans rfl⟩ (fun hHeld=>?_);refine with_tabW spec_l12Best.tab8 spec_l12Best.bits8 (fun HT_ HW_=>?_);generalize eu.drew=w59 at ac ab ad ai aa HB hHeld ⊢
            refine pure_ (i:=0) (N:=some 29) (v:=?_) (a':=?_) #[Y,Z,Z,Z,Z,Z,Z,Z,Z,Z,Z,Z,Z,Z,Z,Z,Z,Z,Z,Z,Z,Z,Z,Z,Z,Z] rfl rfl (any_of HT_.out (by kernel_rfl)) (fun _ _ _ h=>h) (Or.inl ⟨by rfl,?_⟩) ?_ ?_;rotate_left
            ·intro w';go_simp;with_reducible rfl
            rotate_left
            ·simp only [Act.put,sIb,sZ,sS,i64_w,i32_w];rfl
            refine pure_ (i:=1) (N:=some 30) (v:=?_) (a':=?_) #[Y,Y,Z,Z,Z,Z,Z,Z,Z,Z,Z,Z,Z,Z,Z,Z,Z,Z,Z,Z,Z,Z,Z,Z,Z,Z] rfl rfl (any_of HT_.out (by kernel_rfl)) (fun _ _ _ h=>h) (Or.inl ⟨by rfl,?_⟩) ?_ ?_;rotate_left
            ·intro w';go_simp;with_reducible rfl
            rotate_left
            ·simp only [Act.put,sIb,sZ,sS,i64_w,i32_w];rfl
            refine pure_ (i:=2) (N:=some 31) (v:=?_) (a':=?_) #[Y,Y,Y,Z,Z,Z,Z,Z,Z,Z,Z,Z,Z,Z,Z,Z,Z,Z,Z,Z,Z,Z,Z,Z,Z,Z] rfl rfl (any_of HT_.out (by kernel_rfl)) (fun _ _ _ h=>h) (Or.inl ⟨by rfl,?_⟩) ?_ ?_;rotate_left
            ·intro w';go_simp;with_reducible rfl
            rotate_left
            ·simp only [Act.put,sIb,sZ,sS,i64_w,i32_w];rfl
            refine pure_ (i:=3) (N:=some 32) (v:=?_) (a':=?_) #[Y,Y,Y,Y,Z,Z,Z,Z,Z,Z,Z,Z,Z,Z,Z,Z,Z,Z,Z,Z,Z,Z,Z,Z,Z,Z] rfl rfl (any_of HT_.out (by kernel_rfl)) (fun _ _ _ h=>h) (Or.inl ⟨by rfl,?_⟩) ?_ ?_;rotate_left
            ·intro w';go_simp;with_reducible rfl
            rotate_left
            ·simp only [Act.put,sIb,sZ,sS,i64_w,i32_w];rfl
            refine pure_ (i:=5) (N:=some 34) (v:=?_) (a':=?_) #[Y,Y,Y,Y,Z,Y,Z,Z,Z,Z,Z,Z,Z,Z,Z,Z,Z,Z,Z,Z,Z,Z,Z,Z,Z,Z] rfl rfl (any_of HT_.out (by kernel_rfl)) (fun _ _ _ h=>h) (Or.inl ⟨by rfl,?_⟩) ?_ ?_;rotate_left
            ·intro w';go_simp;with_reducible rfl
            rotate_left
            ·simp only [Act.put,sIb,sZ,sS,i64_w,i32_w];rfl
            refine pure_ (i:=8) (N:=some 37) (v:=?_) (a':=?_) #[Y,Y,Y,Y,Z,Y,Z,Z,Y,Z,Z,Z,Z,Z,Z,Z,Z,Z,Z,Z,Z,Z,Z,Z,Z,Z] rfl rfl (any_of HT_.out (by kernel_rfl)) (fun _ _ _ h=>h) (Or.inl ⟨by rfl,?_⟩) ?_ ?_;rotate_left
            ·intro w';go_simp;with_reducible rfl
            rotate_left
            ·simp only [Act.put,sIb,sZ,sS,i64_w,i32_w];rfl
            refine take_ (i:=4) (N:=some 33) (v:=?_) (a':=?_) #[Y,Y,Y,Y,Y,Y,Z,Z,Y,Z,Z,Z,Z,Z,Z,Z,Z,Z,Z,Z,Z,Z,Z,Z,Z,Z] rfl rfl (take_ofW HT_.out HW_.out (by kernel_rfl)) (fun _ _ _ h=>h) (Or.inl ⟨by rfl,?_⟩) hHeld ?_ ?_;rotate_left
            ·rintro w' ⟨s0,s1⟩;go_simp;with_reducible rfl
            rotate_left
            ·simp only [Act.put,sIb,sZ,sS,i64_w,i32_w];rfl
            refine take_ (i:=7) (N:=some 36) (v:=?_) (a':=?_) #[Y,Y,Y,Y,Y,Y,Z,Y,Y,Z,Z,Z,Z,Z,Z,Z,Z,Z,Z,Z,Z,Z,Z,Z,Z,Z] rfl rfl (take_ofW HT_.out HW_.out (by kernel_rfl)) (fun _ _ _ h=>h) (Or.inl ⟨by rfl,?_⟩) hHeld ?_ ?_;rotate_left
            ·rintro w' ⟨s0,s1⟩;go_simp;with_reducible rfl
            rotate_left
            ·simp only [Act.put,sIb,sZ,sS,i64_w,i32_w];rfl
            refine one_ (i:=6) (N:=some 35) #[Y,Y,Y,Y,Y,Y,Y,Y,Y,Z,Z,Z,Z,Z,Z,Z,Z,Z,Z,Z,Z,Z,Z,Z,Z,Z] rfl rfl (one_of HT_.out (by kernel_rfl)) (by decide) (fun K hK=>?_);refine goes_ Try.func32 (by kernel_rfl) rfl #[.agg #[.slice aq ag.length ar,.slice au ah.length av],.slice cw az.length cx] (by rfl) rfl rfl (by (try simp only [mT,mC,mN]);first|done|rfl|(simp only [lD,lT];rfl)) ?_;with_reducible refine (spec_l12Cost.calls k1 _ _ ag _ _ ah _ _ az aY _ ?side1 ?side2 ?side3 ?side4 ?side5 ?side6 dt.out).mono ?_
            (case side1=>exact (cB aH.out HB.out));(case side2=>exact aI.out);(case side3=>exact (cB aJ.out HB.out));(case side4=>exact aK.out);(case side5=>exact (Kd.R_reads' ai.out).2.2);(case side6=>exact (Kd.R_reads' ai.out).2.1);rintro e eL ⟨rfl,hb⟩;refine ⟨_,rfl,?_⟩;have ak:=qK (rB ac.out hb);have al:=qK (rB ab.out hb);have aj:=qK (rB ad.out hb);have am:=qK (rB ai.out hb);have ao:=qK (qB (g:=af) (o:=_) (by exact aa.out) hb);have ax:=qK (qT HB.out hb);clear ac ab ad ai aa HB;have ac:=ak;have ab:=al;have ad:=aj;have ai:=am;have aa:=ao;have HB:=ax;clear ak al aj am ao ax;(try clear hb);refine hK.out _ _ ⟨(qC aa.out 0).trans rfl,(qC aa.out 1).trans rfl⟩ (fun hHeld=>?_);clear hK K;refine norm_ (a':=?_) ?_ ?_;rotate_left
            ·show Act.put _ (some 35) _=_
             simp only [Act.put,sIb,sZ,sS,i64_w,i32_w];rfl
            refine one_ (i:=9) (N:=some 38) #[Y,Y,Y,Y,Y,Y,Y,Y,Y,Y,Z,Z,Z,Z,Z,Z,Z,Z,Z,Z,Z,Z,Z,Z,Z,Z] rfl rfl (one_of HT_.out (by kernel_rfl)) (by decide) (fun K hK=>?_);refine goes_ Try.func32 (by kernel_rfl) rfl #[.agg #[.slice aq ag.length ar,.slice au ah.length av],.slice cu ap.length cv] (by rfl) rfl rfl (by (try simp only [mT,mC,mN]);first|done|rfl|(simp only [lD,lT];rfl)) ?_;with_reducible refine (spec_l12Cost.calls k1 _ _ ag _ _ ah _ _ ap aW _ ?side1 ?side2 ?side3 ?side4 ?side5 ?side6 du.out).mono ?_
            (case side1=>exact (cB aH.out HB.out));(case side2=>exact aI.out);(case side3=>exact (cB aJ.out HB.out));(case side4=>exact aK.out);(case side5=>exact (Kd.R_reads' ac.out).2.2);(case side6=>exact (Kd.R_reads' ac.out).2.1);rintro e eM ⟨rfl,hb⟩;refine ⟨_,rfl,?_⟩;have ak:=qK (rB ac.out hb);have al:=qK (rB ab.out hb);have aj:=qK (rB ad.out hb);have am:=qK (rB ai.out hb);have ao:=qK (qB (g:=af) (o:=_) (by exact aa.out) hb);have ax:=qK (qT HB.out hb);clear ac ab ad ai aa HB;have ac:=ak;have ab:=al;have ad:=aj;have ai:=am;have aa:=ao;have HB:=ax;clear ak al aj am ao ax;(try clear hb);refine hK.out _ _ ⟨(qC aa.out 0).trans rfl,(qC aa.out 1).trans rfl⟩ (fun hHeld=>?_);clear hK K;refine norm_ (a':=?_) ?_ ?_;rotate_left
            ·show Act.put _ (some 38) _=_
             simp only [Act.put,sIb,sZ,sS,i64_w,i32_w];rfl
            refine pure_ (i:=10) (N:=some 39) (v:=?_) (a':=?_) #[Y,Y,Y,Y,Y,Y,Y,Y,Y,Y,Y,Z,Z,Z,Z,Z,Z,Z,Z,Z,Z,Z,Z,Z,Z,Z] rfl rfl (any_of HT_.out (by kernel_rfl)) (fun _ _ _ h=>h) (Or.inl ⟨by rfl,?_⟩) ?_ ?_;rotate_left
            ·intro w';go_simp;with_reducible rfl
            rotate_left
            ·simp only [Act.put,sIb,sZ,sS,i64_w,i32_w];rfl
            refine pure_ (i:=11) (N:=some 40) (v:=?_) (a':=?_) #[Y,Y,Y,Y,Y,Y,Y,Y,Y,Y,Y,Y,Z,Z,Z,Z,Z,Z,Z,Z,Z,Z,Z,Z,Z,Z] rfl rfl (any_of HT_.out (by kernel_rfl)) (fun _ _ _ h=>h) (Or.inl ⟨by rfl,?_⟩) ?_ ?_;rotate_left
            ·intro w';go_simp;with_reducible rfl
            rotate_left
            ·simp only [Act.put,sIb,sZ,sS,i64_w,i32_w];rfl
            refine pure_ (i:=12) (N:=some 41) (v:=?_) (a':=?_) #[Y,Y,Y,Y,Y,Y,Y,Y,Y,Y,Y,Y,Y,Z,Z,Z,Z,Z,Z,Z,Z,Z,Z,Z,Z,Z] rfl rfl (any_of HT_.out (by kernel_rfl)) (fun _ _ _ h=>h) (Or.inl ⟨by rfl,?_⟩) ?_ ?_;rotate_left
            ·intro w';go_simp;with_reducible rfl
            rotate_left
            ·simp only [Act.put,sIb,sZ,sS,i64_w,i32_w];rfl
            refine pure_ (i:=14) (N:=some 43) (v:=?_) (a':=?_) #[Y,Y,Y,Y,Y,Y,Y,Y,Y,Y,Y,Y,Y,Z,Y,Z,Z,Z,Z,Z,Z,Z,Z,Z,Z,Z] rfl rfl (any_of HT_.out (by kernel_rfl)) (fun _ _ _ h=>h) (Or.inl ⟨by rfl,?_⟩) ?_ ?_;rotate_left
            ·intro w';go_simp;with_reducible rfl
            rotate_left
            ·simp only [Act.put,sIb,sZ,sS,i64_w,i32_w];rfl
            refine pure_ (i:=17) (N:=some 46) (v:=?_) (a':=?_) #[Y,Y,Y,Y,Y,Y,Y,Y,Y,Y,Y,Y,Y,Z,Y,Z,Z,Y,Z,Z,Z,Z,Z,Z,Z,Z] rfl rfl (any_of HT_.out (by kernel_rfl)) (fun _ _ _ h=>h) (Or.inl ⟨by rfl,?_⟩) ?_ ?_;rotate_left
            ·intro w';go_simp;with_reducible rfl
            rotate_left
            ·simp only [Act.put,sIb,sZ,sS,i64_w,i32_w];rfl
            refine take_ (i:=13) (N:=some 42) (v:=?_) (a':=?_) #[Y,Y,Y,Y,Y,Y,Y,Y,Y,Y,Y,Y,Y,Y,Y,Z,Z,Y,Z,Z,Z,Z,Z,Z,Z,Z] rfl rfl (take_ofW HT_.out HW_.out (by kernel_rfl)) (fun _ _ _ h=>h) (Or.inl ⟨by rfl,?_⟩) hHeld ?_ ?_;rotate_left
            ·rintro w' ⟨s0,s1⟩;go_simp;with_reducible rfl
            rotate_left
            ·simp only [Act.put,sIb,sZ,sS,i64_w,i32_w];rfl
            refine take_ (i:=16) (N:=some 45) (v:=?_) (a':=?_) #[Y,Y,Y,Y,Y,Y,Y,Y,Y,Y,Y,Y,Y,Y,Y,Z,Y,Y,Z,Z,Z,Z,Z,Z,Z,Z] rfl rfl (take_ofW HT_.out HW_.out (by kernel_rfl)) (fun _ _ _ h=>h) (Or.inl ⟨by rfl,?_⟩) hHeld ?_ ?_;rotate_left
            ·rintro w' ⟨s0,s1⟩;go_simp;with_reducible rfl
            rotate_left
            ·simp only [Act.put,sIb,sZ,sS,i64_w,i32_w];rfl
            refine one_ (i:=15) (N:=some 44) #[Y,Y,Y,Y,Y,Y,Y,Y,Y,Y,Y,Y,Y,Y,Y,Y,Y,Y,Z,Z,Z,Z,Z,Z,Z,Z] rfl rfl (one_of HT_.out (by kernel_rfl)) (by decide) (fun K hK=>?_);refine goes_ Try.func32 (by kernel_rfl) rfl #[.agg #[.slice aq ag.length ar,.slice au ah.length av],.slice cw az.length cx] (by rfl) rfl rfl (by (try simp only [mT,mC,mN]);first|done|rfl|(simp only [lD,lT];rfl)) ?_;with_reducible refine (spec_l12Cost.calls k1 _ _ ag _ _ ah _ _ az aQ _ ?side1 ?side2 ?side3 ?side4 ?side5 ?side6 dL.out).mono ?_
            (case side1=>exact (cB aH.out HB.out));(case side2=>exact aI.out);(case side3=>exact (cB aJ.out HB.out));(case side4=>exact aK.out);(case side5=>exact (Kd.R_reads' ai.out).2.2);(case side6=>exact (Kd.R_reads' ai.out).2.1);rintro e eN ⟨rfl,hb⟩;refine ⟨_,rfl,?_⟩;have ak:=qK (rB ac.out hb);have al:=qK (rB ab.out hb);have aj:=qK (rB ad.out hb);have am:=qK (rB ai.out hb);have ao:=qK (qB (g:=af) (o:=_) (by exact aa.out) hb);have ax:=qK (qT HB.out hb);clear ac ab ad ai aa HB;have ac:=ak;have ab:=al;have ad:=aj;have ai:=am;have aa:=ao;have HB:=ax;clear ak al aj am ao ax;(try clear hb);refine hK.out _ _ ⟨(qC aa.out 0).trans rfl,(qC aa.out 1).trans rfl⟩ (fun hHeld=>?_);clear hK K;refine norm_ (a':=?_) ?_ ?_;rotate_left
            ·show Act.put _ (some 44) _=_
             simp only [Act.put,sIb,sZ,sS,i64_w,i32_w];rfl
            refine one_ (i:=18) (N:=some 47) #[Y,Y,Y,Y,Y,Y,Y,Y,Y,Y,Y,Y,Y,Y,Y,Y,Y,Y,Y,Z,Z,Z,Z,Z,Z,Z] rfl rfl (one_of HT_.out (by kernel_rfl)) (by decide) (fun K hK=>?_);refine goes_ Try.func32 (by kernel_rfl) rfl #[.agg #[.slice aq ag.length ar,.slice au ah.length av],.slice cu ap.length cv] (by rfl) rfl rfl (by (try simp only [mT,mC,mN]);first|done|rfl|(simp only [lD,lT];rfl)) ?_;with_reducible refine (spec_l12Cost.calls k1 _ _ ag _ _ ah _ _ ap aP _ ?side1 ?side2 ?side3 ?side4 ?side5 ?side6 dM.out).mono ?_
            (case side1=>exact (cB aH.out HB.out));(case side2=>exact aI.out);(case side3=>exact (cB aJ.out HB.out));(case side4=>exact aK.out);(case side5=>exact (Kd.R_reads' ac.out).2.2);(case side6=>exact (Kd.R_reads' ac.out).2.1);rintro e eO ⟨rfl,hb⟩;refine ⟨_,rfl,?_⟩;have ak:=qK (rB ac.out hb);have al:=qK (rB ab.out hb);have aj:=qK (rB ad.out hb);have am:=qK (rB ai.out hb);have ao:=qK (qB (g:=af) (o:=_) (by exact aa.out) hb);have ax:=qK (qT HB.out hb);clear ac ab ad ai aa HB;have ac:=ak;have ab:=al;have ad:=aj;have ai:=am;have aa:=ao;have HB:=ax;clear ak al aj am ao ax;(try clear hb);refine hK.out _ _ ⟨(qC aa.out 0).trans rfl,(qC aa.out 1).trans rfl⟩ (fun hHeld=>?_);clear hK K;refine norm_ (a':=?_) ?_ ?_;rotate_left
            ·show Act.put _ (some 47) _=_
             simp only [Act.put,sIb,sZ,sS,i64_w,i32_w];rfl
            refine pure_ (i:=19) (N:=some 48) (v:=?_) (a':=?_) #[Y,Y,Y,Y,Y,Y,Y,Y,Y,Y,Y,Y,Y,Y,Y,Y,Y,Y,Y,Y,Z,Z,Z,Z,Z,Z] rfl rfl (any_of HT_.out (by kernel_rfl)) (fun _ _ _ h=>h) (Or.inl ⟨by rfl,?_⟩) ?_ ?_;rotate_left
            ·intro w';go_simp;with_reducible rfl
            rotate_left
            ·simp only [Act.put,sIb,sZ,sS,i64_w,i32_w];rfl
            refine pure_ (i:=20) (N:=some 49) (v:=?_) (a':=?_) #[Y,Y,Y,Y,Y,Y,Y,Y,Y,Y,Y,Y,Y,Y,Y,Y,Y,Y,Y,Y,Y,Z,Z,Z,Z,Z] rfl rfl (any_of HT_.out (by kernel_rfl)) (fun _ _ _ h=>h) (Or.inl ⟨by rfl,?_⟩) ?_ ?_;rotate_left
            ·intro w';go_simp;with_reducible rfl
            rotate_left
            ·simp only [Act.put,sIb,sZ,sS,i64_w,i32_w];rfl
            refine pure_ (i:=21) (N:=some 50) (v:=?_) (a':=?_) #[Y,Y,Y,Y,Y,Y,Y,Y,Y,Y,Y,Y,Y,Y,Y,Y,Y,Y,Y,Y,Y,Y,Z,Z,Z,Z] rfl rfl (any_of HT_.out (by kernel_rfl)) (fun _ _ _ h=>h) (Or.inl ⟨by rfl,?_⟩) ?_ ?_;rotate_left
            ·intro w';go_simp;with_reducible rfl
            rotate_left
            ·simp only [Act.put,sIb,sZ,sS,i64_w,i32_w];rfl
            refine pure_ (i:=22) (N:=some 51) (v:=?_) (a':=?_) #[Y,Y,Y,Y,Y,Y,Y,Y,Y,Y,Y,Y,Y,Y,Y,Y,Y,Y,Y,Y,Y,Y,Y,Z,Z,Z] rfl rfl (any_of HT_.out (by kernel_rfl)) (fun _ _ _ h=>h) (Or.inl ⟨by rfl,?_⟩) ?_ ?_;rotate_left
            ·intro w';go_simp;with_reducible rfl
            rotate_left
            ·simp only [Act.put,sIb,sZ,sS,i64_w,i32_w];rfl
            refine one_ (i:=23) (N:=some 52) #[Y,Y,Y,Y,Y,Y,Y,Y,Y,Y,Y,Y,Y,Y,Y,Y,Y,Y,Y,Y,Y,Y,Y,Y,Z,Z] rfl rfl (one_of HT_.out (by kernel_rfl)) (by decide) (fun K hK=>?_);refine goes_ Try.func54 (by kernel_rfl) rfl #[.slice cw az.length cx,.slice cu ap.length cv] (by rfl) rfl rfl (by (try simp only [mT,mC,mN]);first|done|rfl|(simp only [lD,lT];rfl)) ?_;with_reducible refine (spec_l12Before.calls k1 _ _ az _ _ ap true _ ?side1 ?side2 ?side3 ?side4 ed.out).mono ?_
            (case side1=>exact (Kd.R_reads' ai.out).2.2);(case side2=>exact (Kd.R_reads' ai.out).2.1);(case side3=>exact (Kd.R_reads' ac.out).2.2);(case side4=>exact (Kd.R_reads' ac.out).2.1);rintro e w' ⟨rfl,⟨nd,rfl⟩⟩;refine ⟨_,rfl,?_⟩;refine hK.out _ _ ⟨(qC aa.out 0).trans rfl,(qC aa.out 1).trans rfl⟩ (fun hHeld=>?_);clear hK K;refine norm_ (a':=?_) ?_ ?_;rotate_left
            ·show Act.put _ (some 52) _=_
             simp only [Act.put,sIb,sZ,sS,i64_w,i32_w];rfl
            refine pure_ (i:=24) (N:=some 53) (v:=?_) (a':=?_) #[Y,Y,Y,Y,Y,Y,Y,Y,Y,Y,Y,Y,Y,Y,Y,Y,Y,Y,Y,Y,Y,Y,Y,Y,Y,Z] rfl rfl (any_of HT_.out (by kernel_rfl)) (fun _ _ _ h=>h) (Or.inl ⟨by rfl,?_⟩) ?_ ?_;rotate_left
            ·intro w';go_simp;with_reducible rfl
            rotate_left
            ·simp only [Act.put,sIb,sZ,sS,i64_w,i32_w];rfl
            refine pure_ (i:=25) (N:=some 54) (v:=?_) (a':=?_) #[Y,Y,Y,Y,Y,Y,Y,Y,Y,Y,Y,Y,Y,Y,Y,Y,Y,Y,Y,Y,Y,Y,Y,Y,Y,Y] rfl rfl (any_of HT_.out (by kernel_rfl)) (fun _ _ _ h=>h) (Or.inl ⟨by rfl,?_⟩) ?_ ?_;rotate_left
            ·intro w';go_simp;with_reducible rfl
            rotate_left
            ·simp only [Act.put,sIb,sZ,sS,i64_w,i32_w];rfl
            refine done_ (done_of HT_.out (by kernel_rfl)) ?_;try go_wp2
            go_roundg k1
            case measure=>have:=aZ.out;omega
            case rel=>exact ⟨(az),(wrap64 (ae + 1)),(by rfl),H',⟨by have:=aZ.out;omega⟩,⟨Kd.R_mono ai.out (fun _ hk=>trivial)⟩,⟨aa.out⟩,⟨by repeat (first|(with_reducible first|exact HB.out|apply qA|apply qD|apply qO|refine qS ?_ bL.out)|exact HB.out)⟩⟩
           ·replace c49:=Bool.eq_false_iff.mpr c49;subst c49;have H1:(spec_l12Best.l0 k1 l1 ap l1 (l1.length:Int) (wrap64 (ae + 1)) ag ah)=some r:=by rw [if_neg (show ¬ (false=true) by decide)] at H;exact H
            clear H;have H:=H1;clear H1;have H':=qK H;clear H;have aU:0≤(ae:Int):=of_decide_eq_true (by assumption);have aV:ae < (l1.length:Int):=of_decide_eq_true (by assumption);obtain ⟨aT,ba,aD⟩:=Kd.at_int bn.out ae aU aV;cases ba
            replace aD:=(HB.out.cell (World.block_lt_of_cell? w _ aD)).trans aD;replace aU:=eq_true aU;replace aV:=eq_true aV;try go_wp2
            (try (rw [drewN_self wr];generalize hq_:World.drewN wr _=wr;have ak:Aside0 (Kd.R (Kd.int .i64) 3 wr w.heap.size (fun _=>True) u5 ap):=⟨by rw [← hq_];exact ac.out⟩;have al:Aside0 (wr.heap[af]?=some (.cells #[.slice aq ag.length ar,.slice au ah.length av] 29 (0,0))):=⟨by rw [← hq_];exact aa.out⟩;have aj:Aside0 (Below w.heap.size w wr):=⟨by rw [← hq_];exact HB.out⟩;clear ac aa HB hq_;have ac:=ak;have aa:=al;have HB:=aj;clear ak al aj));have ak:=qK (rW ac.out);have al:=qK (qW aa.out);have aj:=qK (qO HB.out);clear ac aa HB;have ac:=ak;have aa:=al;have HB:=aj;clear ak al aj;refine start_ (n:=9) (S:=fun w'=>w'.cell? ⟨af,0,none⟩=some (.slice aq ag.length ar)∧w'.cell? ⟨af,1,none⟩=some (.slice au ah.length av)) (ds:=[]) #[Z,Z,Z,Z,Z,Z,Z,Z,Z] (by kernel_rfl) rfl rfl ⟨(qC aa.out 0).trans rfl,(qC aa.out 1).trans rfl⟩ (fun hHeld=>?_);refine with_tabW spec_l12Best.tab7 spec_l12Best.bits7 (fun HT_ HW_=>?_);generalize wr.drew=w66 at ac aa HB hHeld ⊢
            refine pure_ (i:=1) (N:=some 22) (v:=?_) (a':=?_) #[Z,Y,Z,Z,Z,Z,Z,Z,Z] rfl rfl (any_of HT_.out (by kernel_rfl)) (fun _ _ _ h=>h) (Or.inl ⟨by rfl,?_⟩) ?_ ?_;rotate_left
            ·intro w';go_simp;with_reducible rfl
            rotate_left
            ·simp only [Act.put,sIb,sZ,sS,i64_w,i32_w];rfl
            refine pure_ (i:=2) (N:=some 23) (v:=?_) (a':=?_) #[Z,Y,Y,Z,Z,Z,Z,Z,Z] rfl rfl (any_of HT_.out (by kernel_rfl)) (fun _ _ _ h=>h) (Or.inl ⟨by rfl,?_⟩) ?_ ?_;rotate_left
            ·intro w';go_simp;with_reducible rfl
            rotate_left
            ·simp only [Act.put,sIb,sZ,sS,i64_w,i32_w];rfl
            refine pure_ (i:=5) (N:=some 26) (v:=?_) (a':=?_) #[Z,Y,Y,Z,Z,Y,Z,Z,Z] rfl rfl (any_of HT_.out (by kernel_rfl)) (fun _ _ _ h=>h) (Or.inl ⟨by rfl,?_⟩) ?_ ?_;rotate_left
            ·intro w';go_simp;with_reducible rfl
            rotate_left
            ·simp only [Act.put,sIb,sZ,sS,i64_w,i32_w];rfl
            refine take_ (i:=0) (N:=some 21) (v:=?_) (a':=?_) #[Y,Y,Y,Z,Z,Y,Z,Z,Z] rfl rfl (take_ofW HT_.out HW_.out (by kernel_rfl)) (fun _ _ _ h=>h) (Or.inl ⟨by rfl,?_⟩) hHeld ?_ ?_;rotate_left
            ·rintro w' ⟨s0,s1⟩;go_simp;with_reducible rfl
            rotate_left
            ·simp only [Act.put,sIb,sZ,sS,i64_w,i32_w];rfl
            refine join_ (σ:=Value × Value × Value) 2 #[Y,Y,Y,Y,Y,Y,Y,Z,Z] (fun s_=>[(24,s_.1),(25,s_.2.1),(27,s_.2.2)]) (fun s_ w'=>(w'.cell? ⟨af,0,none⟩=some (.slice aq ag.length ar)∧w'.cell? ⟨af,1,none⟩=some (.slice au ah.length av))∧(Kd.R (Kd.int .i64) 3 w' w.heap.size (fun k_=>some k_ ≠ (s_.2.1:Value).ownBlock∧some k_ ≠ (s_.2.2:Value).ownBlock∧some k_ ≠ (u5:Value).ownBlock) s_.1 aw)∧(Kd.R (Kd.int .i64) 3 w' w.heap.size (fun k_=>some k_ ≠ (s_.1:Value).ownBlock∧some k_ ≠ (s_.2.2:Value).ownBlock∧some k_ ≠ (u5:Value).ownBlock) s_.2.1 aN)∧(Kd.R (Kd.int .i64) 3 w' w.heap.size (fun k_=>some k_ ≠ (s_.1:Value).ownBlock∧some k_ ≠ (s_.2.1:Value).ownBlock∧some k_ ≠ (u5:Value).ownBlock) s_.2.2 aM)∧(Kd.R (Kd.int .i64) 3 w' w.heap.size (fun k_=>some k_ ≠ (s_.1:Value).ownBlock∧some k_ ≠ (s_.2.1:Value).ownBlock∧some k_ ≠ (s_.2.2:Value).ownBlock) u5 ap)∧(w'.heap[af]?=some (.cells #[.slice aq ag.length ar,.slice au ah.length av] 29 (0,0)))∧(Below w.heap.size w w')) ?_ ?_;rotate_left
            ·intro hCont;refine two_ (i:=3) (j:=6) (Ni:=some 24) (Nj:=some 27) #[Y,Y,Y,Y,Z,Y,Z,Z,Z] #[Y,Y,Y,Z,Z,Y,Y,Z,Z] rfl rfl rfl rfl (two_of HT_.out (by kernel_rfl)) (by decide) (by decide) (fun K hK=>?_) (fun K hK=>?_)
             ·skip
              refine goes_ Try.func53 (by kernel_rfl) rfl #[.slice (some aT) l1.length c1,.int .i64 (rd l1 ae)] (by rfl) rfl rfl (by (try simp only [mT,mC,mN]);first|done|rfl|(simp only [lD,lT];rfl)) ?_;with_reducible refine (spec_l11Without.calls k1 _ _ l1 (rd l1 ae) aw _ ?side1 ?side2 bY.out).mono ?_
              (case side1=>exact (cB bn.out HB.out));(case side2=>exact bX.out);rintro e ev ⟨aE,rfl,ay,hb⟩;refine ⟨_,rfl,?_⟩;have ak:=qK (Kd.R_elder' ac.out (Kd.R_base ay) hb);have al:=qK (Kd.R_lower (Kd.R_new' ay (Kd.R_lt ac.out)) (qZ HB.out));have aj:=qK (qB (g:=af) (o:=_) (by exact aa.out) hb);have am:=qK (qT HB.out hb);clear ac aa HB;have ac:=ak;have ab:=al;have aa:=aj;have HB:=am;clear ak al aj am;(try clear hb);(try clear ay);obtain ⟨dj,dk,dR⟩:=Kd.R_slice ab.out;subst dR;refine hK.out _ _ ⟨(qC aa.out 0).trans rfl,(qC aa.out 1).trans rfl⟩ (fun hHeld=>?_);clear hK K;refine norm_ (a':=?_) ?_ ?_;rotate_left
              ·show Act.put _ (some 24) _=_
               simp only [Act.put,sIb,sZ,sS,i64_w,i32_w];rfl
              refine two_ (i:=4) (j:=6) (Ni:=some 25) (Nj:=some 27) #[Y,Y,Y,Y,Y,Y,Z,Z,Z] #[Y,Y,Y,Y,Z,Y,Y,Z,Z] rfl rfl rfl rfl (two_of HT_.out (by kernel_rfl)) (by decide) (by decide) (fun K hK=>?_) (fun K hK=>?_)
              ·skip
               refine goes_ Try.func31 (by kernel_rfl) rfl #[.agg #[.slice aq ag.length ar,.slice au ah.length av],.slice dj aw.length dk] (by rfl) rfl rfl (by (try simp only [mT,mC,mN]);first|done|rfl|(simp only [lD,lT];rfl)) ?_;with_reducible refine (ih k1 (by have:=aZ.out;omega) _ _ ag _ _ ah _ _ aw aN _ ?side1 ?side2 ?side3 ?side4 ?side5 ?side6 bp.out).mono ?_
               (case side1=>exact (cB aH.out HB.out));(case side2=>exact aI.out);(case side3=>exact (cB aJ.out HB.out));(case side4=>exact aK.out);(case side5=>exact (Kd.R_reads' ab.out).2.2);(case side6=>exact (Kd.R_reads' ab.out).2.1);rintro e ew ⟨aA,rfl,ay,hb⟩;refine ⟨_,rfl,?_⟩;have ak:=qK (Kd.R_elder' ac.out (Kd.R_base ay) hb);have al:=qK (Kd.R_elder' ab.out (Kd.R_base ay) hb);have aj:=qK (Kd.R_lower (Kd.R_new' (Kd.R_new' ay (Kd.R_lt ac.out)) (Kd.R_lt ab.out)) (qZ HB.out));have am:=qK (qB (g:=af) (o:=_) (by exact aa.out) hb);have ao:=qK (qT HB.out hb);clear ac ab aa HB;have ac:=ak;have ab:=al;have an:=aj;have aa:=am;have HB:=ao;clear ak al aj am ao;(try clear hb);(try clear ay);refine hK.out _ _ ⟨(qC aa.out 0).trans rfl,(qC aa.out 1).trans rfl⟩ (fun hHeld=>?_);clear hK K;refine norm_ (a':=?_) ?_ ?_;rotate_left
               ·show Act.put _ (some 25) _=_
                simp only [Act.put,sIb,sZ,sS,i64_w,i32_w];rfl
               refine one_ (i:=6) (N:=some 27) #[Y,Y,Y,Y,Y,Y,Y,Z,Z] rfl rfl (one_of HT_.out (by kernel_rfl)) (by decide) (fun K hK=>?_);refine Kd.R_lit_step (Kd.int .i64) _ 3 ?hg (N:=27) ?hd (xs:=([rd l1 ae]:List Int)) (inner:=[.int .i64 (rd l1 ae)]) (ok:=fun _=>True) (okp:=fun _=>True) ?hr ?hp (fun _ hk=>hk) trivial (Below.refl _ _) (Nat.le_refl _) (by simp) ?_;(case hd=>rfl);(case hg=>rfl);(case hr=>(go_simp;try rfl));(case hp=>exact (Reps.one (show Kd.M (Kd.int .i64) _ _ _ (rd l1 ae) [.int .i64 (rd l1 ae)] from rfl) (Reps.none _ _)));intro aC eP bl hb hg_ hnew_;clear hg_ hnew_;(first|rw [← aG.out] at bl|(simp only [Int.reduceToNat] at bl;rw [← aG.out] at bl));have ak:=qK (Kd.R_elder' ac.out (Kd.R_base bl) hb);have al:=qK (Kd.R_elder' ab.out (Kd.R_base bl) hb);have aj:=qK (Kd.R_elder' an.out (Kd.R_base bl) hb);have am:=qK (Kd.R_lower (Kd.R_new' (Kd.R_new' (Kd.R_new' bl (Kd.R_lt ac.out)) (Kd.R_lt ab.out)) (Kd.R_lt an.out)) (qZ HB.out));have ao:=qK (qB (g:=af) (o:=_) (by exact aa.out) hb);have ax:=qK (qT HB.out hb);clear ac ab an aa HB;have ac:=ak;have ab:=al;have an:=aj;have ad:=am;have aa:=ao;have HB:=ax;clear ak al aj am ao ax hb bl;refine hK.out _ _ ⟨(qC aa.out 0).trans rfl,(qC aa.out 1).trans rfl⟩ (fun hHeld=>?_);clear hK K;refine norm_ (a':=?_) ?_ ?_;rotate_left
               ·show Act.put _ (some 27) _=_
                simp only [Act.put,sIb,sZ,sS,i64_w,i32_w];rfl
               exact norm_ (by simp only [putAll,Act.put,List.setIfInBounds_toArray,List.set_cons_zero,List.set_cons_succ]) (hCont (.slice dj aw.length dk,aA,aC) _ ⟨hHeld,(Kd.R_mono ab.out (fun _ hk=>⟨hk.1.2,⟨hk.2,hk.1.1.2⟩⟩)),(Kd.R_mono an.out (fun _ hk=>⟨hk.1.2,⟨hk.2,hk.1.1.2⟩⟩)),(Kd.R_mono ad.out (fun _ hk=>⟨hk.1.2,⟨hk.2,hk.1.1.2⟩⟩)),(Kd.R_mono ac.out (fun _ hk=>⟨hk.1.1.2,⟨hk.1.2,hk.2⟩⟩)),aa.out,HB.out⟩)
              ·skip
               refine Kd.R_lit_step (Kd.int .i64) _ 3 ?hg (N:=27) ?hd (xs:=([rd l1 ae]:List Int)) (inner:=[.int .i64 (rd l1 ae)]) (ok:=fun _=>True) (okp:=fun _=>True) ?hr ?hp (fun _ hk=>hk) trivial (Below.refl _ _) (Nat.le_refl _) (by simp) ?_;(case hd=>rfl);(case hg=>rfl);(case hr=>(go_simp;try rfl));(case hp=>exact (Reps.one (show Kd.M (Kd.int .i64) _ _ _ (rd l1 ae) [.int .i64 (rd l1 ae)] from rfl) (Reps.none _ _)));intro aC eQ bt hb hg_ hnew_;clear hg_ hnew_;(first|rw [← aG.out] at bt|(simp only [Int.reduceToNat] at bt;rw [← aG.out] at bt));have ak:=qK (Kd.R_elder' ac.out (Kd.R_base bt) hb);have al:=qK (Kd.R_elder' ab.out (Kd.R_base bt) hb);have aj:=qK (Kd.R_lower (Kd.R_new' (Kd.R_new' bt (Kd.R_lt ac.out)) (Kd.R_lt ab.out)) (qZ HB.out));have am:=qK (qB (g:=af) (o:=_) (by exact aa.out) hb);have ao:=qK (qT HB.out hb);clear ac ab aa HB;have ac:=ak;have ab:=al;have ad:=aj;have aa:=am;have HB:=ao;clear ak al aj am ao hb bt;obtain ⟨bT,bU,cf⟩:=Kd.R_slice ab.out;(first|subst cf|(injection cf with f1_ f2_ f3_;have ca:=f1_.symm;have cb:=f3_.symm;clear f1_ f2_ f3_;subst ca;subst cb));refine hK.out _ _ ⟨(qC aa.out 0).trans rfl,(qC aa.out 1).trans rfl⟩ (fun hHeld=>?_);clear hK K;refine norm_ (a':=?_) ?_ ?_;rotate_left
               ·show Act.put _ (some 27) _=_
                simp only [Act.put,sIb,sZ,sS,i64_w,i32_w];rfl
               refine one_ (i:=4) (N:=some 25) #[Y,Y,Y,Y,Y,Y,Y,Z,Z] rfl rfl (one_of HT_.out (by kernel_rfl)) (by decide) (fun K hK=>?_);refine goes_ Try.func31 (by kernel_rfl) rfl #[.agg #[.slice aq ag.length ar,.slice au ah.length av],.slice bT aw.length bU] (by rfl) rfl rfl (by (try simp only [mT,mC,mN]);first|done|rfl|(simp only [lD,lT];rfl)) ?_;with_reducible refine (ih k1 (by have:=aZ.out;omega) _ _ ag _ _ ah _ _ aw aN _ ?side1 ?side2 ?side3 ?side4 ?side5 ?side6 bp.out).mono ?_
               (case side1=>exact (cB aH.out HB.out));(case side2=>exact aI.out);(case side3=>exact (cB aJ.out HB.out));(case side4=>exact aK.out);(case side5=>exact (Kd.R_reads' ab.out).2.2);(case side6=>exact (Kd.R_reads' ab.out).2.1);rintro e ex ⟨aA,rfl,ay,hb⟩;refine ⟨_,rfl,?_⟩;have ak:=qK (Kd.R_elder' ac.out (Kd.R_base ay) hb);have al:=qK (Kd.R_elder' ab.out (Kd.R_base ay) hb);have aj:=qK (Kd.R_elder' ad.out (Kd.R_base ay) hb);have am:=qK (Kd.R_lower (Kd.R_new' (Kd.R_new' (Kd.R_new' ay (Kd.R_lt ac.out)) (Kd.R_lt ab.out)) (Kd.R_lt ad.out)) (qZ HB.out));have ao:=qK (qB (g:=af) (o:=_) (by exact aa.out) hb);have ax:=qK (qT HB.out hb);clear ac ab ad aa HB;have ac:=ak;have ab:=al;have ad:=aj;have an:=am;have aa:=ao;have HB:=ax;clear ak al aj am ao ax;(try clear hb);(try clear ay);refine hK.out _ _ ⟨(qC aa.out 0).trans rfl,(qC aa.out 1).trans rfl⟩ (fun hHeld=>?_);clear hK K;refine norm_ (a':=?_) ?_ ?_;rotate_left
               ·show Act.put _ (some 25) _=_
                simp only [Act.put,sIb,sZ,sS,i64_w,i32_w];rfl
               exact norm_ (by simp only [putAll,Act.put,List.setIfInBounds_toArray,List.set_cons_zero,List.set_cons_succ]) (hCont (.slice bT aw.length bU,aA,aC) _ ⟨hHeld,(Kd.R_mono ab.out (fun _ hk=>⟨hk.2,⟨hk.1.2,hk.1.1.2⟩⟩)),(Kd.R_mono an.out (fun _ hk=>⟨hk.1.2,⟨hk.2,hk.1.1.2⟩⟩)),(Kd.R_mono ad.out (fun _ hk=>⟨hk.1.2,⟨hk.2,hk.1.1.2⟩⟩)),(Kd.R_mono ac.out (fun _ hk=>⟨hk.1.1.2,⟨hk.2,hk.1.2⟩⟩)),aa.out,HB.out⟩)
             ·skip
              refine Kd.R_lit_step (Kd.int .i64) _ 3 ?hg (N:=27) ?hd (xs:=([rd l1 ae]:List Int)) (inner:=[.int .i64 (rd l1 ae)]) (ok:=fun _=>True) (okp:=fun _=>True) ?hr ?hp (fun _ hk=>hk) trivial (Below.refl _ _) (Nat.le_refl _) (by simp) ?_;(case hd=>rfl);(case hg=>rfl);(case hr=>(go_simp;try rfl));(case hp=>exact (Reps.one (show Kd.M (Kd.int .i64) _ _ _ (rd l1 ae) [.int .i64 (rd l1 ae)] from rfl) (Reps.none _ _)));intro aC ev bF hb hg_ hnew_;clear hg_ hnew_;(first|rw [← aG.out] at bF|(simp only [Int.reduceToNat] at bF;rw [← aG.out] at bF));have ak:=qK (Kd.R_elder' ac.out (Kd.R_base bF) hb);have al:=qK (Kd.R_lower (Kd.R_new' bF (Kd.R_lt ac.out)) (qZ HB.out));have aj:=qK (qB (g:=af) (o:=_) (by exact aa.out) hb);have am:=qK (qT HB.out hb);clear ac aa HB;have ac:=ak;have ad:=al;have aa:=aj;have HB:=am;clear ak al aj am hb bF;refine hK.out _ _ ⟨(qC aa.out 0).trans rfl,(qC aa.out 1).trans rfl⟩ (fun hHeld=>?_);clear hK K;refine norm_ (a':=?_) ?_ ?_;rotate_left
              ·show Act.put _ (some 27) _=_
               simp only [Act.put,sIb,sZ,sS,i64_w,i32_w];rfl
              refine one_ (i:=3) (N:=some 24) #[Y,Y,Y,Y,Z,Y,Y,Z,Z] rfl rfl (one_of HT_.out (by kernel_rfl)) (by decide) (fun K hK=>?_);refine goes_ Try.func53 (by kernel_rfl) rfl #[.slice (some aT) l1.length c1,.int .i64 (rd l1 ae)] (by rfl) rfl rfl (by (try simp only [mT,mC,mN]);first|done|rfl|(simp only [lD,lT];rfl)) ?_;with_reducible refine (spec_l11Without.calls k1 _ _ l1 (rd l1 ae) aw _ ?side1 ?side2 bY.out).mono ?_
              (case side1=>exact (cB bn.out HB.out));(case side2=>exact bX.out);rintro e ew ⟨aE,rfl,ay,hb⟩;refine ⟨_,rfl,?_⟩;have ak:=qK (Kd.R_elder' ac.out (Kd.R_base ay) hb);have al:=qK (Kd.R_elder' ad.out (Kd.R_base ay) hb);have aj:=qK (Kd.R_lower (Kd.R_new' (Kd.R_new' ay (Kd.R_lt ac.out)) (Kd.R_lt ad.out)) (qZ HB.out));have am:=qK (qB (g:=af) (o:=_) (by exact aa.out) hb);have ao:=qK (qT HB.out hb);clear ac ad aa HB;have ac:=ak;have ad:=al;have ab:=aj;have aa:=am;have HB:=ao;clear ak al aj am ao;(try clear hb);(try clear ay);obtain ⟨bT,bU,cf⟩:=Kd.R_slice ab.out;subst cf;refine hK.out _ _ ⟨(qC aa.out 0).trans rfl,(qC aa.out 1).trans rfl⟩ (fun hHeld=>?_);clear hK K;refine norm_ (a':=?_) ?_ ?_;rotate_left
              ·show Act.put _ (some 24) _=_
               simp only [Act.put,sIb,sZ,sS,i64_w,i32_w];rfl
              refine one_ (i:=4) (N:=some 25) #[Y,Y,Y,Y,Y,Y,Y,Z,Z] rfl rfl (one_of HT_.out (by kernel_rfl)) (by decide) (fun K hK=>?_);refine goes_ Try.func31 (by kernel_rfl) rfl #[.agg #[.slice aq ag.length ar,.slice au ah.length av],.slice bT aw.length bU] (by rfl) rfl rfl (by (try simp only [mT,mC,mN]);first|done|rfl|(simp only [lD,lT];rfl)) ?_;with_reducible refine (ih k1 (by have:=aZ.out;omega) _ _ ag _ _ ah _ _ aw aN _ ?side1 ?side2 ?side3 ?side4 ?side5 ?side6 bp.out).mono ?_
              (case side1=>exact (cB aH.out HB.out));(case side2=>exact aI.out);(case side3=>exact (cB aJ.out HB.out));(case side4=>exact aK.out);(case side5=>exact (Kd.R_reads' ab.out).2.2);(case side6=>exact (Kd.R_reads' ab.out).2.1);rintro e ex ⟨aA,rfl,ay,hb⟩;refine ⟨_,rfl,?_⟩;have ak:=qK (Kd.R_elder' ac.out (Kd.R_base ay) hb);have al:=qK (Kd.R_elder' ad.out (Kd.R_base ay) hb);have aj:=qK (Kd.R_elder' ab.out (Kd.R_base ay) hb);have am:=qK (Kd.R_lower (Kd.R_new' (Kd.R_new' (Kd.R_new' ay (Kd.R_lt ac.out)) (Kd.R_lt ad.out)) (Kd.R_lt ab.out)) (qZ HB.out));have ao:=qK (qB (g:=af) (o:=_) (by exact aa.out) hb);have ax:=qK (qT HB.out hb);clear ac ad ab aa HB;have ac:=ak;have ad:=al;have ab:=aj;have an:=am;have aa:=ao;have HB:=ax;clear ak al aj am ao ax;(try clear hb);(try clear ay);refine hK.out _ _ ⟨(qC aa.out 0).trans rfl,(qC aa.out 1).trans rfl⟩ (fun hHeld=>?_);clear hK K;refine norm_ (a':=?_) ?_ ?_;rotate_left
              ·show Act.put _ (some 25) _=_
               simp only [Act.put,sIb,sZ,sS,i64_w,i32_w];rfl
              exact norm_ (by simp only [putAll,Act.put,List.setIfInBounds_toArray,List.set_cons_zero,List.set_cons_succ]) (hCont (.slice bT aw.length bU,aA,aC) _ ⟨hHeld,(Kd.R_mono ab.out (fun _ hk=>⟨hk.2,⟨hk.1.2,hk.1.1.2⟩⟩)),(Kd.R_mono an.out (fun _ hk=>⟨hk.2,⟨hk.1.2,hk.1.1.2⟩⟩)),(Kd.R_mono ad.out (fun _ hk=>⟨hk.1.2,⟨hk.2,hk.1.1.2⟩⟩)),(Kd.R_mono ac.out (fun _ hk=>⟨hk.1.2,⟨hk.2,hk.1.1.2⟩⟩)),aa.out,HB.out⟩)
            rintro ⟨aE,aA,aC⟩ cl ⟨hS_,bv,bw,bx,bz,bA,bB⟩;have ak:Aside0 (Kd.R (Kd.int .i64) 3 cl w.heap.size (fun k_=>some k_ ≠ (aA:Value).ownBlock∧some k_ ≠ (aC:Value).ownBlock∧some k_ ≠ (u5:Value).ownBlock) aE aw):=⟨bv⟩;have al:Aside0 (Kd.R (Kd.int .i64) 3 cl w.heap.size (fun k_=>some k_ ≠ (aE:Value).ownBlock∧some k_ ≠ (aC:Value).ownBlock∧some k_ ≠ (u5:Value).ownBlock) aA aN):=⟨bw⟩;have aj:Aside0 (Kd.R (Kd.int .i64) 3 cl w.heap.size (fun k_=>some k_ ≠ (aE:Value).ownBlock∧some k_ ≠ (aA:Value).ownBlock∧some k_ ≠ (u5:Value).ownBlock) aC aM):=⟨bx⟩;have am:Aside0 (Kd.R (Kd.int .i64) 3 cl w.heap.size (fun k_=>some k_ ≠ (aE:Value).ownBlock∧some k_ ≠ (aA:Value).ownBlock∧some k_ ≠ (aC:Value).ownBlock) u5 ap):=⟨bz⟩;have ao:Aside0 (cl.heap[af]?=some (.cells #[.slice aq ag.length ar,.slice au ah.length av] 29 (0,0))):=⟨bA⟩;have ax:Aside0 (Below w.heap.size w cl):=⟨bB⟩;clear ac aa HB bv bw bx bz bA bB;have ab:=ak;have an:=al;have ad:=aj;have ac:=am;have aa:=ao;have HB:=ax;clear ak al aj am ao ax;have hHeld:cl.cell? ⟨af,0,none⟩=some (.slice aq ag.length ar)∧cl.cell? ⟨af,1,none⟩=some (.slice au ah.length av):=hS_;obtain ⟨cy,cz,dS⟩:=Kd.R_slice ad.out;subst dS;refine norm_ (a':=?_) ?_ ?_;rotate_left
            ·simp only [putAll,Act.put,List.setIfInBounds_toArray,List.set_cons_zero,List.set_cons_succ];rfl
            refine one_ (i:=7) (N:=some 28) #[Y,Y,Y,Y,Y,Y,Y,Y,Z] rfl rfl (one_of HT_.out (by kernel_rfl)) (by decide) (fun K hK=>?_);refine Kd.R_append_rows_step (Kd.int .i64) (w0:=w) w.heap.size (by rfl) (.tmp 25) (.tmp 27) 22 3 (.int .i64 0) 8 rfl Try.underlying22 info3 rfl (by decide) (by omega) aA aN aM _ _ _ (fun k_=>some k_ ≠ (u5:Value).ownBlock∧some k_ ≠ (aE:Value).ownBlock∧some k_ ≠ (.slice cy aM.length cz:Value).ownBlock) (fun _=>False) rfl rfl ?aO ?aR (fun _ _ h=>h) (fun _ h=>h.elim) ?aF ?aB ?aS ?aL ?_;(case aR=>repeat (first|exact (Kd.R_reads' ad.out).2.2|(with_reducible first|refine cL ?_ _|refine cN ?_ _|refine cW ?_)));(case aB=>exact HB.out);(case aF=>exact (fun k_ hk=>⟨Kd.fresh' (Kd.R_lt ac.out) k_ hk,Kd.fresh' (Kd.R_lt ab.out) k_ hk,Kd.fresh' (Kd.R_lt ad.out) k_ hk⟩));(case aO=>exact (Kd.R_mono an.out (fun _ hk=>⟨hk.2.2,⟨hk.1,hk.2.1⟩⟩)));(case aS=>exact (qZ HB.out));(case aL=>have:=bf.out;omega);intro cc ey ho hb hg hat;rw [← bh.out] at ho;have ak:=qK (Kd.R_after (ok:=(fun k_=>some k_ ≠ (aE:Value).ownBlock∧some k_ ≠ (.slice cy aM.length cz:Value).ownBlock)) (Kd.R_mono ac.out (fun _ hk=>⟨⟨hk.1,hk.2.2⟩,hk.2.1⟩)) hg hat);have al:=qK (blk_grown (g:=af) (o:=_) (by exact aa.out) hg (Kd.R_ne an.out aa.out (by decide)));have aj:=qK (Kd.R_after (ok:=(fun k_=>some k_ ≠ (u5:Value).ownBlock∧some k_ ≠ (.slice cy aM.length cz:Value).ownBlock)) (Kd.R_mono ab.out (fun _ hk=>⟨⟨hk.2.2,hk.2.1⟩,hk.1⟩)) hg hat);have am:=qK (Kd.R_after (ok:=(fun k_=>some k_ ≠ (u5:Value).ownBlock∧some k_ ≠ (aE:Value).ownBlock)) (Kd.R_mono ad.out (fun _ hk=>⟨⟨hk.2.2,hk.1⟩,hk.2.1⟩)) hg hat);have ao:=qK (hb);have ax:=qK (ho);clear ac aa ab ad HB an;have ac:=ak;have aa:=al;have ab:=aj;have ad:=am;have HB:=ao;have ai:=ax;clear ak al aj am ao ax ho hb hg hat;refine hK.out _ _ ⟨(qC aa.out 0).trans rfl,(qC aa.out 1).trans rfl⟩ (fun hHeld=>?_);clear hK K;refine norm_ (a':=?_) ?_ ?_;rotate_left
            ·show Act.put _ (some 28) _=_
             simp only [Act.put,sIb,sZ,sS,i64_w,i32_w];rfl
            refine pure_ (i:=8) (N:=some 8) (v:=?_) (a':=?_) #[Y,Y,Y,Y,Y,Y,Y,Y,Y] rfl rfl (any_of HT_.out (by kernel_rfl)) (fun _ _ _ h=>h) (Or.inl ⟨by rfl,?_⟩) ?_ ?_;rotate_left
            ·intro w';go_simp;with_reducible rfl
            rotate_left
            ·simp only [Act.put,sIb,sZ,sS,i64_w,i32_w];rfl
            refine done_ (done_of HT_.out (by kernel_rfl)) ?_;try go_wp2
            have ak:=qK (rW ac.out);have al:=qK (rW ab.out);have aj:=qK (rW ad.out);have am:=qK (rW ai.out);have ao:=qK (qW aa.out);have ax:=qK (qO HB.out);clear ac ab ad ai aa HB;have ac:=ak;have ab:=al;have ad:=aj;have ai:=am;have aa:=ao;have HB:=ax;clear ak al aj am ao ax;obtain ⟨cA,cC,dT⟩:=Kd.R_slice ac.out;subst dT;obtain ⟨cD,cE,dU⟩:=Kd.R_slice ai.out;subst dU;refine start_ (n:=26) (S:=fun w'=>w'.cell? ⟨af,0,none⟩=some (.slice aq ag.length ar)∧w'.cell? ⟨af,1,none⟩=some (.slice au ah.length av)) (ds:=[]) #[Z,Z,Z,Z,Z,Z,Z,Z,Z,Z,Z,Z,Z,Z,Z,Z,Z,Z,Z,Z,Z,Z,Z,Z,Z,Z] (by kernel_rfl) rfl rfl ⟨(qC aa.out 0).trans rfl,(qC aa.out 1).trans rfl⟩ (fun hHeld=>?_);refine with_tabW spec_l12Best.tab8 spec_l12Best.bits8 (fun HT_ HW_=>?_);generalize ey.drew=w75 at ac ab ad ai aa HB hHeld ⊢
            refine pure_ (i:=0) (N:=some 29) (v:=?_) (a':=?_) #[Y,Z,Z,Z,Z,Z,Z,Z,Z,Z,Z,Z,Z,Z,Z,Z,Z,Z,Z,Z,Z,Z,Z,Z,Z,Z] rfl rfl (any_of HT_.out (by kernel_rfl)) (fun _ _ _ h=>h) (Or.inl ⟨by rfl,?_⟩) ?_ ?_;rotate_left
            ·intro w';go_simp;with_reducible rfl
            rotate_left
            ·simp only [Act.put,sIb,sZ,sS,i64_w,i32_w];rfl
            refine pure_ (i:=1) (N:=some 30) (v:=?_) (a':=?_) #[Y,Y,Z,Z,Z,Z,Z,Z,Z,Z,Z,Z,Z,Z,Z,Z,Z,Z,Z,Z,Z,Z,Z,Z,Z,Z] rfl rfl (any_of HT_.out (by kernel_rfl)) (fun _ _ _ h=>h) (Or.inl ⟨by rfl,?_⟩) ?_ ?_;rotate_left
            ·intro w';go_simp;with_reducible rfl
            rotate_left
            ·simp only [Act.put,sIb,sZ,sS,i64_w,i32_w];rfl
            refine pure_ (i:=2) (N:=some 31) (v:=?_) (a':=?_) #[Y,Y,Y,Z,Z,Z,Z,Z,Z,Z,Z,Z,Z,Z,Z,Z,Z,Z,Z,Z,Z,Z,Z,Z,Z,Z] rfl rfl (any_of HT_.out (by kernel_rfl)) (fun _ _ _ h=>h) (Or.inl ⟨by rfl,?_⟩) ?_ ?_;rotate_left
            ·intro w';go_simp;with_reducible rfl
            rotate_left
            ·simp only [Act.put,sIb,sZ,sS,i64_w,i32_w];rfl
            refine pure_ (i:=3) (N:=some 32) (v:=?_) (a':=?_) #[Y,Y,Y,Y,Z,Z,Z,Z,Z,Z,Z,Z,Z,Z,Z,Z,Z,Z,Z,Z,Z,Z,Z,Z,Z,Z] rfl rfl (any_of HT_.out (by kernel_rfl)) (fun _ _ _ h=>h) (Or.inl ⟨by rfl,?_⟩) ?_ ?_;rotate_left
            ·intro w';go_simp;with_reducible rfl
            rotate_left
            ·simp only [Act.put,sIb,sZ,sS,i64_w,i32_w];rfl
            refine pure_ (i:=5) (N:=some 34) (v:=?_) (a':=?_) #[Y,Y,Y,Y,Z,Y,Z,Z,Z,Z,Z,Z,Z,Z,Z,Z,Z,Z,Z,Z,Z,Z,Z,Z,Z,Z] rfl rfl (any_of HT_.out (by kernel_rfl)) (fun _ _ _ h=>h) (Or.inl ⟨by rfl,?_⟩) ?_ ?_;rotate_left
            ·intro w';go_simp;with_reducible rfl
            rotate_left
            ·simp only [Act.put,sIb,sZ,sS,i64_w,i32_w];rfl
            refine pure_ (i:=8) (N:=some 37) (v:=?_) (a':=?_) #[Y,Y,Y,Y,Z,Y,Z,Z,Y,Z,Z,Z,Z,Z,Z,Z,Z,Z,Z,Z,Z,Z,Z,Z,Z,Z] rfl rfl (any_of HT_.out (by kernel_rfl)) (fun _ _ _ h=>h) (Or.inl ⟨by rfl,?_⟩) ?_ ?_;rotate_left
            ·intro w';go_simp;with_reducible rfl
            rotate_left
            ·simp only [Act.put,sIb,sZ,sS,i64_w,i32_w];rfl
            refine take_ (i:=4) (N:=some 33) (v:=?_) (a':=?_) #[Y,Y,Y,Y,Y,Y,Z,Z,Y,Z,Z,Z,Z,Z,Z,Z,Z,Z,Z,Z,Z,Z,Z,Z,Z,Z] rfl rfl (take_ofW HT_.out HW_.out (by kernel_rfl)) (fun _ _ _ h=>h) (Or.inl ⟨by rfl,?_⟩) hHeld ?_ ?_;rotate_left
            ·rintro w' ⟨s0,s1⟩;go_simp;with_reducible rfl
            rotate_left
            ·simp only [Act.put,sIb,sZ,sS,i64_w,i32_w];rfl
            refine take_ (i:=7) (N:=some 36) (v:=?_) (a':=?_) #[Y,Y,Y,Y,Y,Y,Z,Y,Y,Z,Z,Z,Z,Z,Z,Z,Z,Z,Z,Z,Z,Z,Z,Z,Z,Z] rfl rfl (take_ofW HT_.out HW_.out (by kernel_rfl)) (fun _ _ _ h=>h) (Or.inl ⟨by rfl,?_⟩) hHeld ?_ ?_;rotate_left
            ·rintro w' ⟨s0,s1⟩;go_simp;with_reducible rfl
            rotate_left
            ·simp only [Act.put,sIb,sZ,sS,i64_w,i32_w];rfl
            refine one_ (i:=6) (N:=some 35) #[Y,Y,Y,Y,Y,Y,Y,Y,Y,Z,Z,Z,Z,Z,Z,Z,Z,Z,Z,Z,Z,Z,Z,Z,Z,Z] rfl rfl (one_of HT_.out (by kernel_rfl)) (by decide) (fun K hK=>?_);refine goes_ Try.func32 (by kernel_rfl) rfl #[.agg #[.slice aq ag.length ar,.slice au ah.length av],.slice cD az.length cE] (by rfl) rfl rfl (by (try simp only [mT,mC,mN]);first|done|rfl|(simp only [lD,lT];rfl)) ?_;with_reducible refine (spec_l12Cost.calls k1 _ _ ag _ _ ah _ _ az aY _ ?side1 ?side2 ?side3 ?side4 ?side5 ?side6 dt.out).mono ?_
            (case side1=>exact (cB aH.out HB.out));(case side2=>exact aI.out);(case side3=>exact (cB aJ.out HB.out));(case side4=>exact aK.out);(case side5=>exact (Kd.R_reads' ai.out).2.2);(case side6=>exact (Kd.R_reads' ai.out).2.1);rintro e eR ⟨rfl,hb⟩;refine ⟨_,rfl,?_⟩;have ak:=qK (rB ac.out hb);have al:=qK (rB ab.out hb);have aj:=qK (rB ad.out hb);have am:=qK (rB ai.out hb);have ao:=qK (qB (g:=af) (o:=_) (by exact aa.out) hb);have ax:=qK (qT HB.out hb);clear ac ab ad ai aa HB;have ac:=ak;have ab:=al;have ad:=aj;have ai:=am;have aa:=ao;have HB:=ax;clear ak al aj am ao ax;(try clear hb);refine hK.out _ _ ⟨(qC aa.out 0).trans rfl,(qC aa.out 1).trans rfl⟩ (fun hHeld=>?_);clear hK K;refine norm_ (a':=?_) ?_ ?_;rotate_left
            ·show Act.put _ (some 35) _=_
             simp only [Act.put,sIb,sZ,sS,i64_w,i32_w];rfl
            refine one_ (i:=9) (N:=some 38) #[Y,Y,Y,Y,Y,Y,Y,Y,Y,Y,Z,Z,Z,Z,Z,Z,Z,Z,Z,Z,Z,Z,Z,Z,Z,Z] rfl rfl (one_of HT_.out (by kernel_rfl)) (by decide) (fun K hK=>?_);refine goes_ Try.func32 (by kernel_rfl) rfl #[.agg #[.slice aq ag.length ar,.slice au ah.length av],.slice cA ap.length cC] (by rfl) rfl rfl (by (try simp only [mT,mC,mN]);first|done|rfl|(simp only [lD,lT];rfl)) ?_;with_reducible refine (spec_l12Cost.calls k1 _ _ ag _ _ ah _ _ ap aW _ ?side1 ?side2 ?side3 ?side4 ?side5 ?side6 du.out).mono ?_
            (case side1=>exact (cB aH.out HB.out));(case side2=>exact aI.out);(case side3=>exact (cB aJ.out HB.out));(case side4=>exact aK.out);(case side5=>exact (Kd.R_reads' ac.out).2.2);(case side6=>exact (Kd.R_reads' ac.out).2.1);rintro e eS ⟨rfl,hb⟩;refine ⟨_,rfl,?_⟩;have ak:=qK (rB ac.out hb);have al:=qK (rB ab.out hb);have aj:=qK (rB ad.out hb);have am:=qK (rB ai.out hb);have ao:=qK (qB (g:=af) (o:=_) (by exact aa.out) hb);have ax:=qK (qT HB.out hb);clear ac ab ad ai aa HB;have ac:=ak;have ab:=al;have ad:=aj;have ai:=am;have aa:=ao;have HB:=ax;clear ak al aj am ao ax;(try clear hb);refine hK.out _ _ ⟨(qC aa.out 0).trans rfl,(qC aa.out 1).trans rfl⟩ (fun hHeld=>?_);clear hK K;refine norm_ (a':=?_) ?_ ?_;rotate_left
            ·show Act.put _ (some 38) _=_
             simp only [Act.put,sIb,sZ,sS,i64_w,i32_w];rfl
            refine pure_ (i:=10) (N:=some 39) (v:=?_) (a':=?_) #[Y,Y,Y,Y,Y,Y,Y,Y,Y,Y,Y,Z,Z,Z,Z,Z,Z,Z,Z,Z,Z,Z,Z,Z,Z,Z] rfl rfl (any_of HT_.out (by kernel_rfl)) (fun _ _ _ h=>h) (Or.inl ⟨by rfl,?_⟩) ?_ ?_;rotate_left
            ·intro w';go_simp;with_reducible rfl
            rotate_left
            ·simp only [Act.put,sIb,sZ,sS,i64_w,i32_w];rfl
            refine pure_ (i:=11) (N:=some 40) (v:=?_) (a':=?_) #[Y,Y,Y,Y,Y,Y,Y,Y,Y,Y,Y,Y,Z,Z,Z,Z,Z,Z,Z,Z,Z,Z,Z,Z,Z,Z] rfl rfl (any_of HT_.out (by kernel_rfl)) (fun _ _ _ h=>h) (Or.inl ⟨by rfl,?_⟩) ?_ ?_;rotate_left
            ·intro w';go_simp;with_reducible rfl
            rotate_left
            ·simp only [Act.put,sIb,sZ,sS,i64_w,i32_w];rfl
            refine pure_ (i:=12) (N:=some 41) (v:=?_) (a':=?_) #[Y,Y,Y,Y,Y,Y,Y,Y,Y,Y,Y,Y,Y,Z,Z,Z,Z,Z,Z,Z,Z,Z,Z,Z,Z,Z] rfl rfl (any_of HT_.out (by kernel_rfl)) (fun _ _ _ h=>h) (Or.inl ⟨by rfl,?_⟩) ?_ ?_;rotate_left
            ·intro w';go_simp;with_reducible rfl
            rotate_left
            ·simp only [Act.put,sIb,sZ,sS,i64_w,i32_w];rfl
            refine pure_ (i:=14) (N:=some 43) (v:=?_) (a':=?_) #[Y,Y,Y,Y,Y,Y,Y,Y,Y,Y,Y,Y,Y,Z,Y,Z,Z,Z,Z,Z,Z,Z,Z,Z,Z,Z] rfl rfl (any_of HT_.out (by kernel_rfl)) (fun _ _ _ h=>h) (Or.inl ⟨by rfl,?_⟩) ?_ ?_;rotate_left
            ·intro w';go_simp;with_reducible rfl
            rotate_left
            ·simp only [Act.put,sIb,sZ,sS,i64_w,i32_w];rfl
            refine pure_ (i:=17) (N:=some 46) (v:=?_) (a':=?_) #[Y,Y,Y,Y,Y,Y,Y,Y,Y,Y,Y,Y,Y,Z,Y,Z,Z,Y,Z,Z,Z,Z,Z,Z,Z,Z] rfl rfl (any_of HT_.out (by kernel_rfl)) (fun _ _ _ h=>h) (Or.inl ⟨by rfl,?_⟩) ?_ ?_;rotate_left
            ·intro w';go_simp;with_reducible rfl
            rotate_left
            ·simp only [Act.put,sIb,sZ,sS,i64_w,i32_w];rfl
            refine take_ (i:=13) (N:=some 42) (v:=?_) (a':=?_) #[Y,Y,Y,Y,Y,Y,Y,Y,Y,Y,Y,Y,Y,Y,Y,Z,Z,Y,Z,Z,Z,Z,Z,Z,Z,Z] rfl rfl (take_ofW HT_.out HW_.out (by kernel_rfl)) (fun _ _ _ h=>h) (Or.inl ⟨by rfl,?_⟩) hHeld ?_ ?_;rotate_left
            ·rintro w' ⟨s0,s1⟩;go_simp;with_reducible rfl
            rotate_left
            ·simp only [Act.put,sIb,sZ,sS,i64_w,i32_w];rfl
            refine take_ (i:=16) (N:=some 45) (v:=?_) (a':=?_) #[Y,Y,Y,Y,Y,Y,Y,Y,Y,Y,Y,Y,Y,Y,Y,Z,Y,Y,Z,Z,Z,Z,Z,Z,Z,Z] rfl rfl (take_ofW HT_.out HW_.out (by kernel_rfl)) (fun _ _ _ h=>h) (Or.inl ⟨by rfl,?_⟩) hHeld ?_ ?_;rotate_left
            ·rintro w' ⟨s0,s1⟩;go_simp;with_reducible rfl
            rotate_left
            ·simp only [Act.put,sIb,sZ,sS,i64_w,i32_w];rfl
            refine one_ (i:=15) (N:=some 44) #[Y,Y,Y,Y,Y,Y,Y,Y,Y,Y,Y,Y,Y,Y,Y,Y,Y,Y,Z,Z,Z,Z,Z,Z,Z,Z] rfl rfl (one_of HT_.out (by kernel_rfl)) (by decide) (fun K hK=>?_);refine goes_ Try.func32 (by kernel_rfl) rfl #[.agg #[.slice aq ag.length ar,.slice au ah.length av],.slice cD az.length cE] (by rfl) rfl rfl (by (try simp only [mT,mC,mN]);first|done|rfl|(simp only [lD,lT];rfl)) ?_;with_reducible refine (spec_l12Cost.calls k1 _ _ ag _ _ ah _ _ az aQ _ ?side1 ?side2 ?side3 ?side4 ?side5 ?side6 dL.out).mono ?_
            (case side1=>exact (cB aH.out HB.out));(case side2=>exact aI.out);(case side3=>exact (cB aJ.out HB.out));(case side4=>exact aK.out);(case side5=>exact (Kd.R_reads' ai.out).2.2);(case side6=>exact (Kd.R_reads' ai.out).2.1);rintro e eT ⟨rfl,hb⟩;refine ⟨_,rfl,?_⟩;have ak:=qK (rB ac.out hb);have al:=qK (rB ab.out hb);have aj:=qK (rB ad.out hb);have am:=qK (rB ai.out hb);have ao:=qK (qB (g:=af) (o:=_) (by exact aa.out) hb);have ax:=qK (qT HB.out hb);clear ac ab ad ai aa HB;have ac:=ak;have ab:=al;have ad:=aj;have ai:=am;have aa:=ao;have HB:=ax;clear ak al aj am ao ax;(try clear hb);refine hK.out _ _ ⟨(qC aa.out 0).trans rfl,(qC aa.out 1).trans rfl⟩ (fun hHeld=>?_);clear hK K;refine norm_ (a':=?_) ?_ ?_;rotate_left
            ·show Act.put _ (some 44) _=_
             simp only [Act.put,sIb,sZ,sS,i64_w,i32_w];rfl
            refine one_ (i:=18) (N:=some 47) #[Y,Y,Y,Y,Y,Y,Y,Y,Y,Y,Y,Y,Y,Y,Y,Y,Y,Y,Y,Z,Z,Z,Z,Z,Z,Z] rfl rfl (one_of HT_.out (by kernel_rfl)) (by decide) (fun K hK=>?_);refine goes_ Try.func32 (by kernel_rfl) rfl #[.agg #[.slice aq ag.length ar,.slice au ah.length av],.slice cA ap.length cC] (by rfl) rfl rfl (by (try simp only [mT,mC,mN]);first|done|rfl|(simp only [lD,lT];rfl)) ?_;with_reducible refine (spec_l12Cost.calls k1 _ _ ag _ _ ah _ _ ap aP _ ?side1 ?side2 ?side3 ?side4 ?side5 ?side6 dM.out).mono ?_
            (case side1=>exact (cB aH.out HB.out));(case side2=>exact aI.out);(case side3=>exact (cB aJ.out HB.out));(case side4=>exact aK.out);(case side5=>exact (Kd.R_reads' ac.out).2.2);(case side6=>exact (Kd.R_reads' ac.out).2.1);rintro e eU ⟨rfl,hb⟩;refine ⟨_,rfl,?_⟩;have ak:=qK (rB ac.out hb);have al:=qK (rB ab.out hb);have aj:=qK (rB ad.out hb);have am:=qK (rB ai.out hb);have ao:=qK (qB (g:=af) (o:=_) (by exact aa.out) hb);have ax:=qK (qT HB.out hb);clear ac ab ad ai aa HB;have ac:=ak;have ab:=al;have ad:=aj;have ai:=am;have aa:=ao;have HB:=ax;clear ak al aj am ao ax;(try clear hb);refine hK.out _ _ ⟨(qC aa.out 0).trans rfl,(qC aa.out 1).trans rfl⟩ (fun hHeld=>?_);clear hK K;refine norm_ (a':=?_) ?_ ?_;rotate_left
            ·show Act.put _ (some 47) _=_
             simp only [Act.put,sIb,sZ,sS,i64_w,i32_w];rfl
            refine pure_ (i:=19) (N:=some 48) (v:=?_) (a':=?_) #[Y,Y,Y,Y,Y,Y,Y,Y,Y,Y,Y,Y,Y,Y,Y,Y,Y,Y,Y,Y,Z,Z,Z,Z,Z,Z] rfl rfl (any_of HT_.out (by kernel_rfl)) (fun _ _ _ h=>h) (Or.inl ⟨by rfl,?_⟩) ?_ ?_;rotate_left
            ·intro w';go_simp;with_reducible rfl
            rotate_left
            ·simp only [Act.put,sIb,sZ,sS,i64_w,i32_w];rfl
            refine pure_ (i:=20) (N:=some 49) (v:=?_) (a':=?_) #[Y,Y,Y,Y,Y,Y,Y,Y,Y,Y,Y,Y,Y,Y,Y,Y,Y,Y,Y,Y,Y,Z,Z,Z,Z,Z] rfl rfl (any_of HT_.out (by kernel_rfl)) (fun _ _ _ h=>h) (Or.inl ⟨by rfl,?_⟩) ?_ ?_;rotate_left
            ·intro w';go_simp;with_reducible rfl
            rotate_left
            ·simp only [Act.put,sIb,sZ,sS,i64_w,i32_w];rfl
            refine pure_ (i:=21) (N:=some 50) (v:=?_) (a':=?_) #[Y,Y,Y,Y,Y,Y,Y,Y,Y,Y,Y,Y,Y,Y,Y,Y,Y,Y,Y,Y,Y,Y,Z,Z,Z,Z] rfl rfl (any_of HT_.out (by kernel_rfl)) (fun _ _ _ h=>h) (Or.inl ⟨by rfl,?_⟩) ?_ ?_;rotate_left
            ·intro w';go_simp;with_reducible rfl
            rotate_left
            ·simp only [Act.put,sIb,sZ,sS,i64_w,i32_w];rfl
            refine pure_ (i:=22) (N:=some 51) (v:=?_) (a':=?_) #[Y,Y,Y,Y,Y,Y,Y,Y,Y,Y,Y,Y,Y,Y,Y,Y,Y,Y,Y,Y,Y,Y,Y,Z,Z,Z] rfl rfl (any_of HT_.out (by kernel_rfl)) (fun _ _ _ h=>h) (Or.inl ⟨by rfl,?_⟩) ?_ ?_;rotate_left
            ·intro w';go_simp;with_reducible rfl
            rotate_left
            ·simp only [Act.put,sIb,sZ,sS,i64_w,i32_w];rfl
            refine one_ (i:=23) (N:=some 52) #[Y,Y,Y,Y,Y,Y,Y,Y,Y,Y,Y,Y,Y,Y,Y,Y,Y,Y,Y,Y,Y,Y,Y,Y,Z,Z] rfl rfl (one_of HT_.out (by kernel_rfl)) (by decide) (fun K hK=>?_);refine goes_ Try.func54 (by kernel_rfl) rfl #[.slice cD az.length cE,.slice cA ap.length cC] (by rfl) rfl rfl (by (try simp only [mT,mC,mN]);first|done|rfl|(simp only [lD,lT];rfl)) ?_;with_reducible refine (spec_l12Before.calls k1 _ _ az _ _ ap false _ ?side1 ?side2 ?side3 ?side4 ed.out).mono ?_
            (case side1=>exact (Kd.R_reads' ai.out).2.2);(case side2=>exact (Kd.R_reads' ai.out).2.1);(case side3=>exact (Kd.R_reads' ac.out).2.2);(case side4=>exact (Kd.R_reads' ac.out).2.1);rintro e w' ⟨rfl,⟨nd,rfl⟩⟩;refine ⟨_,rfl,?_⟩;refine hK.out _ _ ⟨(qC aa.out 0).trans rfl,(qC aa.out 1).trans rfl⟩ (fun hHeld=>?_);clear hK K;refine norm_ (a':=?_) ?_ ?_;rotate_left
            ·show Act.put _ (some 52) _=_
             simp only [Act.put,sIb,sZ,sS,i64_w,i32_w];rfl
            refine pure_ (i:=24) (N:=some 53) (v:=?_) (a':=?_) #[Y,Y,Y,Y,Y,Y,Y,Y,Y,Y,Y,Y,Y,Y,Y,Y,Y,Y,Y,Y,Y,Y,Y,Y,Y,Z] rfl rfl (any_of HT_.out (by kernel_rfl)) (fun _ _ _ h=>h) (Or.inl ⟨by rfl,?_⟩) ?_ ?_;rotate_left
            ·intro w';go_simp;with_reducible rfl
            rotate_left
            ·simp only [Act.put,sIb,sZ,sS,i64_w,i32_w];rfl
            refine pure_ (i:=25) (N:=some 54) (v:=?_) (a':=?_) #[Y,Y,Y,Y,Y,Y,Y,Y,Y,Y,Y,Y,Y,Y,Y,Y,Y,Y,Y,Y,Y,Y,Y,Y,Y,Y] rfl rfl (any_of HT_.out (by kernel_rfl)) (fun _ _ _ h=>h) (Or.inl ⟨by rfl,?_⟩) ?_ ?_;rotate_left
            ·intro w';go_simp;with_reducible rfl
            rotate_left
            ·simp only [Act.put,sIb,sZ,sS,i64_w,i32_w];rfl
            refine done_ (done_of HT_.out (by kernel_rfl)) ?_;try go_wp2
            go_roundg k1
            case measure=>have:=aZ.out;omega
            case rel=>exact ⟨(ap),(wrap64 (ae + 1)),(by rfl),H',⟨by have:=aZ.out;omega⟩,⟨Kd.R_mono ac.out (fun _ hk=>trivial)⟩,⟨aa.out⟩,⟨by repeat (first|(with_reducible first|exact HB.out|apply qA|apply qD|apply qO|refine qS ?_ bL.out)|exact HB.out)⟩⟩
          ·rw [if_neg c47] at H;have de:(aQ == aP)=false:=beq_eq_false_iff_ne.mpr c47;have df:(aQ != aP)=true:=bne_iff_ne.mpr c47;have H':=qK H;clear H;have aU:0≤(ae:Int):=of_decide_eq_true (by assumption);have aV:ae < (l1.length:Int):=of_decide_eq_true (by assumption);obtain ⟨aT,ba,aD⟩:=Kd.at_int bn.out ae aU aV;cases ba
           replace aD:=(HB.out.cell (World.block_lt_of_cell? w _ aD)).trans aD;replace aU:=eq_true aU;replace aV:=eq_true aV;try go_wp2
           (try (rw [drewN_self wr];generalize hq_:World.drewN wr _=wr;have ak:Aside0 (Kd.R (Kd.int .i64) 3 wr w.heap.size (fun _=>True) u5 ap):=⟨by rw [← hq_];exact ac.out⟩;have al:Aside0 (wr.heap[af]?=some (.cells #[.slice aq ag.length ar,.slice au ah.length av] 29 (0,0))):=⟨by rw [← hq_];exact aa.out⟩;have aj:Aside0 (Below w.heap.size w wr):=⟨by rw [← hq_];exact HB.out⟩;clear ac aa HB hq_;have ac:=ak;have aa:=al;have HB:=aj;clear ak al aj));have ak:=qK (rW ac.out);have al:=qK (qW aa.out);have aj:=qK (qO HB.out);clear ac aa HB;have ac:=ak;have aa:=al;have HB:=aj;clear ak al aj;refine start_ (n:=9) (S:=fun w'=>w'.cell? ⟨af,0,none⟩=some (.slice aq ag.length ar)∧w'.cell? ⟨af,1,none⟩=some (.slice au ah.length av)) (ds:=[]) #[Z,Z,Z,Z,Z,Z,Z,Z,Z] (by kernel_rfl) rfl rfl ⟨(qC aa.out 0).trans rfl,(qC aa.out 1).trans rfl⟩ (fun hHeld=>?_);refine with_tabW spec_l12Best.tab7 spec_l12Best.bits7 (fun HT_ HW_=>?_);generalize wr.drew=w82 at ac aa HB hHeld ⊢
           refine pure_ (i:=1) (N:=some 22) (v:=?_) (a':=?_) #[Z,Y,Z,Z,Z,Z,Z,Z,Z] rfl rfl (any_of HT_.out (by kernel_rfl)) (fun _ _ _ h=>h) (Or.inl ⟨by rfl,?_⟩) ?_ ?_;rotate_left
           ·intro w';go_simp;with_reducible rfl
           rotate_left
           ·simp only [Act.put,sIb,sZ,sS,i64_w,i32_w];rfl
           refine pure_ (i:=2) (N:=some 23) (v:=?_) (a':=?_) #[Z,Y,Y,Z,Z,Z,Z,Z,Z] rfl rfl (any_of HT_.out (by kernel_rfl)) (fun _ _ _ h=>h) (Or.inl ⟨by rfl,?_⟩) ?_ ?_;rotate_left
           ·intro w';go_simp;with_reducible rfl
           rotate_left
           ·simp only [Act.put,sIb,sZ,sS,i64_w,i32_w];rfl
           refine pure_ (i:=5) (N:=some 26) (v:=?_) (a':=?_) #[Z,Y,Y,Z,Z,Y,Z,Z,Z] rfl rfl (any_of HT_.out (by kernel_rfl)) (fun _ _ _ h=>h) (Or.inl ⟨by rfl,?_⟩) ?_ ?_;rotate_left
           ·intro w';go_simp;with_reducible rfl
           rotate_left
           ·simp only [Act.put,sIb,sZ,sS,i64_w,i32_w];rfl
           refine take_ (i:=0) (N:=some 21) (v:=?_) (a':=?_) #[Y,Y,Y,Z,Z,Y,Z,Z,Z] rfl rfl (take_ofW HT_.out HW_.out (by kernel_rfl)) (fun _ _ _ h=>h) (Or.inl ⟨by rfl,?_⟩) hHeld ?_ ?_;rotate_left
           ·rintro w' ⟨s0,s1⟩;go_simp;with_reducible rfl
           rotate_left
           ·simp only [Act.put,sIb,sZ,sS,i64_w,i32_w];rfl
           refine join_ (σ:=Value × Value × Value) 2 #[Y,Y,Y,Y,Y,Y,Y,Z,Z] (fun s_=>[(24,s_.1),(25,s_.2.1),(27,s_.2.2)]) (fun s_ w'=>(w'.cell? ⟨af,0,none⟩=some (.slice aq ag.length ar)∧w'.cell? ⟨af,1,none⟩=some (.slice au ah.length av))∧(Kd.R (Kd.int .i64) 3 w' w.heap.size (fun k_=>some k_ ≠ (s_.2.1:Value).ownBlock∧some k_ ≠ (s_.2.2:Value).ownBlock∧some k_ ≠ (u5:Value).ownBlock) s_.1 aw)∧(Kd.R (Kd.int .i64) 3 w' w.heap.size (fun k_=>some k_ ≠ (s_.1:Value).ownBlock∧some k_ ≠ (s_.2.2:Value).ownBlock∧some k_ ≠ (u5:Value).ownBlock) s_.2.1 aN)∧(Kd.R (Kd.int .i64) 3 w' w.heap.size (fun k_=>some k_ ≠ (s_.1:Value).ownBlock∧some k_ ≠ (s_.2.1:Value).ownBlock∧some k_ ≠ (u5:Value).ownBlock) s_.2.2 aM)∧(Kd.R (Kd.int .i64) 3 w' w.heap.size (fun k_=>some k_ ≠ (s_.1:Value).ownBlock∧some k_ ≠ (s_.2.1:Value).ownBlock∧some k_ ≠ (s_.2.2:Value).ownBlock) u5 ap)∧(w'.heap[af]?=some (.cells #[.slice aq ag.length ar,.slice au ah.length av] 29 (0,0)))∧(Below w.heap.size w w')) ?_ ?_;rotate_left
           ·intro hCont;refine two_ (i:=3) (j:=6) (Ni:=some 24) (Nj:=some 27) #[Y,Y,Y,Y,Z,Y,Z,Z,Z] #[Y,Y,Y,Z,Z,Y,Y,Z,Z] rfl rfl rfl rfl (two_of HT_.out (by kernel_rfl)) (by decide) (by decide) (fun K hK=>?_) (fun K hK=>?_)
            ·skip
             refine goes_ Try.func53 (by kernel_rfl) rfl #[.slice (some aT) l1.length c1,.int .i64 (rd l1 ae)] (by rfl) rfl rfl (by (try simp only [mT,mC,mN]);first|done|rfl|(simp only [lD,lT];rfl)) ?_;with_reducible refine (spec_l11Without.calls k1 _ _ l1 (rd l1 ae) aw _ ?side1 ?side2 bY.out).mono ?_
             (case side1=>exact (cB bn.out HB.out));(case side2=>exact bX.out);rintro e ez ⟨aE,rfl,ay,hb⟩;refine ⟨_,rfl,?_⟩;have ak:=qK (Kd.R_elder' ac.out (Kd.R_base ay) hb);have al:=qK (Kd.R_lower (Kd.R_new' ay (Kd.R_lt ac.out)) (qZ HB.out));have aj:=qK (qB (g:=af) (o:=_) (by exact aa.out) hb);have am:=qK (qT HB.out hb);clear ac aa HB;have ac:=ak;have ab:=al;have aa:=aj;have HB:=am;clear ak al aj am;(try clear hb);(try clear ay);obtain ⟨dl,dm,dV⟩:=Kd.R_slice ab.out;subst dV;refine hK.out _ _ ⟨(qC aa.out 0).trans rfl,(qC aa.out 1).trans rfl⟩ (fun hHeld=>?_);clear hK K;refine norm_ (a':=?_) ?_ ?_;rotate_left
             ·show Act.put _ (some 24) _=_
              simp only [Act.put,sIb,sZ,sS,i64_w,i32_w];rfl
             refine two_ (i:=4) (j:=6) (Ni:=some 25) (Nj:=some 27) #[Y,Y,Y,Y,Y,Y,Z,Z,Z] #[Y,Y,Y,Y,Z,Y,Y,Z,Z] rfl rfl rfl rfl (two_of HT_.out (by kernel_rfl)) (by decide) (by decide) (fun K hK=>?_) (fun K hK=>?_)
             ·skip
              refine goes_ Try.func31 (by kernel_rfl) rfl #[.agg #[.slice aq ag.length ar,.slice au ah.length av],.slice dl aw.length dm] (by rfl) rfl rfl (by (try simp only [mT,mC,mN]);first|done|rfl|(simp only [lD,lT];rfl)) ?_;with_reducible refine (ih k1 (by have:=aZ.out;omega) _ _ ag _ _ ah _ _ aw aN _ ?side1 ?side2 ?side3 ?side4 ?side5 ?side6 bp.out).mono ?_
              (case side1=>exact (cB aH.out HB.out));(case side2=>exact aI.out);(case side3=>exact (cB aJ.out HB.out));(case side4=>exact aK.out);(case side5=>exact (Kd.R_reads' ab.out).2.2);(case side6=>exact (Kd.R_reads' ab.out).2.1);rintro e eA ⟨aA,rfl,ay,hb⟩;refine ⟨_,rfl,?_⟩;have ak:=qK (Kd.R_elder' ac.out (Kd.R_base ay) hb);have al:=qK (Kd.R_elder' ab.out (Kd.R_base ay) hb);have aj:=qK (Kd.R_lower (Kd.R_new' (Kd.R_new' ay (Kd.R_lt ac.out)) (Kd.R_lt ab.out)) (qZ HB.out));have am:=qK (qB (g:=af) (o:=_) (by exact aa.out) hb);have ao:=qK (qT HB.out hb);clear ac ab aa HB;have ac:=ak;have ab:=al;have an:=aj;have aa:=am;have HB:=ao;clear ak al aj am ao;(try clear hb);(try clear ay);refine hK.out _ _ ⟨(qC aa.out 0).trans rfl,(qC aa.out 1).trans rfl⟩ (fun hHeld=>?_);clear hK K;refine norm_ (a':=?_) ?_ ?_;rotate_left
              ·show Act.put _ (some 25) _=_
               simp only [Act.put,sIb,sZ,sS,i64_w,i32_w];rfl
              refine one_ (i:=6) (N:=some 27) #[Y,Y,Y,Y,Y,Y,Y,Z,Z] rfl rfl (one_of HT_.out (by kernel_rfl)) (by decide) (fun K hK=>?_);refine Kd.R_lit_step (Kd.int .i64) _ 3 ?hg (N:=27) ?hd (xs:=([rd l1 ae]:List Int)) (inner:=[.int .i64 (rd l1 ae)]) (ok:=fun _=>True) (okp:=fun _=>True) ?hr ?hp (fun _ hk=>hk) trivial (Below.refl _ _) (Nat.le_refl _) (by simp) ?_;(case hd=>rfl);(case hg=>rfl);(case hr=>(go_simp;try rfl));(case hp=>exact (Reps.one (show Kd.M (Kd.int .i64) _ _ _ (rd l1 ae) [.int .i64 (rd l1 ae)] from rfl) (Reps.none _ _)));intro aC eV bm hb hg_ hnew_;clear hg_ hnew_;(first|rw [← aG.out] at bm|(simp only [Int.reduceToNat] at bm;rw [← aG.out] at bm));have ak:=qK (Kd.R_elder' ac.out (Kd.R_base bm) hb);have al:=qK (Kd.R_elder' ab.out (Kd.R_base bm) hb);have aj:=qK (Kd.R_elder' an.out (Kd.R_base bm) hb);have am:=qK (Kd.R_lower (Kd.R_new' (Kd.R_new' (Kd.R_new' bm (Kd.R_lt ac.out)) (Kd.R_lt ab.out)) (Kd.R_lt an.out)) (qZ HB.out));have ao:=qK (qB (g:=af) (o:=_) (by exact aa.out) hb);have ax:=qK (qT HB.out hb);clear ac ab an aa HB;have ac:=ak;have ab:=al;have an:=aj;have ad:=am;have aa:=ao;have HB:=ax;clear ak al aj am ao ax hb bm;refine hK.out _ _ ⟨(qC aa.out 0).trans rfl,(qC aa.out 1).trans rfl⟩ (fun hHeld=>?_);clear hK K;refine norm_ (a':=?_) ?_ ?_;rotate_left
              ·show Act.put _ (some 27) _=_
               simp only [Act.put,sIb,sZ,sS,i64_w,i32_w];rfl
              exact norm_ (by simp only [putAll,Act.put,List.setIfInBounds_toArray,List.set_cons_zero,List.set_cons_succ]) (hCont (.slice dl aw.length dm,aA,aC) _ ⟨hHeld,(Kd.R_mono ab.out (fun _ hk=>⟨hk.1.2,⟨hk.2,hk.1.1.2⟩⟩)),(Kd.R_mono an.out (fun _ hk=>⟨hk.1.2,⟨hk.2,hk.1.1.2⟩⟩)),(Kd.R_mono ad.out (fun _ hk=>⟨hk.1.2,⟨hk.2,hk.1.1.2⟩⟩)),(Kd.R_mono ac.out (fun _ hk=>⟨hk.1.1.2,⟨hk.1.2,hk.2⟩⟩)),aa.out,HB.out⟩)
             ·skip
              refine Kd.R_lit_step (Kd.int .i64) _ 3 ?hg (N:=27) ?hd (xs:=([rd l1 ae]:List Int)) (inner:=[.int .i64 (rd l1 ae)]) (ok:=fun _=>True) (okp:=fun _=>True) ?hr ?hp (fun _ hk=>hk) trivial (Below.refl _ _) (Nat.le_refl _) (by simp) ?_;(case hd=>rfl);(case hg=>rfl);(case hr=>(go_simp;try rfl));(case hp=>exact (Reps.one (show Kd.M (Kd.int .i64) _ _ _ (rd l1 ae) [.int .i64 (rd l1 ae)] from rfl) (Reps.none _ _)));intro aC eW bu hb hg_ hnew_;clear hg_ hnew_;(first|rw [← aG.out] at bu|(simp only [Int.reduceToNat] at bu;rw [← aG.out] at bu));have ak:=qK (Kd.R_elder' ac.out (Kd.R_base bu) hb);have al:=qK (Kd.R_elder' ab.out (Kd.R_base bu) hb);have aj:=qK (Kd.R_lower (Kd.R_new' (Kd.R_new' bu (Kd.R_lt ac.out)) (Kd.R_lt ab.out)) (qZ HB.out));have am:=qK (qB (g:=af) (o:=_) (by exact aa.out) hb);have ao:=qK (qT HB.out hb);clear ac ab aa HB;have ac:=ak;have ab:=al;have ad:=aj;have aa:=am;have HB:=ao;clear ak al aj am ao hb bu;obtain ⟨bV,bW,cg⟩:=Kd.R_slice ab.out;(first|subst cg|(injection cg with f1_ f2_ f3_;have ca:=f1_.symm;have cb:=f3_.symm;clear f1_ f2_ f3_;subst ca;subst cb));refine hK.out _ _ ⟨(qC aa.out 0).trans rfl,(qC aa.out 1).trans rfl⟩ (fun hHeld=>?_);clear hK K;refine norm_ (a':=?_) ?_ ?_;rotate_left
              ·show Act.put _ (some 27) _=_
               simp only [Act.put,sIb,sZ,sS,i64_w,i32_w];rfl
              refine one_ (i:=4) (N:=some 25) #[Y,Y,Y,Y,Y,Y,Y,Z,Z] rfl rfl (one_of HT_.out (by kernel_rfl)) (by decide) (fun K hK=>?_);refine goes_ Try.func31 (by kernel_rfl) rfl #[.agg #[.slice aq ag.length ar,.slice au ah.length av],.slice bV aw.length bW] (by rfl) rfl rfl (by (try simp only [mT,mC,mN]);first|done|rfl|(simp only [lD,lT];rfl)) ?_;with_reducible refine (ih k1 (by have:=aZ.out;omega) _ _ ag _ _ ah _ _ aw aN _ ?side1 ?side2 ?side3 ?side4 ?side5 ?side6 bp.out).mono ?_
              (case side1=>exact (cB aH.out HB.out));(case side2=>exact aI.out);(case side3=>exact (cB aJ.out HB.out));(case side4=>exact aK.out);(case side5=>exact (Kd.R_reads' ab.out).2.2);(case side6=>exact (Kd.R_reads' ab.out).2.1);rintro e eB ⟨aA,rfl,ay,hb⟩;refine ⟨_,rfl,?_⟩;have ak:=qK (Kd.R_elder' ac.out (Kd.R_base ay) hb);have al:=qK (Kd.R_elder' ab.out (Kd.R_base ay) hb);have aj:=qK (Kd.R_elder' ad.out (Kd.R_base ay) hb);have am:=qK (Kd.R_lower (Kd.R_new' (Kd.R_new' (Kd.R_new' ay (Kd.R_lt ac.out)) (Kd.R_lt ab.out)) (Kd.R_lt ad.out)) (qZ HB.out));have ao:=qK (qB (g:=af) (o:=_) (by exact aa.out) hb);have ax:=qK (qT HB.out hb);clear ac ab ad aa HB;have ac:=ak;have ab:=al;have ad:=aj;have an:=am;have aa:=ao;have HB:=ax;clear ak al aj am ao ax;(try clear hb);(try clear ay);refine hK.out _ _ ⟨(qC aa.out 0).trans rfl,(qC aa.out 1).trans rfl⟩ (fun hHeld=>?_);clear hK K;refine norm_ (a':=?_) ?_ ?_;rotate_left
              ·show Act.put _ (some 25) _=_
               simp only [Act.put,sIb,sZ,sS,i64_w,i32_w];rfl
              exact norm_ (by simp only [putAll,Act.put,List.setIfInBounds_toArray,List.set_cons_zero,List.set_cons_succ]) (hCont (.slice bV aw.length bW,aA,aC) _ ⟨hHeld,(Kd.R_mono ab.out (fun _ hk=>⟨hk.2,⟨hk.1.2,hk.1.1.2⟩⟩)),(Kd.R_mono an.out (fun _ hk=>⟨hk.1.2,⟨hk.2,hk.1.1.2⟩⟩)),(Kd.R_mono ad.out (fun _ hk=>⟨hk.1.2,⟨hk.2,hk.1.1.2⟩⟩)),(Kd.R_mono ac.out (fun _ hk=>⟨hk.1.1.2,⟨hk.2,hk.1.2⟩⟩)),aa.out,HB.out⟩)
            ·skip
             refine Kd.R_lit_step (Kd.int .i64) _ 3 ?hg (N:=27) ?hd (xs:=([rd l1 ae]:List Int)) (inner:=[.int .i64 (rd l1 ae)]) (ok:=fun _=>True) (okp:=fun _=>True) ?hr ?hp (fun _ hk=>hk) trivial (Below.refl _ _) (Nat.le_refl _) (by simp) ?_;(case hd=>rfl);(case hg=>rfl);(case hr=>(go_simp;try rfl));(case hp=>exact (Reps.one (show Kd.M (Kd.int .i64) _ _ _ (rd l1 ae) [.int .i64 (rd l1 ae)] from rfl) (Reps.none _ _)));intro aC ez bG hb hg_ hnew_;clear hg_ hnew_;(first|rw [← aG.out] at bG|(simp only [Int.reduceToNat] at bG;rw [← aG.out] at bG));have ak:=qK (Kd.R_elder' ac.out (Kd.R_base bG) hb);have al:=qK (Kd.R_lower (Kd.R_new' bG (Kd.R_lt ac.out)) (qZ HB.out));have aj:=qK (qB (g:=af) (o:=_) (by exact aa.out) hb);have am:=qK (qT HB.out hb);clear ac aa HB;have ac:=ak;have ad:=al;have aa:=aj;have HB:=am;clear ak al aj am hb bG;refine hK.out _ _ ⟨(qC aa.out 0).trans rfl,(qC aa.out 1).trans rfl⟩ (fun hHeld=>?_);clear hK K;refine norm_ (a':=?_) ?_ ?_;rotate_left
             ·show Act.put _ (some 27) _=_
              simp only [Act.put,sIb,sZ,sS,i64_w,i32_w];rfl
             refine one_ (i:=3) (N:=some 24) #[Y,Y,Y,Y,Z,Y,Y,Z,Z] rfl rfl (one_of HT_.out (by kernel_rfl)) (by decide) (fun K hK=>?_);refine goes_ Try.func53 (by kernel_rfl) rfl #[.slice (some aT) l1.length c1,.int .i64 (rd l1 ae)] (by rfl) rfl rfl (by (try simp only [mT,mC,mN]);first|done|rfl|(simp only [lD,lT];rfl)) ?_;with_reducible refine (spec_l11Without.calls k1 _ _ l1 (rd l1 ae) aw _ ?side1 ?side2 bY.out).mono ?_
             (case side1=>exact (cB bn.out HB.out));(case side2=>exact bX.out);rintro e eA ⟨aE,rfl,ay,hb⟩;refine ⟨_,rfl,?_⟩;have ak:=qK (Kd.R_elder' ac.out (Kd.R_base ay) hb);have al:=qK (Kd.R_elder' ad.out (Kd.R_base ay) hb);have aj:=qK (Kd.R_lower (Kd.R_new' (Kd.R_new' ay (Kd.R_lt ac.out)) (Kd.R_lt ad.out)) (qZ HB.out));have am:=qK (qB (g:=af) (o:=_) (by exact aa.out) hb);have ao:=qK (qT HB.out hb);clear ac ad aa HB;have ac:=ak;have ad:=al;have ab:=aj;have aa:=am;have HB:=ao;clear ak al aj am ao;(try clear hb);(try clear ay);obtain ⟨bV,bW,cg⟩:=Kd.R_slice ab.out;subst cg;refine hK.out _ _ ⟨(qC aa.out 0).trans rfl,(qC aa.out 1).trans rfl⟩ (fun hHeld=>?_);clear hK K;refine norm_ (a':=?_) ?_ ?_;rotate_left
             ·show Act.put _ (some 24) _=_
              simp only [Act.put,sIb,sZ,sS,i64_w,i32_w];rfl
             refine one_ (i:=4) (N:=some 25) #[Y,Y,Y,Y,Y,Y,Y,Z,Z] rfl rfl (one_of HT_.out (by kernel_rfl)) (by decide) (fun K hK=>?_);refine goes_ Try.func31 (by kernel_rfl) rfl #[.agg #[.slice aq ag.length ar,.slice au ah.length av],.slice bV aw.length bW] (by rfl) rfl rfl (by (try simp only [mT,mC,mN]);first|done|rfl|(simp only [lD,lT];rfl)) ?_;with_reducible refine (ih k1 (by have:=aZ.out;omega) _ _ ag _ _ ah _ _ aw aN _ ?side1 ?side2 ?side3 ?side4 ?side5 ?side6 bp.out).mono ?_
             (case side1=>exact (cB aH.out HB.out));(case side2=>exact aI.out);(case side3=>exact (cB aJ.out HB.out));(case side4=>exact aK.out);(case side5=>exact (Kd.R_reads' ab.out).2.2);(case side6=>exact (Kd.R_reads' ab.out).2.1);rintro e eB ⟨aA,rfl,ay,hb⟩;refine ⟨_,rfl,?_⟩;have ak:=qK (Kd.R_elder' ac.out (Kd.R_base ay) hb);have al:=qK (Kd.R_elder' ad.out (Kd.R_base ay) hb);have aj:=qK (Kd.R_elder' ab.out (Kd.R_base ay) hb);have am:=qK (Kd.R_lower (Kd.R_new' (Kd.R_new' (Kd.R_new' ay (Kd.R_lt ac.out)) (Kd.R_lt ad.out)) (Kd.R_lt ab.out)) (qZ HB.out));have ao:=qK (qB (g:=af) (o:=_) (by exact aa.out) hb);have ax:=qK (qT HB.out hb);clear ac ad ab aa HB;have ac:=ak;have ad:=al;have ab:=aj;have an:=am;have aa:=ao;have HB:=ax;clear ak al aj am ao ax;(try clear hb);(try clear ay);refine hK.out _ _ ⟨(qC aa.out 0).trans rfl,(qC aa.out 1).trans rfl⟩ (fun hHeld=>?_);clear hK K;refine norm_ (a':=?_) ?_ ?_;rotate_left
             ·show Act.put _ (some 25) _=_
              simp only [Act.put,sIb,sZ,sS,i64_w,i32_w];rfl
             exact norm_ (by simp only [putAll,Act.put,List.setIfInBounds_toArray,List.set_cons_zero,List.set_cons_succ]) (hCont (.slice bV aw.length bW,aA,aC) _ ⟨hHeld,(Kd.R_mono ab.out (fun _ hk=>⟨hk.2,⟨hk.1.2,hk.1.1.2⟩⟩)),(Kd.R_mono an.out (fun _ hk=>⟨hk.2,⟨hk.1.2,hk.1.1.2⟩⟩)),(Kd.R_mono ad.out (fun _ hk=>⟨hk.1.2,⟨hk.2,hk.1.1.2⟩⟩)),(Kd.R_mono ac.out (fun _ hk=>⟨hk.1.2,⟨hk.2,hk.1.1.2⟩⟩)),aa.out,HB.out⟩)
           rintro ⟨aE,aA,aC⟩ cm ⟨hS_,bv,bw,bx,bz,bA,bB⟩;have ak:Aside0 (Kd.R (Kd.int .i64) 3 cm w.heap.size (fun k_=>some k_ ≠ (aA:Value).ownBlock∧some k_ ≠ (aC:Value).ownBlock∧some k_ ≠ (u5:Value).ownBlock) aE aw):=⟨bv⟩;have al:Aside0 (Kd.R (Kd.int .i64) 3 cm w.heap.size (fun k_=>some k_ ≠ (aE:Value).ownBlock∧some k_ ≠ (aC:Value).ownBlock∧some k_ ≠ (u5:Value).ownBlock) aA aN):=⟨bw⟩;have aj:Aside0 (Kd.R (Kd.int .i64) 3 cm w.heap.size (fun k_=>some k_ ≠ (aE:Value).ownBlock∧some k_ ≠ (aA:Value).ownBlock∧some k_ ≠ (u5:Value).ownBlock) aC aM):=⟨bx⟩;have am:Aside0 (Kd.R (Kd.int .i64) 3 cm w.heap.size (fun k_=>some k_ ≠ (aE:Value).ownBlock∧some k_ ≠ (aA:Value).ownBlock∧some k_ ≠ (aC:Value).ownBlock) u5 ap):=⟨bz⟩;have ao:Aside0 (cm.heap[af]?=some (.cells #[.slice aq ag.length ar,.slice au ah.length av] 29 (0,0))):=⟨bA⟩;have ax:Aside0 (Below w.heap.size w cm):=⟨bB⟩;clear ac aa HB bv bw bx bz bA bB;have ab:=ak;have an:=al;have ad:=aj;have ac:=am;have aa:=ao;have HB:=ax;clear ak al aj am ao ax;have hHeld:cm.cell? ⟨af,0,none⟩=some (.slice aq ag.length ar)∧cm.cell? ⟨af,1,none⟩=some (.slice au ah.length av):=hS_;obtain ⟨cF,cG,dW⟩:=Kd.R_slice ad.out;subst dW;refine norm_ (a':=?_) ?_ ?_;rotate_left
           ·simp only [putAll,Act.put,List.setIfInBounds_toArray,List.set_cons_zero,List.set_cons_succ];rfl
           refine one_ (i:=7) (N:=some 28) #[Y,Y,Y,Y,Y,Y,Y,Y,Z] rfl rfl (one_of HT_.out (by kernel_rfl)) (by decide) (fun K hK=>?_);refine Kd.R_append_rows_step (Kd.int .i64) (w0:=w) w.heap.size (by rfl) (.tmp 25) (.tmp 27) 22 3 (.int .i64 0) 8 rfl Try.underlying22 info3 rfl (by decide) (by omega) aA aN aM _ _ _ (fun k_=>some k_ ≠ (u5:Value).ownBlock∧some k_ ≠ (aE:Value).ownBlock∧some k_ ≠ (.slice cF aM.length cG:Value).ownBlock) (fun _=>False) rfl rfl ?aO ?aR (fun _ _ h=>h) (fun _ h=>h.elim) ?aF ?aB ?aS ?aL ?_;(case aR=>repeat (first|exact (Kd.R_reads' ad.out).2.2|(with_reducible first|refine cL ?_ _|refine cN ?_ _|refine cW ?_)));(case aB=>exact HB.out);(case aF=>exact (fun k_ hk=>⟨Kd.fresh' (Kd.R_lt ac.out) k_ hk,Kd.fresh' (Kd.R_lt ab.out) k_ hk,Kd.fresh' (Kd.R_lt ad.out) k_ hk⟩));(case aO=>exact (Kd.R_mono an.out (fun _ hk=>⟨hk.2.2,⟨hk.1,hk.2.1⟩⟩)));(case aS=>exact (qZ HB.out));(case aL=>have:=bf.out;omega);intro cc eC ho hb hg hat;rw [← bh.out] at ho;have ak:=qK (Kd.R_after (ok:=(fun k_=>some k_ ≠ (aE:Value).ownBlock∧some k_ ≠ (.slice cF aM.length cG:Value).ownBlock)) (Kd.R_mono ac.out (fun _ hk=>⟨⟨hk.1,hk.2.2⟩,hk.2.1⟩)) hg hat);have al:=qK (blk_grown (g:=af) (o:=_) (by exact aa.out) hg (Kd.R_ne an.out aa.out (by decide)));have aj:=qK (Kd.R_after (ok:=(fun k_=>some k_ ≠ (u5:Value).ownBlock∧some k_ ≠ (.slice cF aM.length cG:Value).ownBlock)) (Kd.R_mono ab.out (fun _ hk=>⟨⟨hk.2.2,hk.2.1⟩,hk.1⟩)) hg hat);have am:=qK (Kd.R_after (ok:=(fun k_=>some k_ ≠ (u5:Value).ownBlock∧some k_ ≠ (aE:Value).ownBlock)) (Kd.R_mono ad.out (fun _ hk=>⟨⟨hk.2.2,hk.1⟩,hk.2.1⟩)) hg hat);have ao:=qK (hb);have ax:=qK (ho);clear ac aa ab ad HB an;have ac:=ak;have aa:=al;have ab:=aj;have ad:=am;have HB:=ao;have ai:=ax;clear ak al aj am ao ax ho hb hg hat;refine hK.out _ _ ⟨(qC aa.out 0).trans rfl,(qC aa.out 1).trans rfl⟩ (fun hHeld=>?_);clear hK K;refine norm_ (a':=?_) ?_ ?_;rotate_left
           ·show Act.put _ (some 28) _=_
            simp only [Act.put,sIb,sZ,sS,i64_w,i32_w];rfl
           refine pure_ (i:=8) (N:=some 8) (v:=?_) (a':=?_) #[Y,Y,Y,Y,Y,Y,Y,Y,Y] rfl rfl (any_of HT_.out (by kernel_rfl)) (fun _ _ _ h=>h) (Or.inl ⟨by rfl,?_⟩) ?_ ?_;rotate_left
           ·intro w';go_simp;with_reducible rfl
           rotate_left
           ·simp only [Act.put,sIb,sZ,sS,i64_w,i32_w];rfl
           refine done_ (done_of HT_.out (by kernel_rfl)) ?_;try go_wp2
           have ak:=qK (rW ac.out);have al:=qK (rW ab.out);have aj:=qK (rW ad.out);have am:=qK (rW ai.out);have ao:=qK (qW aa.out);have ax:=qK (qO HB.out);clear ac ab ad ai aa HB;have ac:=ak;have ab:=al;have ad:=aj;have ai:=am;have aa:=ao;have HB:=ax;clear ak al aj am ao ax;obtain ⟨dn,dp,dX⟩:=Kd.R_slice ac.out;subst dX;obtain ⟨dq,dr,dY⟩:=Kd.R_slice ai.out;subst dY;refine start_ (n:=26) (S:=fun w'=>w'.cell? ⟨af,0,none⟩=some (.slice aq ag.length ar)∧w'.cell? ⟨af,1,none⟩=some (.slice au ah.length av)) (ds:=[]) #[Z,Z,Z,Z,Z,Z,Z,Z,Z,Z,Z,Z,Z,Z,Z,Z,Z,Z,Z,Z,Z,Z,Z,Z,Z,Z] (by kernel_rfl) rfl rfl ⟨(qC aa.out 0).trans rfl,(qC aa.out 1).trans rfl⟩ (fun hHeld=>?_);refine with_tabW spec_l12Best.tab8 spec_l12Best.bits8 (fun HT_ HW_=>?_);generalize eC.drew=w91 at ac ab ad ai aa HB hHeld ⊢
           refine pure_ (i:=0) (N:=some 29) (v:=?_) (a':=?_) #[Y,Z,Z,Z,Z,Z,Z,Z,Z,Z,Z,Z,Z,Z,Z,Z,Z,Z,Z,Z,Z,Z,Z,Z,Z,Z] rfl rfl (any_of HT_.out (by kernel_rfl)) (fun _ _ _ h=>h) (Or.inl ⟨by rfl,?_⟩) ?_ ?_;rotate_left
           ·intro w';go_simp;with_reducible rfl
           rotate_left
           ·simp only [Act.put,sIb,sZ,sS,i64_w,i32_w];rfl
           refine pure_ (i:=1) (N:=some 30) (v:=?_) (a':=?_) #[Y,Y,Z,Z,Z,Z,Z,Z,Z,Z,Z,Z,Z,Z,Z,Z,Z,Z,Z,Z,Z,Z,Z,Z,Z,Z] rfl rfl (any_of HT_.out (by kernel_rfl)) (fun _ _ _ h=>h) (Or.inl ⟨by rfl,?_⟩) ?_ ?_;rotate_left
           ·intro w';go_simp;with_reducible rfl
           rotate_left
           ·simp only [Act.put,sIb,sZ,sS,i64_w,i32_w];rfl
           refine pure_ (i:=2) (N:=some 31) (v:=?_) (a':=?_) #[Y,Y,Y,Z,Z,Z,Z,Z,Z,Z,Z,Z,Z,Z,Z,Z,Z,Z,Z,Z,Z,Z,Z,Z,Z,Z] rfl rfl (any_of HT_.out (by kernel_rfl)) (fun _ _ _ h=>h) (Or.inl ⟨by rfl,?_⟩) ?_ ?_;rotate_left
           ·intro w';go_simp;with_reducible rfl
           rotate_left
           ·simp only [Act.put,sIb,sZ,sS,i64_w,i32_w];rfl
           refine pure_ (i:=3) (N:=some 32) (v:=?_) (a':=?_) #[Y,Y,Y,Y,Z,Z,Z,Z,Z,Z,Z,Z,Z,Z,Z,Z,Z,Z,Z,Z,Z,Z,Z,Z,Z,Z] rfl rfl (any_of HT_.out (by kernel_rfl)) (fun _ _ _ h=>h) (Or.inl ⟨by rfl,?_⟩) ?_ ?_;rotate_left
           ·intro w';go_simp;with_reducible rfl
           rotate_left
           ·simp only [Act.put,sIb,sZ,sS,i64_w,i32_w];rfl
           refine pure_ (i:=5) (N:=some 34) (v:=?_) (a':=?_) #[Y,Y,Y,Y,Z,Y,Z,Z,Z,Z,Z,Z,Z,Z,Z,Z,Z,Z,Z,Z,Z,Z,Z,Z,Z,Z] rfl rfl (any_of HT_.out (by kernel_rfl)) (fun _ _ _ h=>h) (Or.inl ⟨by rfl,?_⟩) ?_ ?_;rotate_left
           ·intro w';go_simp;with_reducible rfl
           rotate_left
           ·simp only [Act.put,sIb,sZ,sS,i64_w,i32_w];rfl
           refine pure_ (i:=8) (N:=some 37) (v:=?_) (a':=?_) #[Y,Y,Y,Y,Z,Y,Z,Z,Y,Z,Z,Z,Z,Z,Z,Z,Z,Z,Z,Z,Z,Z,Z,Z,Z,Z] rfl rfl (any_of HT_.out (by kernel_rfl)) (fun _ _ _ h=>h) (Or.inl ⟨by rfl,?_⟩) ?_ ?_;rotate_left
           ·intro w';go_simp;with_reducible rfl
           rotate_left
           ·simp only [Act.put,sIb,sZ,sS,i64_w,i32_w];rfl
           refine take_ (i:=4) (N:=some 33) (v:=?_) (a':=?_) #[Y,Y,Y,Y,Y,Y,Z,Z,Y,Z,Z,Z,Z,Z,Z,Z,Z,Z,Z,Z,Z,Z,Z,Z,Z,Z] rfl rfl (take_ofW HT_.out HW_.out (by kernel_rfl)) (fun _ _ _ h=>h) (Or.inl ⟨by rfl,?_⟩) hHeld ?_ ?_;rotate_left
           ·rintro w' ⟨s0,s1⟩;go_simp;with_reducible rfl
           rotate_left
           ·simp only [Act.put,sIb,sZ,sS,i64_w,i32_w];rfl
           refine take_ (i:=7) (N:=some 36) (v:=?_) (a':=?_) #[Y,Y,Y,Y,Y,Y,Z,Y,Y,Z,Z,Z,Z,Z,Z,Z,Z,Z,Z,Z,Z,Z,Z,Z,Z,Z] rfl rfl (take_ofW HT_.out HW_.out (by kernel_rfl)) (fun _ _ _ h=>h) (Or.inl ⟨by rfl,?_⟩) hHeld ?_ ?_;rotate_left
           ·rintro w' ⟨s0,s1⟩;go_simp;with_reducible rfl
           rotate_left
           ·simp only [Act.put,sIb,sZ,sS,i64_w,i32_w];rfl
           refine one_ (i:=6) (N:=some 35) #[Y,Y,Y,Y,Y,Y,Y,Y,Y,Z,Z,Z,Z,Z,Z,Z,Z,Z,Z,Z,Z,Z,Z,Z,Z,Z] rfl rfl (one_of HT_.out (by kernel_rfl)) (by decide) (fun K hK=>?_);refine goes_ Try.func32 (by kernel_rfl) rfl #[.agg #[.slice aq ag.length ar,.slice au ah.length av],.slice dq az.length dr] (by rfl) rfl rfl (by (try simp only [mT,mC,mN]);first|done|rfl|(simp only [lD,lT];rfl)) ?_;with_reducible refine (spec_l12Cost.calls k1 _ _ ag _ _ ah _ _ az aY _ ?side1 ?side2 ?side3 ?side4 ?side5 ?side6 dt.out).mono ?_
           (case side1=>exact (cB aH.out HB.out));(case side2=>exact aI.out);(case side3=>exact (cB aJ.out HB.out));(case side4=>exact aK.out);(case side5=>exact (Kd.R_reads' ai.out).2.2);(case side6=>exact (Kd.R_reads' ai.out).2.1);rintro e eX ⟨rfl,hb⟩;refine ⟨_,rfl,?_⟩;have ak:=qK (rB ac.out hb);have al:=qK (rB ab.out hb);have aj:=qK (rB ad.out hb);have am:=qK (rB ai.out hb);have ao:=qK (qB (g:=af) (o:=_) (by exact aa.out) hb);have ax:=qK (qT HB.out hb);clear ac ab ad ai aa HB;have ac:=ak;have ab:=al;have ad:=aj;have ai:=am;have aa:=ao;have HB:=ax;clear ak al aj am ao ax;(try clear hb);refine hK.out _ _ ⟨(qC aa.out 0).trans rfl,(qC aa.out 1).trans rfl⟩ (fun hHeld=>?_);clear hK K;refine norm_ (a':=?_) ?_ ?_;rotate_left
           ·show Act.put _ (some 35) _=_
            simp only [Act.put,sIb,sZ,sS,i64_w,i32_w];rfl
           refine one_ (i:=9) (N:=some 38) #[Y,Y,Y,Y,Y,Y,Y,Y,Y,Y,Z,Z,Z,Z,Z,Z,Z,Z,Z,Z,Z,Z,Z,Z,Z,Z] rfl rfl (one_of HT_.out (by kernel_rfl)) (by decide) (fun K hK=>?_);refine goes_ Try.func32 (by kernel_rfl) rfl #[.agg #[.slice aq ag.length ar,.slice au ah.length av],.slice dn ap.length dp] (by rfl) rfl rfl (by (try simp only [mT,mC,mN]);first|done|rfl|(simp only [lD,lT];rfl)) ?_;with_reducible refine (spec_l12Cost.calls k1 _ _ ag _ _ ah _ _ ap aW _ ?side1 ?side2 ?side3 ?side4 ?side5 ?side6 du.out).mono ?_
           (case side1=>exact (cB aH.out HB.out));(case side2=>exact aI.out);(case side3=>exact (cB aJ.out HB.out));(case side4=>exact aK.out);(case side5=>exact (Kd.R_reads' ac.out).2.2);(case side6=>exact (Kd.R_reads' ac.out).2.1);rintro e eY ⟨rfl,hb⟩;refine ⟨_,rfl,?_⟩;have ak:=qK (rB ac.out hb);have al:=qK (rB ab.out hb);have aj:=qK (rB ad.out hb);have am:=qK (rB ai.out hb);have ao:=qK (qB (g:=af) (o:=_) (by exact aa.out) hb);have ax:=qK (qT HB.out hb);clear ac ab ad ai aa HB;have ac:=ak;have ab:=al;have ad:=aj;have ai:=am;have aa:=ao;have HB:=ax;clear ak al aj am ao ax;(try clear hb);refine hK.out _ _ ⟨(qC aa.out 0).trans rfl,(qC aa.out 1).trans rfl⟩ (fun hHeld=>?_);clear hK K;refine norm_ (a':=?_) ?_ ?_;rotate_left
           ·show Act.put _ (some 38) _=_
            simp only [Act.put,sIb,sZ,sS,i64_w,i32_w];rfl
           refine pure_ (i:=10) (N:=some 39) (v:=?_) (a':=?_) #[Y,Y,Y,Y,Y,Y,Y,Y,Y,Y,Y,Z,Z,Z,Z,Z,Z,Z,Z,Z,Z,Z,Z,Z,Z,Z] rfl rfl (any_of HT_.out (by kernel_rfl)) (fun _ _ _ h=>h) (Or.inl ⟨by rfl,?_⟩) ?_ ?_;rotate_left
           ·intro w';go_simp;with_reducible rfl
           rotate_left
           ·simp only [Act.put,sIb,sZ,sS,i64_w,i32_w];rfl
           refine pure_ (i:=11) (N:=some 40) (v:=?_) (a':=?_) #[Y,Y,Y,Y,Y,Y,Y,Y,Y,Y,Y,Y,Z,Z,Z,Z,Z,Z,Z,Z,Z,Z,Z,Z,Z,Z] rfl rfl (any_of HT_.out (by kernel_rfl)) (fun _ _ _ h=>h) (Or.inl ⟨by rfl,?_⟩) ?_ ?_;rotate_left
           ·intro w';go_simp;with_reducible rfl
           rotate_left
           ·simp only [Act.put,sIb,sZ,sS,i64_w,i32_w];rfl
           refine pure_ (i:=12) (N:=some 41) (v:=?_) (a':=?_) #[Y,Y,Y,Y,Y,Y,Y,Y,Y,Y,Y,Y,Y,Z,Z,Z,Z,Z,Z,Z,Z,Z,Z,Z,Z,Z] rfl rfl (any_of HT_.out (by kernel_rfl)) (fun _ _ _ h=>h) (Or.inl ⟨by rfl,?_⟩) ?_ ?_;rotate_left
           ·intro w';go_simp;with_reducible rfl
           rotate_left
           ·simp only [Act.put,sIb,sZ,sS,i64_w,i32_w];rfl
           refine pure_ (i:=14) (N:=some 43) (v:=?_) (a':=?_) #[Y,Y,Y,Y,Y,Y,Y,Y,Y,Y,Y,Y,Y,Z,Y,Z,Z,Z,Z,Z,Z,Z,Z,Z,Z,Z] rfl rfl (any_of HT_.out (by kernel_rfl)) (fun _ _ _ h=>h) (Or.inl ⟨by rfl,?_⟩) ?_ ?_;rotate_left
           ·intro w';go_simp;with_reducible rfl
           rotate_left
           ·simp only [Act.put,sIb,sZ,sS,i64_w,i32_w];rfl
           refine pure_ (i:=17) (N:=some 46) (v:=?_) (a':=?_) #[Y,Y,Y,Y,Y,Y,Y,Y,Y,Y,Y,Y,Y,Z,Y,Z,Z,Y,Z,Z,Z,Z,Z,Z,Z,Z] rfl rfl (any_of HT_.out (by kernel_rfl)) (fun _ _ _ h=>h) (Or.inl ⟨by rfl,?_⟩) ?_ ?_;rotate_left
           ·intro w';go_simp;with_reducible rfl
           rotate_left
           ·simp only [Act.put,sIb,sZ,sS,i64_w,i32_w];rfl
           refine take_ (i:=13) (N:=some 42) (v:=?_) (a':=?_) #[Y,Y,Y,Y,Y,Y,Y,Y,Y,Y,Y,Y,Y,Y,Y,Z,Z,Y,Z,Z,Z,Z,Z,Z,Z,Z] rfl rfl (take_ofW HT_.out HW_.out (by kernel_rfl)) (fun _ _ _ h=>h) (Or.inl ⟨by rfl,?_⟩) hHeld ?_ ?_;rotate_left
           ·rintro w' ⟨s0,s1⟩;go_simp;with_reducible rfl
           rotate_left
           ·simp only [Act.put,sIb,sZ,sS,i64_w,i32_w];rfl
           refine take_ (i:=16) (N:=some 45) (v:=?_) (a':=?_) #[Y,Y,Y,Y,Y,Y,Y,Y,Y,Y,Y,Y,Y,Y,Y,Z,Y,Y,Z,Z,Z,Z,Z,Z,Z,Z] rfl rfl (take_ofW HT_.out HW_.out (by kernel_rfl)) (fun _ _ _ h=>h) (Or.inl ⟨by rfl,?_⟩) hHeld ?_ ?_;rotate_left
           ·rintro w' ⟨s0,s1⟩;go_simp;with_reducible rfl
           rotate_left
           ·simp only [Act.put,sIb,sZ,sS,i64_w,i32_w];rfl
           refine one_ (i:=15) (N:=some 44) #[Y,Y,Y,Y,Y,Y,Y,Y,Y,Y,Y,Y,Y,Y,Y,Y,Y,Y,Z,Z,Z,Z,Z,Z,Z,Z] rfl rfl (one_of HT_.out (by kernel_rfl)) (by decide) (fun K hK=>?_);refine goes_ Try.func32 (by kernel_rfl) rfl #[.agg #[.slice aq ag.length ar,.slice au ah.length av],.slice dq az.length dr] (by rfl) rfl rfl (by (try simp only [mT,mC,mN]);first|done|rfl|(simp only [lD,lT];rfl)) ?_;with_reducible refine (spec_l12Cost.calls k1 _ _ ag _ _ ah _ _ az aQ _ ?side1 ?side2 ?side3 ?side4 ?side5 ?side6 dL.out).mono ?_
           (case side1=>exact (cB aH.out HB.out));(case side2=>exact aI.out);(case side3=>exact (cB aJ.out HB.out));(case side4=>exact aK.out);(case side5=>exact (Kd.R_reads' ai.out).2.2);(case side6=>exact (Kd.R_reads' ai.out).2.1);rintro e eZ ⟨rfl,hb⟩;refine ⟨_,rfl,?_⟩;have ak:=qK (rB ac.out hb);have al:=qK (rB ab.out hb);have aj:=qK (rB ad.out hb);have am:=qK (rB ai.out hb);have ao:=qK (qB (g:=af) (o:=_) (by exact aa.out) hb);have ax:=qK (qT HB.out hb);clear ac ab ad ai aa HB;have ac:=ak;have ab:=al;have ad:=aj;have ai:=am;have aa:=ao;have HB:=ax;clear ak al aj am ao ax;(try clear hb);refine hK.out _ _ ⟨(qC aa.out 0).trans rfl,(qC aa.out 1).trans rfl⟩ (fun hHeld=>?_);clear hK K;refine norm_ (a':=?_) ?_ ?_;rotate_left
           ·show Act.put _ (some 44) _=_
            simp only [Act.put,sIb,sZ,sS,i64_w,i32_w];rfl
           refine one_ (i:=18) (N:=some 47) #[Y,Y,Y,Y,Y,Y,Y,Y,Y,Y,Y,Y,Y,Y,Y,Y,Y,Y,Y,Z,Z,Z,Z,Z,Z,Z] rfl rfl (one_of HT_.out (by kernel_rfl)) (by decide) (fun K hK=>?_);refine goes_ Try.func32 (by kernel_rfl) rfl #[.agg #[.slice aq ag.length ar,.slice au ah.length av],.slice dn ap.length dp] (by rfl) rfl rfl (by (try simp only [mT,mC,mN]);first|done|rfl|(simp only [lD,lT];rfl)) ?_;with_reducible refine (spec_l12Cost.calls k1 _ _ ag _ _ ah _ _ ap aP _ ?side1 ?side2 ?side3 ?side4 ?side5 ?side6 dM.out).mono ?_
           (case side1=>exact (cB aH.out HB.out));(case side2=>exact aI.out);(case side3=>exact (cB aJ.out HB.out));(case side4=>exact aK.out);(case side5=>exact (Kd.R_reads' ac.out).2.2);(case side6=>exact (Kd.R_reads' ac.out).2.1);rintro e fa ⟨rfl,hb⟩;refine ⟨_,rfl,?_⟩;have ak:=qK (rB ac.out hb);have al:=qK (rB ab.out hb);have aj:=qK (rB ad.out hb);have am:=qK (rB ai.out hb);have ao:=qK (qB (g:=af) (o:=_) (by exact aa.out) hb);have ax:=qK (qT HB.out hb);clear ac ab ad ai aa HB;have ac:=ak;have ab:=al;have ad:=aj;have ai:=am;have aa:=ao;have HB:=ax;clear ak al aj am ao ax;(try clear hb);refine hK.out _ _ ⟨(qC aa.out 0).trans rfl,(qC aa.out 1).trans rfl⟩ (fun hHeld=>?_);clear hK K;refine norm_ (a':=?_) ?_ ?_;rotate_left
           ·show Act.put _ (some 47) _=_
            simp only [Act.put,sIb,sZ,sS,i64_w,i32_w];rfl
           refine pure_ (i:=19) (N:=some 48) (v:=?_) (a':=?_) #[Y,Y,Y,Y,Y,Y,Y,Y,Y,Y,Y,Y,Y,Y,Y,Y,Y,Y,Y,Y,Z,Z,Z,Z,Z,Z] rfl rfl (any_of HT_.out (by kernel_rfl)) (fun _ _ _ h=>h) (Or.inl ⟨by rfl,?_⟩) ?_ ?_;rotate_left
           ·intro w';go_simp;with_reducible rfl
           rotate_left
           ·simp only [Act.put,sIb,sZ,sS,i64_w,i32_w];rfl
           refine pure_ (i:=20) (N:=some 49) (v:=?_) (a':=?_) #[Y,Y,Y,Y,Y,Y,Y,Y,Y,Y,Y,Y,Y,Y,Y,Y,Y,Y,Y,Y,Y,Z,Z,Z,Z,Z] rfl rfl (any_of HT_.out (by kernel_rfl)) (fun _ _ _ h=>h) (Or.inl ⟨by rfl,?_⟩) ?_ ?_;rotate_left
           ·intro w';go_simp;with_reducible rfl
           rotate_left
           ·simp only [Act.put,sIb,sZ,sS,i64_w,i32_w];rfl
           refine pure_ (i:=21) (N:=some 50) (v:=undef) (a':=?_) #[Y,Y,Y,Y,Y,Y,Y,Y,Y,Y,Y,Y,Y,Y,Y,Y,Y,Y,Y,Y,Y,Y,Z,Z,Z,Z] rfl rfl (any_of HT_.out (by kernel_rfl)) (fun _ _ _ h=>h) (Or.inr ⟨by rfl,rfl⟩) ?_ ?_;rotate_left
           ·simp only [Act.put,sIb,sZ,sS,i64_w,i32_w];rfl
           refine pure_ (i:=22) (N:=some 51) (v:=undef) (a':=?_) #[Y,Y,Y,Y,Y,Y,Y,Y,Y,Y,Y,Y,Y,Y,Y,Y,Y,Y,Y,Y,Y,Y,Y,Z,Z,Z] rfl rfl (any_of HT_.out (by kernel_rfl)) (fun _ _ _ h=>h) (Or.inr ⟨by rfl,rfl⟩) ?_ ?_;rotate_left
           ·simp only [Act.put,sIb,sZ,sS,i64_w,i32_w];rfl
           refine pure_ (i:=23) (N:=some 52) (v:=undef) (a':=?_) #[Y,Y,Y,Y,Y,Y,Y,Y,Y,Y,Y,Y,Y,Y,Y,Y,Y,Y,Y,Y,Y,Y,Y,Y,Z,Z] rfl rfl (any_of HT_.out (by kernel_rfl)) (fun _ _ _ h=>h) (Or.inr ⟨by rfl,rfl⟩) ?_ ?_;rotate_left
           ·simp only [Act.put,sIb,sZ,sS,i64_w,i32_w];rfl
           refine pure_ (i:=24) (N:=some 53) (v:=?_) (a':=?_) #[Y,Y,Y,Y,Y,Y,Y,Y,Y,Y,Y,Y,Y,Y,Y,Y,Y,Y,Y,Y,Y,Y,Y,Y,Y,Z] rfl rfl (any_of HT_.out (by kernel_rfl)) (fun _ _ _ h=>h) (Or.inl ⟨by rfl,?_⟩) ?_ ?_;rotate_left
           ·intro w';go_simp;with_reducible rfl
           rotate_left
           ·simp only [Act.put,sIb,sZ,sS,i64_w,i32_w];rfl
           refine pure_ (i:=25) (N:=some 54) (v:=?_) (a':=?_) #[Y,Y,Y,Y,Y,Y,Y,Y,Y,Y,Y,Y,Y,Y,Y,Y,Y,Y,Y,Y,Y,Y,Y,Y,Y,Y] rfl rfl (any_of HT_.out (by kernel_rfl)) (fun _ _ _ h=>h) (Or.inl ⟨by rfl,?_⟩) ?_ ?_;rotate_left
           ·intro w';go_simp;with_reducible rfl
           rotate_left
           ·simp only [Act.put,sIb,sZ,sS,i64_w,i32_w];rfl
           refine done_ (done_of HT_.out (by kernel_rfl)) ?_;try go_wp2
           go_roundg k1
           case measure=>have:=aZ.out;omega
           case rel=>exact ⟨(ap),(wrap64 (ae + 1)),(by rfl),H',⟨by have:=aZ.out;omega⟩,⟨Kd.R_mono ac.out (fun _ hk=>trivial)⟩,⟨aa.out⟩,⟨HB.out⟩⟩
       ·rw [if_neg c15] at H;exact absurd H (by simp)
      ·rw [if_neg c12] at H;exact absurd H (by simp)
     ·rw [if_neg c11] at H;exact absurd H (by simp)
    ·rw [if_neg c10] at H;have cP:decide (ae < (l1.length:Int))=false:=decide_eq_false c10;clear c10;obtain rfl:=Option.some.inj H;go_wp2
     go_ret
     exact ⟨_,by rfl,ac.out,HB.out⟩

end Go.Proofs.Ytecebaeifmddnaa.PFnOrdered
