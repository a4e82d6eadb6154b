/-
  A text of this claim's own, printed by a program of the session (wip/tools/xprint.py): functions of the program as Lean functions, each with what its call comes to.
-/
import Derived.Test.YtfnaclgiggkbmaaPFnExactWaitsForx0
import Derived.Test.YtfnaclgiggkbmaaPFnExactWaitsForx1
import Derived.Test.YtfnaclgiggkbmaaPFnExactWaitsForx2
namespace Go.Proofs.Ytfnaclgiggkbmaa.PFnExactWaitsFor
open Go.Proofs.YtfnaclgiggkbmaaW.PrintWords renaming pw_below_drewN → qD, blk_cell → qC, below_drew1 → qO, below_alloc → qA, blk_frozen → qF, below_set → qS, blk_drewN → qN, blk_alloc → qL, blk_drew → qW, below_size → qZ, below_step → qT, blk_below → qB, blk_far → qR, blk_put → qP
open Go.Proofs.YtfnaclgiggkbmaaW.PrintWords.Aside0 renaming mk → qK
open Bool renaming true → Y, false → Z
open List renaming setIfInBounds_toArray → sIb, set_cons_zero → sZ, set_cons_succ → sS, map_toArray → mT, map_cons → mC, map_nil → mN, length_drop → lD, length_take → lT
open Go.Proofs.YtfnaclgiggkbmaaW.PrintWords.Kd renaming C_alloc → cL, C_drewN → cN, C_drew → cW, C_below → cB, R_alloc → rL, R_drewN → rN, R_drew → rW, R_below → rB
open Go.RowKit Go.Proofs.YtfnaclgiggkbmaaW.PrintWords Go.Proofs.YtfnaclgiggkbmaaW.PrintLast Go.Proofs.YtfnaclgiggkbmaaW.PrintMore
attribute [local go_sem] max2_int min2_int max_two min_two max_three min_three max_four min_four   -- for this text's walks alone
set_option linter.unusedVariables false
set_option linter.unusedSimpArgs false

/-! ### spec_l7Put: function 54 -/
def spec_l7Put.l0 : Nat→List Int→Int→Int→Option (List Int)
 | 0,_,_,_=>none
 | k + 1,x0,x1,x5=>if x5 < (x0.length:Int) then (if 0≤x5 then (if (rd x0 x5) < x1 then (spec_l7Put.l0 k x0 x1 (wrap64 (x5 + 1))) else (if x5≤(x0.length:Int) then ((some (x0.take (x5:Int).toNat:List Int)).bind fun y222=>(if ([]:List Int).length + y222.length < 17592186044416 then ((some (([]:List Int) ++ y222:List Int)).bind fun y227=>(if y227.length < 17592186044416 then ((some (y227 ++ [x1]:List Int)).bind fun y230=>((some (x0.drop (x5:Int).toNat:List Int)).bind fun y233=>(if y230.length + y233.length < 17592186044416 then (some (y230 ++ y233)) else (none)))) else (none))) else (none))) else (none))) else (none)) else (if 0≤x5 then (if x5≤(x0.length:Int) then ((some (x0.take (x5:Int).toNat:List Int)).bind fun y241=>(if ([]:List Int).length + y241.length < 17592186044416 then ((some (([]:List Int) ++ y241:List Int)).bind fun y246=>(if y246.length < 17592186044416 then ((some (y246 ++ [x1]:List Int)).bind fun y249=>((some (x0.drop (x5:Int).toNat:List Int)).bind fun y252=>(if y249.length + y252.length < 17592186044416 then (some (y249 ++ y252)) else (none)))) else (none))) else (none))) else (none)) else (none))
def spec_l7Put.f (k:Nat) (l0:List Int) (a1:Int):Option (List Int):=(spec_l1Has.f k l0 a1).bind fun t220=>(if t220=true then (some l0) else (spec_l7Put.l0 k l0 a1 0))
theorem spec_l7Put.mono_l : ∀ k,(∀ y0 y1 y2,LeO (spec_l7Put.l0 k y0 y1 y2) (spec_l7Put.l0 (k + 1) y0 y1 y2))
 | 0=>fun _ _ _ r h=>by simp [spec_l7Put.l0] at h
 | k + 1=>by
  have ih0:=spec_l7Put.mono_l k
  ·intro y0 y1 y2;unfold spec_l7Put.l0
   repeat' first
   | (with_reducible exact ih0 _ _ _)
   | (with_reducible exact spec_l1Has.mono _ _ _)
   | (with_reducible exact LeO.refl _)
   | (with_reducible exact LeO.none _)
   | (with_reducible refine LeO.ite ?_ ?_)
   | (with_reducible refine LeO.bind ?_ (fun _=>?_))
   | exact ih0 _ _ _
   | exact spec_l1Has.mono _ _ _
   | exact LeO.none _
   | refine LeO.ite ?_ ?_
   | refine LeO.bind ?_ (fun _=>?_)
theorem spec_l7Put.mono : ∀ a0 a1 k,LeO (spec_l7Put.f k a0 a1) (spec_l7Put.f (k + 1) a0 a1):=by
 intro a0 a1 k;have ih0:=spec_l7Put.mono_l k;unfold spec_l7Put.f
 repeat' first
   | (with_reducible exact ih0 _ _ _)
   | (with_reducible exact spec_l1Has.mono _ _ _)
   | (with_reducible exact LeO.refl _)
   | (with_reducible exact LeO.none _)
   | (with_reducible refine LeO.ite ?_ ?_)
   | (with_reducible refine LeO.bind ?_ (fun _=>?_))
   | exact ih0 _ _ _
   | exact spec_l1Has.mono _ _ _
   | exact LeO.none _
   | refine LeO.ite ?_ ?_
   | refine LeO.bind ?_ (fun _=>?_)
set_option maxHeartbeats 8000000 in
set_option maxRecDepth 100000 in
theorem spec_l7Put.calls (k:Nat) (P0_:Nat→Prop) (A0:Option Addr) (c0:Nat) (l0:List Int) (a1:Int) (r:List Int) (w:World) (hs0:Kd.V (Kd.int .i64) 3 w w.heap.size (fun k_=>P0_ k_) (.slice A0 l0.length c0) l0) (h:spec_l7Put.f k l0 a1=some r) :
  Calls Try.prog 54 #[.slice A0 l0.length c0,.int .i64 a1] w fun e w'=>∃ v0_:Value,e=.returned (v0_)∧Kd.V (Kd.int .i64) 3 w' w.heap.size (fun k_=>(P0_ k_ ∨ w.heap.size≤k_)) v0_ r∧Below w.heap.size w w':=by
 have HO0:=qK (show Kd.V (Kd.int .i64) 3 w w.heap.size (fun k_=>(P0_ k_ ∨ w.heap.size≤k_)) (.slice A0 l0.length c0) l0 from Kd.V_mono hs0 (fun k_ hk=>.inl hk));have HB:=qK (Below.refl w.heap.size w);have H:((spec_l1Has.f k l0 a1).bind fun t220=>(if t220=true then (some l0) else (spec_l7Put.l0 k l0 a1 0)))=some r:=h;clear h;replace H:=Option.bind_eq_some_iff.mp H;obtain ⟨t220,A30,H⟩:=H;replace H:(if t220=true then (some l0) else (spec_l7Put.l0 k l0 a1 0))=some r:=H;have A3:=qK A30;clear A30;by_cases c4:t220=true
 ·subst c4;have H1:(some l0)=some r:=by rw [if_pos rfl] at H;exact H
  clear H;have H:=H1;clear H1;obtain rfl:=Option.some.inj H;go_enter Try.func54,Try.ntmps54
  go_wp2_with (first|((with_reducible refine gate_callee (f:=22) rfl ?_);refine goesL_ (some 9) rfl rfl Try.func22 (by kernel_rfl) rfl #[.slice A0 l0.length c0,.int .i64 a1] rfl (by (try simp only [mT,mC,mN]);first|done|rfl|(simp only [lD,lT];rfl)) ?_;(with_reducible refine (spec_l1Has.calls k _ _ l0 a1 true _ ?side1 ?side2 A3.out).mono ?_);(case side1=>repeat (first|exact (Kd.V_reads' HO0.out).2.2|(with_reducible first|refine cL ?_ _|refine cN ?_ _|refine cW ?_)));(case side2=>exact (Kd.V_reads' HO0.out).2.1);rintro e w' ⟨rfl,⟨nd,rfl⟩⟩;refine ⟨_,rfl,?_⟩))
  go_ret
  exact ⟨_,by first|rfl|(simp [errW_none,errW_some] <;> rfl)|(simp [*,errW_none,errW_some] <;> rfl),by (with_reducible repeat (first|apply Kd.V_alloc|apply Kd.V_drewN|apply Kd.V_drew));exact HO0.out,by repeat (first|(with_reducible first|exact HB.out|apply qA|apply qD|apply qO)|exact HB.out)⟩
 ·replace c4:=Bool.eq_false_iff.mpr c4;subst c4;have H1:(spec_l7Put.l0 k l0 a1 0)=some r:=by rw [if_neg (show ¬ (false=true) by decide)] at H;exact H
  clear H;have H:=H1;clear H1;have H':=qK H;clear H;go_enter Try.func54,Try.ntmps54
  go_wp2_with (first|((with_reducible refine gate_callee (f:=22) rfl ?_);refine goesL_ (some 9) rfl rfl Try.func22 (by kernel_rfl) rfl #[.slice A0 l0.length c0,.int .i64 a1] rfl (by (try simp only [mT,mC,mN]);first|done|rfl|(simp only [lD,lT];rfl)) ?_;(with_reducible refine (spec_l1Has.calls k _ _ l0 a1 false _ ?side1 ?side2 A3.out).mono ?_);(case side1=>repeat (first|exact (Kd.V_reads' HO0.out).2.2|(with_reducible first|refine cL ?_ _|refine cN ?_ _|refine cW ?_)));(case side2=>exact (Kd.V_reads' HO0.out).2.1);rintro e w' ⟨rfl,⟨nd,rfl⟩⟩;refine ⟨_,rfl,?_⟩))
  go_loopg [5] k (fun kq v5 w'=>∃ (x5_1:Int),v5=.int .i64 x5_1∧Aside0 (spec_l7Put.l0 kq l0 a1 x5_1=some r)∧Aside0 (kq≤k)∧Aside0 (Kd.V (Kd.int .i64) 3 w' w.heap.size (fun k_=>(P0_ k_ ∨ w.heap.size≤k_)) (.slice A0 l0.length c0) l0)∧Aside0 (Below w.heap.size w w'))
  case atStart=>exact ⟨(0),(by first|rfl|(simp;done)|(simp [*];done)),H',⟨Nat.le_refl _⟩,⟨by (with_reducible repeat (first|apply Kd.V_alloc|apply Kd.V_drewN|apply Kd.V_drew));exact HO0.out⟩,⟨by repeat (first|(with_reducible first|exact HB.out|apply qA|apply qD|apply qO)|exact HB.out)⟩⟩
  case round =>
   clear H';try clear c2
   try clear p2
   try clear c4
   obtain ⟨x5_1,rfl,HA,HK1,HO_0,HB⟩:=hrel;cases gk with
   | zero=>exact absurd HA.out (by simp [spec_l7Put.l0])
   | succ k1 =>
    have H:=HA.out;clear HA;simp only [spec_l7Put.l0] at H;by_cases c5:x5_1 < (l0.length:Int)
    ·rw [if_pos c5] at H;have c5b0:decide (x5_1 < (l0.length:Int))=true:=decide_eq_true c5;clear c5;by_cases c6:0≤x5_1
     ·rw [if_pos c6] at H;have c6b0:decide (0≤x5_1)=true:=decide_eq_true c6;clear c6;by_cases c7:(rd l0 x5_1) < a1
      ·rw [if_pos c7] at H;have c7b0:decide ((rd l0 x5_1) < a1)=true:=decide_eq_true c7;clear c7;have H':=qK H;clear H;have p221:0≤(x5_1:Int):=of_decide_eq_true (by first|(with_reducible assumption)|assumption);have q221:x5_1 < (l0.length:Int):=of_decide_eq_true (by first|(with_reducible assumption)|assumption);obtain ⟨ad221,e221,hx221_0⟩:=Kd.at_int (Kd.V_reads' HO_0.out).2.2 x5_1 p221 q221;cases e221
       replace p221:=eq_true p221;replace q221:=eq_true q221;go_wp2
       go_roundg k1
       case measure=>have:=HK1.out;omega
       case rel=>exact ⟨(wrap64 (x5_1 + 1)),(by first|rfl|(simp;done)|(simp [*];done)),H',⟨by have:=HK1.out;omega⟩,⟨by (with_reducible repeat (first|apply Kd.V_alloc|apply Kd.V_drewN|apply Kd.V_drew));exact HO_0.out⟩,⟨by repeat (first|(with_reducible first|exact HB.out|apply qA|apply qD|apply qO)|exact HB.out)⟩⟩
      ·rw [if_neg c7] at H;have c7b0:decide ((rd l0 x5_1) < a1)=false:=decide_eq_false c7;clear c7;have c8b0:=eq_true (of_decide_eq_true (by first|(with_reducible assumption)|assumption):0≤x5_1);by_cases c9:x5_1≤(l0.length:Int)
       ·rw [if_pos c9] at H;have c9b0:=eq_true c9;have c9b1:decide (x5_1≤(l0.length:Int))=true:=decide_eq_true c9;clear c9;obtain ⟨y222,hy222⟩:∃ y_:List Int,y_=(l0.take (x5_1:Int).toNat):=⟨_,rfl⟩;replace H:(if ([]:List Int).length + y222.length < 17592186044416 then ((some (([]:List Int) ++ y222:List Int)).bind fun y227=>(if y227.length < 17592186044416 then ((some (y227 ++ [a1]:List Int)).bind fun y230=>((some (l0.drop (x5_1:Int).toNat:List Int)).bind fun y233=>(if y230.length + y233.length < 17592186044416 then (some (y230 ++ y233)) else (none)))) else (none))) else (none))=some r:=by first|(rw [hy222];with_reducible exact H)|(have H2_:=(Option.bind_some _ _).symm.trans H;rw [hy222];with_reducible exact H2_)|(have H2_:=(Option.bind_some _ _).symm.trans H;with_reducible exact H2_)|with_reducible exact H|(rw [hy222];exact H)|exact H
        have Ny222:=qK hy222;clear hy222;by_cases c10:([]:List Int).length + y222.length < 17592186044416
        ·rw [if_pos c10] at H;have LMc10:=qK c10;clear c10;obtain ⟨y227,hy227⟩:∃ y_:List Int,y_=(([]:List Int) ++ y222):=⟨_,rfl⟩;replace H:(if y227.length < 17592186044416 then ((some (y227 ++ [a1]:List Int)).bind fun y230=>((some (l0.drop (x5_1:Int).toNat:List Int)).bind fun y233=>(if y230.length + y233.length < 17592186044416 then (some (y230 ++ y233)) else (none)))) else (none))=some r:=by first|(rw [hy227];with_reducible exact H)|(have H2_:=(Option.bind_some _ _).symm.trans H;rw [hy227];with_reducible exact H2_)|(have H2_:=(Option.bind_some _ _).symm.trans H;with_reducible exact H2_)|with_reducible exact H|(rw [hy227];exact H)|exact H
         have Ny227:=qK hy227;clear hy227;by_cases c11:y227.length < 17592186044416
         ·rw [if_pos c11] at H;have LMc11:=qK c11;clear c11;obtain ⟨y230,hy230⟩:∃ y_:List Int,y_=(y227 ++ [a1]):=⟨_,rfl⟩;replace H:((some (l0.drop (x5_1:Int).toNat:List Int)).bind fun y233=>(if y230.length + y233.length < 17592186044416 then (some (y230 ++ y233)) else (none)))=some r:=by first|(rw [hy230];with_reducible exact H)|(have H2_:=(Option.bind_some _ _).symm.trans H;rw [hy230];with_reducible exact H2_)|(have H2_:=(Option.bind_some _ _).symm.trans H;with_reducible exact H2_)|with_reducible exact H|(rw [hy230];exact H)|exact H
          have Ny230:=qK hy230;clear hy230;have c12b0:=eq_true (of_decide_eq_true (by first|(with_reducible assumption)|assumption):0≤x5_1);have c13b0:=eq_true (of_decide_eq_true (by first|(with_reducible assumption)|assumption):x5_1≤(l0.length:Int));obtain ⟨y233,hy233⟩:∃ y_:List Int,y_=(l0.drop (x5_1:Int).toNat):=⟨_,rfl⟩;replace H:(if y230.length + y233.length < 17592186044416 then (some (y230 ++ y233)) else (none))=some r:=by first|(rw [hy233];with_reducible exact H)|(have H2_:=(Option.bind_some _ _).symm.trans H;rw [hy233];with_reducible exact H2_)|(have H2_:=(Option.bind_some _ _).symm.trans H;with_reducible exact H2_)|with_reducible exact H|(rw [hy233];exact H)|exact H
          have Ny233:=qK hy233;clear hy233;by_cases c14:y230.length + y233.length < 17592186044416
          ·rw [if_pos c14] at H;have LMc14:=qK c14;clear c14;obtain ⟨y238,hy238⟩:∃ y_:List Int,y_=(y230 ++ y233):=⟨_,rfl⟩;replace H:(some y238)=some r:=by first|(rw [hy238];with_reducible exact H)|(have H2_:=(Option.bind_some _ _).symm.trans H;rw [hy238];with_reducible exact H2_)|(have H2_:=(Option.bind_some _ _).symm.trans H;with_reducible exact H2_)|with_reducible exact H|(rw [hy238];exact H)|exact H
           have Ny238:=qK hy238;clear hy238;obtain rfl:=Option.some.inj H;have p221:0≤(x5_1:Int):=of_decide_eq_true (by first|(with_reducible assumption)|assumption);have q221:x5_1 < (l0.length:Int):=of_decide_eq_true (by first|(with_reducible assumption)|assumption);obtain ⟨ad221,e221,hx221_0⟩:=Kd.at_int (Kd.V_reads' HO_0.out).2.2 x5_1 p221 q221;cases e221
           replace p221:=eq_true p221;replace q221:=eq_true q221;have q15:(x5_1:Int)≤((l0.length:Int):Int):=of_decide_eq_true (by first|(with_reducible assumption)|assumption);obtain ⟨i015,hi015,_,hsz15,_⟩:=info_parts info3;have hroom15:l0.length≤c0:=(Kd.V_reads' HO_0.out).2.1;have hC15:Kd.F (Kd.int .i64) _ _ (some ad221) l0.length l0:=(Kd.V_at (base:=w.heap.size) HO_0.out).2.2;have hcut15:=cut_to (P:=Try.prog) 23 3 .i64 Try.underlying23 hi015 (some ad221) l0.length c0 x5_1 (of_decide_eq_true (by first|(with_reducible assumption)|assumption)) q15 hroom15;have hr15:=Kd.F_take (m:=(x5_1:Int).toNat) hC15 (by omega);have hy15:y222.length=(x5_1:Int).toNat:=(by rw [Ny222.out,lT];omega);rw [← Ny222.out] at hr15;rw [← hy15] at hcut15;have HO226:=qK (show Kd.V (Kd.int .i64) 3 _ w.heap.size _ (.slice (some ad221) y222.length c0) y222 from Kd.V_mk (by omega) hr15);have HC226:=qK (show y222.length≤c0 from by omega);clear hr15 hC15 hroom15 hi015 hsz15;have KY15:=qK hy15;clear hy15;replace q15:=eq_true q15;go_wp2_with (first|((with_reducible refine gate_builtin (b:=.append) (xs:=#[.tmp 25,.tmp 28]) rfl ?_);at_builtin;refine Kd.R_append_rows (Kd.int .i64) (w0:=w) w.heap.size rfl (.tmp 25) (.tmp 28) 23 3 (.int .i64 0) 8 rfl Try.underlying23 info3 rfl (by decide) (by omega) (.slice none 0 0) ([]:List Int) y222 _ _ _ (fun k_=>(w.heap.size≤k_)) (fun _=>False) rfl rfl ?aO ?aR (fun _ _ h=>h) (fun _ h=>h.elim) ?aF ?aB ?aS ?aL ?_;(case aR=>repeat (first|exact (Kd.V_reads' HO226.out).2.2|(with_reducible first|refine cL ?_ _|refine cN ?_ _|refine cW ?_)));(case aB=>exact (by repeat (with_reducible first|exact HB.out|apply qA|apply qD|apply qO)));(case aF=>exact (fun k_ hk=>(Nat.le_trans (qZ (by repeat (with_reducible first|exact HB.out|apply qA|apply qD|apply qO))) hk)));(case aO=>exact ((Kd.R_nil _ _ _ _ (fun k_=>(w.heap.size≤k_)))));(case aS=>exact (qZ (by repeat (with_reducible first|exact HB.out|apply qA|apply qD|apply qO))));(case aL=>have:=LMc10.out;omega);intro v228 w16 ho hb hg hat;rw [← Ny227.out] at ho;have n0_:=qK (Kd.V_afterv (Kd.V_apart_nil (by (with_reducible repeat (first|apply Kd.V_alloc|apply Kd.V_drewN|apply Kd.V_drew));exact HO_0.out)) hg hat);have n1_:=qK (Kd.V_afterv (Kd.V_apart_nil (by (with_reducible repeat (first|apply Kd.V_alloc|apply Kd.V_drewN|apply Kd.V_drew));exact HO226.out)) hg hat);have n2_:=qK (hb);have n3_:=qK (ho);clear HO_0;clear HO226;clear HB;have HO_0:=n0_;have HO226:=n1_;have HB:=n2_;have HO229:=n3_;clear n0_ n1_ n2_ n3_;clear ho hb hg hat)|((with_reducible refine gate_builtin (b:=.append) (xs:=#[.tmp 30,.tmp 32]) rfl ?_);at_builtin;refine Kd.R_append (Kd.int .i64) (w0:=w) w.heap.size rfl (.tmp 30) (.tmp 32) 23 3 (.int .i64 0) 8 rfl Try.underlying23 info3 rfl (by decide) (by omega) v228 y227 a1 [.int .i64 a1] (fun k_=>(w.heap.size≤k_)) (fun _=>False) rfl rfl ?aP (fun _ hk=>hk.elim) ?aF ?aO ?aB ?aS ?aL ?_;(case aP=>exact rfl);(case aB=>exact (by repeat (with_reducible first|exact HB.out|apply qA|apply qD|apply qO)));(case aF=>exact (fun k_ hk=>(Nat.le_trans (qZ (by repeat (with_reducible first|exact HB.out|apply qA|apply qD|apply qO))) hk)));(case aO=>exact (by (with_reducible repeat (first|apply rL|apply rN|apply rW));exact HO229.out));(case aS=>exact (qZ (by repeat (with_reducible first|exact HB.out|apply qA|apply qD|apply qO))));(case aL=>have:=LMc11.out;omega);intro v231 w17 ho hb hg hat;rw [← Ny230.out] at ho;have n0_:=qK (Kd.V_afterv (ok:=(fun k_=>(P0_ k_ ∨ w.heap.size≤k_))) (by (with_reducible repeat (first|apply Kd.V_alloc|apply Kd.V_drewN|apply Kd.V_drew));exact HO_0.out) hg hat);have n1_:=qK (Kd.V_afterv (ok:=(fun k_=>(P0_ k_ ∨ w.heap.size≤k_))) (by (with_reducible repeat (first|apply Kd.V_alloc|apply Kd.V_drewN|apply Kd.V_drew));exact HO226.out) hg hat);have n2_:=qK (hb);have n3_:=qK (ho);clear HO_0;clear HO226;clear HB;clear HO229;have HO_0:=n0_;have HO226:=n1_;have HB:=n2_;have HO232:=n3_;clear n0_ n1_ n2_ n3_;clear ho hb hg hat;have q18:(x5_1:Int)≤((l0.length:Int):Int):=of_decide_eq_true (by first|(with_reducible assumption)|assumption);obtain ⟨i018,hi018,_,hsz18,_⟩:=info_parts info3;have hroom18:l0.length≤c0:=(Kd.V_reads' HO_0.out).2.1;have hC18:Kd.F (Kd.int .i64) _ _ (some ad221) l0.length l0:=(Kd.V_at (base:=w.heap.size) HO_0.out).2.2;have q018:(0:Int)≤(x5_1:Int):=of_decide_eq_true (by first|(with_reducible assumption)|assumption);have hcut18:=cut_from (P:=Try.prog) 23 3 .i64 Try.underlying23 hi018 1 hsz18 (some ad221) l0.length c0 x5_1 q018 q18;have hr18:=Kd.F_cut (m:=(x5_1:Int).toNat) (c:=c0) hC18 (by omega) hroom18;obtain ⟨A18,hA18⟩:∃ A1,A1=(if c0=(x5_1:Int).toNat then (some ad221) else ((some ad221):Option Addr).map (·.add ((x5_1:Int).toNat * 1))):=⟨_,rfl⟩;obtain ⟨c18,hc18⟩:∃ c1,c1=c0 - (x5_1:Int).toNat:=⟨_,rfl⟩;have hy18:y233.length=l0.length - (x5_1:Int).toNat:=(by rw [Ny233.out,lD] <;> omega);rw [show (l0).drop (x5_1:Int).toNat=y233 from Ny233.out.symm] at hr18;replace hr18:Kd.F (Kd.int .i64) _ _ A18 y233.length y233:=(by rw [hA18];exact hr18);rw [← hy18,← hA18,← hc18] at hcut18;have HO237:=qK (show Kd.V (Kd.int .i64) 3 _ w.heap.size _ (.slice A18 y233.length c18) y233 from Kd.V_mk (by rw [hy18,hc18];exact Nat.sub_le_sub_right hroom18 _) hr18);have HC237:=qK (show y233.length≤c18 from by rw [hy18,hc18];exact Nat.sub_le_sub_right hroom18 _);clear hr18 hC18 hroom18 hi018 hsz18 hc18;have KY18:=qK hy18;have KA18:=qK hA18;clear hy18 hA18;replace q18:=eq_true q18)|((with_reducible refine gate_builtin (b:=.append) (xs:=#[.tmp 34,.tmp 37]) rfl ?_);at_builtin;refine Kd.R_append_rows (Kd.int .i64) (w0:=w) w.heap.size rfl (.tmp 34) (.tmp 37) 23 3 (.int .i64 0) 8 rfl Try.underlying23 info3 rfl (by decide) (by omega) v231 y230 y233 _ _ _ (fun k_=>(w.heap.size≤k_)) (fun _=>False) rfl rfl ?aO ?aR (fun _ _ h=>h) (fun _ h=>h.elim) ?aF ?aB ?aS ?aL ?_;(case aR=>repeat (first|exact (Kd.V_reads' HO237.out).2.2|(with_reducible first|refine cL ?_ _|refine cN ?_ _|refine cW ?_)));(case aB=>exact (by repeat (with_reducible first|exact HB.out|apply qA|apply qD|apply qO)));(case aF=>exact (fun k_ hk=>(Nat.le_trans (qZ (by repeat (with_reducible first|exact HB.out|apply qA|apply qD|apply qO))) hk)));(case aO=>exact (by (with_reducible repeat (first|apply rL|apply rN|apply rW));exact HO232.out));(case aS=>exact (qZ (by repeat (with_reducible first|exact HB.out|apply qA|apply qD|apply qO))));(case aL=>have:=LMc14.out;omega);intro v239 w19 ho hb hg hat;rw [← Ny238.out] at ho;have n0_:=qK (Kd.V_afterv (ok:=(fun k_=>(P0_ k_ ∨ w.heap.size≤k_))) (by (with_reducible repeat (first|apply Kd.V_alloc|apply Kd.V_drewN|apply Kd.V_drew));exact HO_0.out) hg hat);have n1_:=qK (Kd.V_afterv (ok:=(fun k_=>(P0_ k_ ∨ w.heap.size≤k_))) (by (with_reducible repeat (first|apply Kd.V_alloc|apply Kd.V_drewN|apply Kd.V_drew));exact HO226.out) hg hat);have n2_:=qK (Kd.V_afterv (ok:=(fun k_=>(P0_ k_ ∨ w.heap.size≤k_))) (by (with_reducible repeat (first|apply Kd.V_alloc|apply Kd.V_drewN|apply Kd.V_drew));exact HO237.out) hg hat);have n3_:=qK (hb);have n4_:=qK (ho);clear HO_0;clear HO226;clear HO237;clear HB;clear HO232;have HO_0:=n0_;have HO226:=n1_;have HO237:=n2_;have HB:=n3_;have HO240:=n4_;clear n0_ n1_ n2_ n3_ n4_;clear ho hb hg hat))
           go_ret
           exact ⟨_,by first|rfl|(simp [errW_none,errW_some] <;> rfl)|(simp [*,errW_none,errW_some] <;> rfl),Kd.V_mono (Kd.R_V (by (with_reducible repeat (first|apply rL|apply rN|apply rW));exact HO240.out)) (fun k_ hk=>by first|exact ⟨(.inr (hk.1)),hk.2⟩|exact (.inr (hk))),by repeat (first|(with_reducible first|exact HB.out|apply qA|apply qD|apply qO)|exact HB.out)⟩
          ·rw [if_neg c14] at H;exact absurd H (by simp)
         ·rw [if_neg c11] at H;exact absurd H (by simp)
        ·rw [if_neg c10] at H;exact absurd H (by simp)
       ·rw [if_neg c9] at H;exact absurd H (by simp)
     ·rw [if_neg c6] at H;exact absurd H (by simp)
    ·rw [if_neg c5] at H;have c5b0:decide (x5_1 < (l0.length:Int))=false:=decide_eq_false c5;clear c5;by_cases c20:0≤x5_1
     ·rw [if_pos c20] at H;have c20b0:=eq_true c20;have c20b1:decide (0≤x5_1)=true:=decide_eq_true c20;clear c20;by_cases c21:x5_1≤(l0.length:Int)
      ·rw [if_pos c21] at H;have c21b0:=eq_true c21;have c21b1:decide (x5_1≤(l0.length:Int))=true:=decide_eq_true c21;clear c21;obtain ⟨y241,hy241⟩:∃ y_:List Int,y_=(l0.take (x5_1:Int).toNat):=⟨_,rfl⟩;replace H:(if ([]:List Int).length + y241.length < 17592186044416 then ((some (([]:List Int) ++ y241:List Int)).bind fun y246=>(if y246.length < 17592186044416 then ((some (y246 ++ [a1]:List Int)).bind fun y249=>((some (l0.drop (x5_1:Int).toNat:List Int)).bind fun y252=>(if y249.length + y252.length < 17592186044416 then (some (y249 ++ y252)) else (none)))) else (none))) else (none))=some r:=by first|(rw [hy241];with_reducible exact H)|(have H2_:=(Option.bind_some _ _).symm.trans H;rw [hy241];with_reducible exact H2_)|(have H2_:=(Option.bind_some _ _).symm.trans H;with_reducible exact H2_)|with_reducible exact H|(rw [hy241];exact H)|exact H
       have Ny241:=qK hy241;clear hy241;by_cases c22:([]:List Int).length + y241.length < 17592186044416
       ·rw [if_pos c22] at H;have LMc22:=qK c22;clear c22;obtain ⟨y246,hy246⟩:∃ y_:List Int,y_=(([]:List Int) ++ y241):=⟨_,rfl⟩;replace H:(if y246.length < 17592186044416 then ((some (y246 ++ [a1]:List Int)).bind fun y249=>((some (l0.drop (x5_1:Int).toNat:List Int)).bind fun y252=>(if y249.length + y252.length < 17592186044416 then (some (y249 ++ y252)) else (none)))) else (none))=some r:=by first|(rw [hy246];with_reducible exact H)|(have H2_:=(Option.bind_some _ _).symm.trans H;rw [hy246];with_reducible exact H2_)|(have H2_:=(Option.bind_some _ _).symm.trans H;with_reducible exact H2_)|with_reducible exact H|(rw [hy246];exact H)|exact H
        have Ny246:=qK hy246;clear hy246;by_cases c23:y246.length < 17592186044416
        ·rw [if_pos c23] at H;have LMc23:=qK c23;clear c23;obtain ⟨y249,hy249⟩:∃ y_:List Int,y_=(y246 ++ [a1]):=⟨_,rfl⟩;replace H:((some (l0.drop (x5_1:Int).toNat:List Int)).bind fun y252=>(if y249.length + y252.length < 17592186044416 then (some (y249 ++ y252)) else (none)))=some r:=by first|(rw [hy249];with_reducible exact H)|(have H2_:=(Option.bind_some _ _).symm.trans H;rw [hy249];with_reducible exact H2_)|(have H2_:=(Option.bind_some _ _).symm.trans H;with_reducible exact H2_)|with_reducible exact H|(rw [hy249];exact H)|exact H
         have Ny249:=qK hy249;clear hy249;have c24b0:=eq_true (of_decide_eq_true (by first|(with_reducible assumption)|assumption):0≤x5_1);have c25b0:=eq_true (of_decide_eq_true (by first|(with_reducible assumption)|assumption):x5_1≤(l0.length:Int));obtain ⟨y252,hy252⟩:∃ y_:List Int,y_=(l0.drop (x5_1:Int).toNat):=⟨_,rfl⟩;replace H:(if y249.length + y252.length < 17592186044416 then (some (y249 ++ y252)) else (none))=some r:=by first|(rw [hy252];with_reducible exact H)|(have H2_:=(Option.bind_some _ _).symm.trans H;rw [hy252];with_reducible exact H2_)|(have H2_:=(Option.bind_some _ _).symm.trans H;with_reducible exact H2_)|with_reducible exact H|(rw [hy252];exact H)|exact H
         have Ny252:=qK hy252;clear hy252;by_cases c26:y249.length + y252.length < 17592186044416
         ·rw [if_pos c26] at H;have LMc26:=qK c26;clear c26;obtain ⟨y257,hy257⟩:∃ y_:List Int,y_=(y249 ++ y252):=⟨_,rfl⟩;replace H:(some y257)=some r:=by first|(rw [hy257];with_reducible exact H)|(have H2_:=(Option.bind_some _ _).symm.trans H;rw [hy257];with_reducible exact H2_)|(have H2_:=(Option.bind_some _ _).symm.trans H;with_reducible exact H2_)|with_reducible exact H|(rw [hy257];exact H)|exact H
          have Ny257:=qK hy257;clear hy257;obtain rfl:=Option.some.inj H;have q27:(x5_1:Int)≤((l0.length:Int):Int):=of_decide_eq_true (by first|(with_reducible assumption)|assumption);obtain ⟨i027,hi027,_,hsz27,_⟩:=info_parts info3;have hroom27:l0.length≤c0:=(Kd.V_reads' HO_0.out).2.1;have hC27:Kd.F (Kd.int .i64) _ _ A0 l0.length l0:=(Kd.V_at (base:=w.heap.size) HO_0.out).2.2;have hcut27:=cut_to (P:=Try.prog) 23 3 .i64 Try.underlying23 hi027 A0 l0.length c0 x5_1 (of_decide_eq_true (by first|(with_reducible assumption)|assumption)) q27 hroom27;have hr27:=Kd.F_take (m:=(x5_1:Int).toNat) hC27 (by omega);have hy27:y241.length=(x5_1:Int).toNat:=(by rw [Ny241.out,lT];omega);rw [← Ny241.out] at hr27;rw [← hy27] at hcut27;have HO245:=qK (show Kd.V (Kd.int .i64) 3 _ w.heap.size _ (.slice A0 y241.length c0) y241 from Kd.V_mk (by omega) hr27);have HC245:=qK (show y241.length≤c0 from by omega);clear hr27 hC27 hroom27 hi027 hsz27;have KY27:=qK hy27;clear hy27;replace q27:=eq_true q27;go_wp2_with (first|((with_reducible refine gate_builtin (b:=.append) (xs:=#[.tmp 25,.tmp 28]) rfl ?_);at_builtin;refine Kd.R_append_rows (Kd.int .i64) (w0:=w) w.heap.size rfl (.tmp 25) (.tmp 28) 23 3 (.int .i64 0) 8 rfl Try.underlying23 info3 rfl (by decide) (by omega) (.slice none 0 0) ([]:List Int) y241 _ _ _ (fun k_=>(w.heap.size≤k_)) (fun _=>False) rfl rfl ?aO ?aR (fun _ _ h=>h) (fun _ h=>h.elim) ?aF ?aB ?aS ?aL ?_;(case aR=>repeat (first|exact (Kd.V_reads' HO245.out).2.2|(with_reducible first|refine cL ?_ _|refine cN ?_ _|refine cW ?_)));(case aB=>exact (by repeat (with_reducible first|exact HB.out|apply qA|apply qD|apply qO)));(case aF=>exact (fun k_ hk=>(Nat.le_trans (qZ (by repeat (with_reducible first|exact HB.out|apply qA|apply qD|apply qO))) hk)));(case aO=>exact ((Kd.R_nil _ _ _ _ (fun k_=>(w.heap.size≤k_)))));(case aS=>exact (qZ (by repeat (with_reducible first|exact HB.out|apply qA|apply qD|apply qO))));(case aL=>have:=LMc22.out;omega);intro v247 w28 ho hb hg hat;rw [← Ny246.out] at ho;have n0_:=qK (Kd.V_afterv (Kd.V_apart_nil (by (with_reducible repeat (first|apply Kd.V_alloc|apply Kd.V_drewN|apply Kd.V_drew));exact HO_0.out)) hg hat);have n1_:=qK (Kd.V_afterv (Kd.V_apart_nil (by (with_reducible repeat (first|apply Kd.V_alloc|apply Kd.V_drewN|apply Kd.V_drew));exact HO245.out)) hg hat);have n2_:=qK (hb);have n3_:=qK (ho);clear HO_0;clear HO245;clear HB;have HO_0:=n0_;have HO245:=n1_;have HB:=n2_;have HO248:=n3_;clear n0_ n1_ n2_ n3_;clear ho hb hg hat)|((with_reducible refine gate_builtin (b:=.append) (xs:=#[.tmp 30,.tmp 32]) rfl ?_);at_builtin;refine Kd.R_append (Kd.int .i64) (w0:=w) w.heap.size rfl (.tmp 30) (.tmp 32) 23 3 (.int .i64 0) 8 rfl Try.underlying23 info3 rfl (by decide) (by omega) v247 y246 a1 [.int .i64 a1] (fun k_=>(w.heap.size≤k_)) (fun _=>False) rfl rfl ?aP (fun _ hk=>hk.elim) ?aF ?aO ?aB ?aS ?aL ?_;(case aP=>exact rfl);(case aB=>exact (by repeat (with_reducible first|exact HB.out|apply qA|apply qD|apply qO)));(case aF=>exact (fun k_ hk=>(Nat.le_trans (qZ (by repeat (with_reducible first|exact HB.out|apply qA|apply qD|apply qO))) hk)));(case aO=>exact (by (with_reducible repeat (first|apply rL|apply rN|apply rW));exact HO248.out));(case aS=>exact (qZ (by repeat (with_reducible first|exact HB.out|apply qA|apply qD|apply qO))));(case aL=>have:=LMc23.out;omega);intro v250 w29 ho hb hg hat;rw [← Ny249.out] at ho;have n0_:=qK (Kd.V_afterv (ok:=(fun k_=>(P0_ k_ ∨ w.heap.size≤k_))) (by (with_reducible repeat (first|apply Kd.V_alloc|apply Kd.V_drewN|apply Kd.V_drew));exact HO_0.out) hg hat);have n1_:=qK (Kd.V_afterv (ok:=(fun k_=>(P0_ k_ ∨ w.heap.size≤k_))) (by (with_reducible repeat (first|apply Kd.V_alloc|apply Kd.V_drewN|apply Kd.V_drew));exact HO245.out) hg hat);have n2_:=qK (hb);have n3_:=qK (ho);clear HO_0;clear HO245;clear HB;clear HO248;have HO_0:=n0_;have HO245:=n1_;have HB:=n2_;have HO251:=n3_;clear n0_ n1_ n2_ n3_;clear ho hb hg hat;have q30:(x5_1:Int)≤((l0.length:Int):Int):=of_decide_eq_true (by first|(with_reducible assumption)|assumption);obtain ⟨i030,hi030,_,hsz30,_⟩:=info_parts info3;have hroom30:l0.length≤c0:=(Kd.V_reads' HO_0.out).2.1;have hC30:Kd.F (Kd.int .i64) _ _ A0 l0.length l0:=(Kd.V_at (base:=w.heap.size) HO_0.out).2.2;have q030:(0:Int)≤(x5_1:Int):=of_decide_eq_true (by first|(with_reducible assumption)|assumption);have hcut30:=cut_from (P:=Try.prog) 23 3 .i64 Try.underlying23 hi030 1 hsz30 A0 l0.length c0 x5_1 q030 q30;have hr30:=Kd.F_cut (m:=(x5_1:Int).toNat) (c:=c0) hC30 (by omega) hroom30;obtain ⟨A30,hA30⟩:∃ A1,A1=(if c0=(x5_1:Int).toNat then A0 else (A0:Option Addr).map (·.add ((x5_1:Int).toNat * 1))):=⟨_,rfl⟩;obtain ⟨c30,hc30⟩:∃ c1,c1=c0 - (x5_1:Int).toNat:=⟨_,rfl⟩;have hy30:y252.length=l0.length - (x5_1:Int).toNat:=(by rw [Ny252.out,lD] <;> omega);rw [show (l0).drop (x5_1:Int).toNat=y252 from Ny252.out.symm] at hr30;replace hr30:Kd.F (Kd.int .i64) _ _ A30 y252.length y252:=(by rw [hA30];exact hr30);rw [← hy30,← hA30,← hc30] at hcut30;have HO256:=qK (show Kd.V (Kd.int .i64) 3 _ w.heap.size _ (.slice A30 y252.length c30) y252 from Kd.V_mk (by rw [hy30,hc30];exact Nat.sub_le_sub_right hroom30 _) hr30);have HC256:=qK (show y252.length≤c30 from by rw [hy30,hc30];exact Nat.sub_le_sub_right hroom30 _);clear hr30 hC30 hroom30 hi030 hsz30 hc30;have KY30:=qK hy30;have KA30:=qK hA30;clear hy30 hA30;replace q30:=eq_true q30)|((with_reducible refine gate_builtin (b:=.append) (xs:=#[.tmp 34,.tmp 37]) rfl ?_);at_builtin;refine Kd.R_append_rows (Kd.int .i64) (w0:=w) w.heap.size rfl (.tmp 34) (.tmp 37) 23 3 (.int .i64 0) 8 rfl Try.underlying23 info3 rfl (by decide) (by omega) v250 y249 y252 _ _ _ (fun k_=>(w.heap.size≤k_)) (fun _=>False) rfl rfl ?aO ?aR (fun _ _ h=>h) (fun _ h=>h.elim) ?aF ?aB ?aS ?aL ?_;(case aR=>repeat (first|exact (Kd.V_reads' HO256.out).2.2|(with_reducible first|refine cL ?_ _|refine cN ?_ _|refine cW ?_)));(case aB=>exact (by repeat (with_reducible first|exact HB.out|apply qA|apply qD|apply qO)));(case aF=>exact (fun k_ hk=>(Nat.le_trans (qZ (by repeat (with_reducible first|exact HB.out|apply qA|apply qD|apply qO))) hk)));(case aO=>exact (by (with_reducible repeat (first|apply rL|apply rN|apply rW));exact HO251.out));(case aS=>exact (qZ (by repeat (with_reducible first|exact HB.out|apply qA|apply qD|apply qO))));(case aL=>have:=LMc26.out;omega);intro v258 w31 ho hb hg hat;rw [← Ny257.out] at ho;have n0_:=qK (Kd.V_afterv (ok:=(fun k_=>(P0_ k_ ∨ w.heap.size≤k_))) (by (with_reducible repeat (first|apply Kd.V_alloc|apply Kd.V_drewN|apply Kd.V_drew));exact HO_0.out) hg hat);have n1_:=qK (Kd.V_afterv (ok:=(fun k_=>(P0_ k_ ∨ w.heap.size≤k_))) (by (with_reducible repeat (first|apply Kd.V_alloc|apply Kd.V_drewN|apply Kd.V_drew));exact HO245.out) hg hat);have n2_:=qK (Kd.V_afterv (ok:=(fun k_=>(P0_ k_ ∨ w.heap.size≤k_))) (by (with_reducible repeat (first|apply Kd.V_alloc|apply Kd.V_drewN|apply Kd.V_drew));exact HO256.out) hg hat);have n3_:=qK (hb);have n4_:=qK (ho);clear HO_0;clear HO245;clear HO256;clear HB;clear HO251;have HO_0:=n0_;have HO245:=n1_;have HO256:=n2_;have HB:=n3_;have HO259:=n4_;clear n0_ n1_ n2_ n3_ n4_;clear ho hb hg hat))
          go_ret
          exact ⟨_,by first|rfl|(simp [errW_none,errW_some] <;> rfl)|(simp [*,errW_none,errW_some] <;> rfl),Kd.V_mono (Kd.R_V (by (with_reducible repeat (first|apply rL|apply rN|apply rW));exact HO259.out)) (fun k_ hk=>by first|exact ⟨(.inr (hk.1)),hk.2⟩|exact (.inr (hk))),by repeat (first|(with_reducible first|exact HB.out|apply qA|apply qD|apply qO)|exact HB.out)⟩
         ·rw [if_neg c26] at H;exact absurd H (by simp)
        ·rw [if_neg c23] at H;exact absurd H (by simp)
       ·rw [if_neg c22] at H;exact absurd H (by simp)
      ·rw [if_neg c21] at H;exact absurd H (by simp)
     ·rw [if_neg c20] at H;exact absurd H (by simp)

/-! ### spec_l14WaitsFor: function 33 -/
mutual
def spec_l14WaitsFor.l0 : Nat→List (List Int)→List (S47)→Int→Int→List (S47)→List (S47)→List (S47)→List Int→List Int→Option ((List (List Int)))
 | 0,_,_,_,_,_,_,_,_,_=>none
 | k + 1,x3,x10,x11,x12,x261000,x261001,x261002,x261003,x261004=>if x12 < x11 then (if 0≤x12 then (if x12 < (x10.length:Int) then (spec_l14WaitsFor.l1 k x3 x10 x11 x12 x261000 (x261000.length:Int) 0 x261000 x261001 x261002 x261003 x261004 ((rd_T47 x10 x12).f0) ((rd_T47 x10 x12).f1) ((rd_T47 x10 x12).f2)) else (none)) else (none)) else (some x3)
def spec_l14WaitsFor.l1 : Nat→List (List Int)→List (S47)→Int→Int→List (S47)→Int→Int→List (S47)→List (S47)→List (S47)→List Int→List Int→Int→Int→Int→Option ((List (List Int)))
 | 0,_,_,_,_,_,_,_,_,_,_,_,_,_,_,_=>none
 | k + 1,x3,x10,x11,x12,x17,x18,x19,x261000,x261001,x261002,x261003,x261004,x266000,x266001,x266002=>if x19 < x18 then (if 0≤x19 then (if x19 < (x17.length:Int) then ((spec_l13Clash.f ((rd_T47 x17 x19).f0) ((rd_T47 x17 x19).f1) ((rd_T47 x17 x19).f2) x266000 x266001 x266002).bind fun t268=>(if t268=true then (if 0≤x266000 then (if x266000 < (x3.length:Int) then ((spec_l7Put.f k (rd_L3 x3 x266000) ((rd_T47 x17 x19).f0)).bind fun t270=>(spec_l14WaitsFor.l1 k (x3.set (x266000:Int).toNat t270) x10 x11 x12 x17 x18 (wrap64 (x19 + 1)) x261000 x261001 x261002 x261003 x261004 x266000 x266001 x266002)) else (none)) else (none)) else (spec_l14WaitsFor.l1 k x3 x10 x11 x12 x17 x18 (wrap64 (x19 + 1)) x261000 x261001 x261002 x261003 x261004 x266000 x266001 x266002))) else (none)) else (none)) else (spec_l14WaitsFor.l0 k x3 x10 x11 (wrap64 (x12 + 1)) x261000 x261001 x261002 x261003 x261004)
end
def spec_l14WaitsFor.f (k:Nat) (l0_0:List (S47)) (l0_1:List (S47)) (l0_2:List (S47)) (l0_3:List Int) (l0_4:List Int):Option ((List (List Int))):=if 6≤11728124029610 then (spec_l14WaitsFor.l0 k (List.replicate 6 []) l0_1 (l0_1.length:Int) 0 l0_0 l0_1 l0_2 l0_3 l0_4) else (none)
theorem spec_l14WaitsFor.mono_l : ∀ k,(∀ y0 y1 y2 y3 y4 y5 y6 y7 y8,LeO (spec_l14WaitsFor.l0 k y0 y1 y2 y3 y4 y5 y6 y7 y8) (spec_l14WaitsFor.l0 (k + 1) y0 y1 y2 y3 y4 y5 y6 y7 y8))∧(∀ y0 y1 y2 y3 y4 y5 y6 y7 y8 y9 y10 y11 y12 y13 y14,LeO (spec_l14WaitsFor.l1 k y0 y1 y2 y3 y4 y5 y6 y7 y8 y9 y10 y11 y12 y13 y14) (spec_l14WaitsFor.l1 (k + 1) y0 y1 y2 y3 y4 y5 y6 y7 y8 y9 y10 y11 y12 y13 y14))
 | 0=>⟨fun _ _ _ _ _ _ _ _ _ r h=>by simp [spec_l14WaitsFor.l0] at h,fun _ _ _ _ _ _ _ _ _ _ _ _ _ _ _ r h=>by simp [spec_l14WaitsFor.l1] at h⟩
 | k + 1=>by
  obtain ⟨ih0,ih1⟩:=spec_l14WaitsFor.mono_l k;refine ⟨?_,?_⟩
  ·intro y0 y1 y2 y3 y4 y5 y6 y7 y8;unfold spec_l14WaitsFor.l0
   repeat' first
   | (with_reducible exact ih0 _ _ _ _ _ _ _ _ _)
   | (with_reducible exact ih1 _ _ _ _ _ _ _ _ _ _ _ _ _ _ _)
   | (with_reducible exact spec_l7Put.mono _ _ _)
   | (with_reducible exact LeO.refl _)
   | (with_reducible exact LeO.none _)
   | (with_reducible refine LeO.ite ?_ ?_)
   | (with_reducible refine LeO.bind ?_ (fun _=>?_))
   | exact ih0 _ _ _ _ _ _ _ _ _
   | exact ih1 _ _ _ _ _ _ _ _ _ _ _ _ _ _ _
   | exact spec_l7Put.mono _ _ _
   | exact LeO.none _
   | refine LeO.ite ?_ ?_
   | refine LeO.bind ?_ (fun _=>?_)
  ·intro y0 y1 y2 y3 y4 y5 y6 y7 y8 y9 y10 y11 y12 y13 y14;unfold spec_l14WaitsFor.l1
   repeat' first
   | (with_reducible exact ih0 _ _ _ _ _ _ _ _ _)
   | (with_reducible exact ih1 _ _ _ _ _ _ _ _ _ _ _ _ _ _ _)
   | (with_reducible exact spec_l7Put.mono _ _ _)
   | (with_reducible exact LeO.refl _)
   | (with_reducible exact LeO.none _)
   | (with_reducible refine LeO.ite ?_ ?_)
   | (with_reducible refine LeO.bind ?_ (fun _=>?_))
   | exact ih0 _ _ _ _ _ _ _ _ _
   | exact ih1 _ _ _ _ _ _ _ _ _ _ _ _ _ _ _
   | exact spec_l7Put.mono _ _ _
   | exact LeO.none _
   | refine LeO.ite ?_ ?_
   | refine LeO.bind ?_ (fun _=>?_)
theorem spec_l14WaitsFor.mono : ∀ a0 a1 a2 a3 a4 k,LeO (spec_l14WaitsFor.f k a0 a1 a2 a3 a4) (spec_l14WaitsFor.f (k + 1) a0 a1 a2 a3 a4):=by
 intro a0 a1 a2 a3 a4 k;obtain ⟨ih0,ih1⟩:=spec_l14WaitsFor.mono_l k;unfold spec_l14WaitsFor.f
 repeat' first
   | (with_reducible exact ih0 _ _ _ _ _ _ _ _ _)
   | (with_reducible exact ih1 _ _ _ _ _ _ _ _ _ _ _ _ _ _ _)
   | (with_reducible exact spec_l7Put.mono _ _ _)
   | (with_reducible exact LeO.refl _)
   | (with_reducible exact LeO.none _)
   | (with_reducible refine LeO.ite ?_ ?_)
   | (with_reducible refine LeO.bind ?_ (fun _=>?_))
   | exact ih0 _ _ _ _ _ _ _ _ _
   | exact ih1 _ _ _ _ _ _ _ _ _ _ _ _ _ _ _
   | exact spec_l7Put.mono _ _ _
   | exact LeO.none _
   | refine LeO.ite ?_ ?_
   | refine LeO.bind ?_ (fun _=>?_)
def spec_l14WaitsFor.T9 : Bool × List (List Nat × List Nat):=(true,[([],[]),([],[]),([1],[1]),([],[]),([],[]),([4],[4]),([3,5],[3,5]),([6],[6]),([],[]),([8],[8]),([7,9],[7,9]),([0,2,0,1,2,3,4,5,6,7,8,9,10],[0,2]),([11,10,10,0,1,2,3,4,5,6,7,8,9,10],[10,11])])
def spec_l14WaitsFor.B9 : List Nat:=[0,0,2,0,0,16,56,120,0,256,1016,2047,4095]
theorem spec_l14WaitsFor.tab9 : rtab .any (opsOf Try.f33 9)=spec_l14WaitsFor.T9:=by kernel_rfl
theorem spec_l14WaitsFor.bits9 : waitsOk spec_l14WaitsFor.T9.2 spec_l14WaitsFor.B9=true:=by kernel_rfl
set_option maxHeartbeats 8000000 in
set_option maxRecDepth 100000 in
theorem spec_l14WaitsFor.calls (k:Nat) (A0_0:Option Addr) (c0_0:Nat) (l0_0:List (S47)) (A0_1:Option Addr) (c0_1:Nat) (l0_1:List (S47)) (A0_2:Option Addr) (c0_2:Nat) (l0_2:List (S47)) (A0_3:Option Addr) (c0_3:Nat) (l0_3:List Int) (A0_4:Option Addr) (c0_4:Nat) (l0_4:List Int) (r:List (List Int)) (w:World) (hr0_0:Kd.C k47 w A0_0 l0_0.length l0_0) (hc0_0:l0_0.length≤c0_0) (hr0_1:Kd.C k47 w A0_1 l0_1.length l0_1) (hc0_1:l0_1.length≤c0_1) (hr0_2:Kd.C k47 w A0_2 l0_2.length l0_2) (hc0_2:l0_2.length≤c0_2) (hr0_3:Kd.C (Kd.int .i64) w A0_3 l0_3.length l0_3) (hc0_3:l0_3.length≤c0_3) (hr0_4:Kd.C (Kd.int .i64) w A0_4 l0_4.length l0_4) (hc0_4:l0_4.length≤c0_4) (h:spec_l14WaitsFor.f k l0_0 l0_1 l0_2 l0_3 l0_4=some r) :
  Calls Try.prog 33 #[.agg #[.slice A0_0 l0_0.length c0_0,.slice A0_1 l0_1.length c0_1,.slice A0_2 l0_2.length c0_2,.slice A0_3 l0_3.length c0_3,.slice A0_4 l0_4.length c0_4]] w fun e w'=>∃ v0_:Value,e=.returned (v0_)∧Kd.N (Kd.slice 3 (Kd.int .i64)) 23 w' w.heap.size (fun k_=>(w.heap.size≤k_)) v0_ r∧Below w.heap.size w w':=by
 have hu31:=Try.underlying31;have hu47:=Try.underlying47;have HR0_0:=qK hr0_0;have HC0_0:=qK hc0_0;clear hr0_0 hc0_0;have HR0_1:=qK hr0_1;have HC0_1:=qK hc0_1;clear hr0_1 hc0_1;have HR0_2:=qK hr0_2;have HC0_2:=qK hc0_2;clear hr0_2 hc0_2;have HR0_3:=qK hr0_3;have HC0_3:=qK hc0_3;clear hr0_3 hc0_3;have HR0_4:=qK hr0_4;have HC0_4:=qK hc0_4;clear hr0_4 hc0_4;have HB:=qK (Below.refl w.heap.size w);have H:(if 6≤11728124029610 then (spec_l14WaitsFor.l0 k (List.replicate 6 []) l0_1 (l0_1.length:Int) 0 l0_0 l0_1 l0_2 l0_3 l0_4) else (none))=some r:=h;clear h;by_cases c2:6≤11728124029610
 ·rw [if_pos c2] at H;have c2b0:=eq_true c2;have c2b1:decide (6≤11728124029610)=true:=decide_eq_true c2;clear c2;obtain ⟨y261,hy261⟩:∃ y_:List (List Int),y_=(List.replicate 6 []):=⟨_,rfl⟩;replace H:(spec_l14WaitsFor.l0 k y261 l0_1 (l0_1.length:Int) 0 l0_0 l0_1 l0_2 l0_3 l0_4)=some r:=by first|(rw [hy261];with_reducible exact H)|(have H2_:=(Option.bind_some _ _).symm.trans H;rw [hy261];with_reducible exact H2_)|(have H2_:=(Option.bind_some _ _).symm.trans H;with_reducible exact H2_)|with_reducible exact H|(rw [hy261];exact H)|exact H
  have Ny261:=qK hy261;clear hy261;have H':=qK H;clear H;go_enter Try.func33,Try.ntmps33
  go_wp2_with (first|((with_reducible refine gate_dst (N:=1) rfl ?_);refine box_event ?hg (N:=1) ?hd (cs:=#[.slice A0_0 l0_0.length c0_0,.slice A0_1 l0_1.length c0_1,.slice A0_2 l0_2.length c0_2,.slice A0_3 l0_3.length c0_3,.slice A0_4 l0_4.length c0_4]) (t:=31) ?hr ?_;(case hd=>rfl);(case hg=>rfl);(case hr=>(go_simp;try rfl));intro gb260 hg w3 hbox hb;have n0_:=qK (qT (by repeat (with_reducible first|exact HB.out|apply qA|apply qD|apply qO)) hb);have n1_:=qK (hbox);have n2_:=qK ((by rw [hg];exact (qZ (by repeat (with_reducible first|exact HB.out|apply qA|apply qD|apply qO))):w.heap.size≤gb260));have n3_:=qK ((by rw [hg];exact (qZ (by repeat (with_reducible first|exact HB.out|apply qA|apply qD|apply qO))):w.heap.size≤gb260));clear HB;have HB:=n0_;have BK260:=n1_;have GW260:=n2_;have GE260:=n3_;clear n0_ n1_ n2_ n3_;clear hb hbox hg)|((with_reducible refine gate_dst (N:=8) rfl ?_);refine Kd.N_make (Kd.slice 3 (Kd.int .i64)) _ 23 rfl (N':=8) rfl 38 _ _ rfl 6 rfl rfl Try.underlying38 (.slice none 0 0) 24 info23 rfl (by decide) (by omega) [] (ok:=fun k_=>w3.heap.size≤k_) (okp:=fun _=>False) (Kd.FK_slice_mk (Nat.le_refl _) (Kd.F_nil _ _ _)) (fun _ hk=>hk.elim) (Nat.le_refl _) (by omega) (by omega) (Below.refl _ _) (Nat.le_refl _) ?_;intro v262 w4 ho5 hb hg_ hnew_;clear hg_ hnew_;(first|rw [← Ny261.out] at ho5|(simp only [Int.reduceToNat] at ho5;rw [← Ny261.out] at ho5));have n0_:=qK (Kd.N_lower (Kd.N_mono (ok':=fun k_=>(w.heap.size≤k_)∧k_ ≠ gb260) ho5 (fun k_ hk_=>⟨(Nat.le_trans (qZ (by repeat (with_reducible first|exact HB.out|apply qA|apply qD|apply qO|refine qS ?_ GE260.out))) hk_),(Kd.freshB (g:=gb260) (o:=_) (by (with_reducible repeat (first|refine qN ?_ _|refine qW ?_|refine qL ?_ _));exact BK260.out) k_ hk_)⟩)) (qZ (by repeat (with_reducible first|exact HB.out|apply qA|apply qD|apply qO|refine qS ?_ GE260.out))));have n1_:=qK (qB (g:=gb260) (o:=_) (by (with_reducible repeat (first|refine qN ?_ _|refine qW ?_|refine qL ?_ _));exact BK260.out) hb);have n2_:=qK (qT (by repeat (with_reducible first|exact HB.out|apply qA|apply qD|apply qO|refine qS ?_ GE260.out)) hb);clear BK260;clear HB;have HO263:=n0_;have BK260:=n1_;have HB:=n2_;clear n0_ n1_ n2_;clear hb ho5;have hcz6_0:w4.cell? ⟨gb260,0,none⟩=some (.slice A0_0 l0_0.length c0_0):=(qC BK260.out 0).trans rfl;have hcz6_1:w4.cell? ⟨gb260,1,none⟩=some (.slice A0_1 l0_1.length c0_1):=(qC BK260.out 1).trans rfl;have hcz6_2:w4.cell? ⟨gb260,2,none⟩=some (.slice A0_2 l0_2.length c0_2):=(qC BK260.out 2).trans rfl;have hcz6_3:w4.cell? ⟨gb260,3,none⟩=some (.slice A0_3 l0_3.length c0_3):=(qC BK260.out 3).trans rfl;have hcz6_4:w4.cell? ⟨gb260,4,none⟩=some (.slice A0_4 l0_4.length c0_4):=(qC BK260.out 4).trans rfl;have hfz6_0:=qF BK260.out 0;have hfz6_1:=qF BK260.out 1;have hfz6_2:=qF BK260.out 2;have hfz6_3:=qF BK260.out 3;have hfz6_4:=qF BK260.out 4))
  go_loopg [12] k (fun kq v12 w'=>∃ (x3_1:List (List Int)) (x12_1:Int),v12=.int .i64 x12_1∧Aside0 (spec_l14WaitsFor.l0 kq x3_1 l0_1 (l0_1.length:Int) x12_1 l0_0 l0_1 l0_2 l0_3 l0_4=some r)∧Aside0 (kq≤k)∧Aside0 (Kd.N (Kd.slice 3 (Kd.int .i64)) 23 w' w.heap.size (fun k_=>(w.heap.size≤k_)∧k_ ≠ gb260) v262 x3_1)∧Aside0 (w'.heap[gb260]?=some (.cells #[(.slice A0_0 l0_0.length c0_0),(.slice A0_1 l0_1.length c0_1),(.slice A0_2 l0_2.length c0_2),(.slice A0_3 l0_3.length c0_3),(.slice A0_4 l0_4.length c0_4)] 31 (0,0)))∧Aside0 (Below w.heap.size w w'))
  case atStart=>exact ⟨(y261),(0),(by first|rfl|(simp;done)|(simp [*];done)),H',⟨Nat.le_refl _⟩,⟨by (with_reducible repeat (first|apply Kd.N_alloc|apply Kd.N_drewN|apply Kd.N_drew));exact HO263.out⟩,⟨by (with_reducible repeat (first|refine qN ?_ _|refine qW ?_|refine qL ?_ _));exact BK260.out⟩,⟨by repeat (first|(with_reducible first|exact HB.out|apply qA|apply qD|apply qO|refine qS ?_ GE260.out)|exact HB.out)⟩⟩
  case round =>
   clear H';try clear c2
   try clear c2b0
   try clear c2b1
   try clear p2
   try clear c3
   try clear hcz6_0
   try clear hcz6_1
   try clear hcz6_2
   try clear hcz6_3
   try clear hcz6_4
   try clear hfz6_0
   try clear hfz6_1
   try clear hfz6_2
   try clear hfz6_3
   try clear hfz6_4
   obtain ⟨x3_1,x12_1,rfl,HA,HK1,HO_3,BK260,HB⟩:=hrel;cases gk with
   | zero=>exact absurd HA.out (by simp [spec_l14WaitsFor.l0])
   | succ k1 =>
    have H:=HA.out;clear HA;simp only [spec_l14WaitsFor.l0] at H;by_cases c7:x12_1 < (l0_1.length:Int)
    ·rw [if_pos c7] at H;have c7b0:decide (x12_1 < (l0_1.length:Int))=true:=decide_eq_true c7;clear c7;by_cases c8:0≤x12_1
     ·rw [if_pos c8] at H;have c8b0:decide (0≤x12_1)=true:=decide_eq_true c8;clear c8;by_cases c9:x12_1 < (l0_1.length:Int)
      ·rw [if_pos c9] at H;have c9b0:decide (x12_1 < (l0_1.length:Int))=true:=decide_eq_true c9;clear c9;have H':=qK H;clear H;have p264:0≤(x12_1:Int):=of_decide_eq_true (by first|(with_reducible assumption)|assumption);have q264:x12_1 < (l0_1.length:Int):=of_decide_eq_true (by first|(with_reducible assumption)|assumption);obtain ⟨ad264,e264,hx264_0,hx264_1,hx264_2⟩:=at_T47 HR0_1.out x12_1 p264 q264;cases e264
       replace hx264_0:=(HB.out.cell (World.block_lt_of_cell? w _ hx264_0)).trans hx264_0;replace hx264_1:=(HB.out.cell (World.block_lt_of_cell? w _ hx264_1)).trans hx264_1;replace hx264_2:=(HB.out.cell (World.block_lt_of_cell? w _ hx264_2)).trans hx264_2;replace p264:=eq_true p264;replace q264:=eq_true q264;go_wp2_with (first|((with_reducible refine gate_dst (N:=5) rfl ?_);refine box_event ?hg (N:=5) ?hd (cs:=#[.int .i64 0,.int .i64 0,.int .i64 0]) (t:=47) ?hr ?_;(case hd=>rfl);(case hg=>rfl);(case hr=>(go_simp;try rfl));intro gb265 hg w10 hbox hb;have n0_:=qK (Kd.N_below (Kd.N_elderB (by (with_reducible repeat (first|apply Kd.N_alloc|apply Kd.N_drewN|apply Kd.N_drew));exact HO_3.out) gb265 (Nat.le_of_eq hg.symm)) hb);have n1_:=qK (qB (g:=gb260) (o:=_) (by (with_reducible repeat (first|refine qN ?_ _|refine qW ?_|refine qL ?_ _));exact BK260.out) hb);have n2_:=qK (qT (by repeat (with_reducible first|exact HB.out|apply qA|apply qD|apply qO|refine qS ?_ GE260.out)) hb);have n3_:=qK (hbox);have n4_:=qK ((by rw [hg];exact (qZ (by repeat (with_reducible first|exact HB.out|apply qA|apply qD|apply qO|refine qS ?_ GE260.out))):w.heap.size≤gb265));have n5_:=qK ((by rw [hg];exact (qZ (by repeat (with_reducible first|exact HB.out|apply qA|apply qD|apply qO|refine qS ?_ GE260.out))):w.heap.size≤gb265));have n6_:=qK ((by rw [hg];exact Nat.ne_of_lt (blk_lt (g:=gb260) (o:=_) (by (with_reducible repeat (first|refine qN ?_ _|refine qW ?_|refine qL ?_ _));exact BK260.out)):gb260 ≠ gb265));have n7_:=qK ((by rw [hg];exact Nat.ne_of_gt (blk_lt (g:=gb260) (o:=_) (by (with_reducible repeat (first|refine qN ?_ _|refine qW ?_|refine qL ?_ _));exact BK260.out)):gb265 ≠ gb260));clear HO_3;clear BK260;clear HB;have HO_3:=n0_;have BK260:=n1_;have HB:=n2_;have BK265:=n3_;have GW265:=n4_;have GE265:=n5_;have NB260_265:=n6_;have NB265_260:=n7_;clear n0_ n1_ n2_ n3_ n4_ n5_ n6_ n7_;clear hb hbox hg;have hnb11:=NB265_260.out;have hnc11:=NB260_265.out;have hcz12_0:w10.cell? ⟨gb265,0,none⟩=some (.int .i64 0):=(qC BK265.out 0).trans rfl;have hcz12_1:w10.cell? ⟨gb265,1,none⟩=some (.int .i64 0):=(qC BK265.out 1).trans rfl;have hcz12_2:w10.cell? ⟨gb265,2,none⟩=some (.int .i64 0):=(qC BK265.out 2).trans rfl;have hfz12_0:=qF BK265.out 0;have hfz12_1:=qF BK265.out 1;have hfz12_2:=qF BK265.out 2;have hcz13_0:w10.cell? ⟨gb260,0,none⟩=some (.slice A0_0 l0_0.length c0_0):=(qC BK260.out 0).trans rfl;have hcz13_1:w10.cell? ⟨gb260,1,none⟩=some (.slice (some ad264) l0_1.length c0_1):=(qC BK260.out 1).trans rfl;have hcz13_2:w10.cell? ⟨gb260,2,none⟩=some (.slice A0_2 l0_2.length c0_2):=(qC BK260.out 2).trans rfl;have hcz13_3:w10.cell? ⟨gb260,3,none⟩=some (.slice A0_3 l0_3.length c0_3):=(qC BK260.out 3).trans rfl;have hcz13_4:w10.cell? ⟨gb260,4,none⟩=some (.slice A0_4 l0_4.length c0_4):=(qC BK260.out 4).trans rfl;have hfz13_0:=qF BK260.out 0;have hfz13_1:=qF BK260.out 1;have hfz13_2:=qF BK260.out 2;have hfz13_3:=qF BK260.out 3;have hfz13_4:=qF BK260.out 4))
       go_loopg [19] k1 (fun kq v19 w'=>∃ (x3_2:List (List Int)) (x19_2:Int),v19=.int .i64 x19_2∧Aside0 (spec_l14WaitsFor.l1 kq x3_2 l0_1 (l0_1.length:Int) x12_1 l0_0 (l0_0.length:Int) x19_2 l0_0 l0_1 l0_2 l0_3 l0_4 ((rd_T47 l0_1 x12_1).f0) ((rd_T47 l0_1 x12_1).f1) ((rd_T47 l0_1 x12_1).f2)=some r)∧Aside0 (kq≤k1)∧Aside0 (Kd.N (Kd.slice 3 (Kd.int .i64)) 23 w' w.heap.size (fun k_=>(w.heap.size≤k_)∧k_ ≠ gb260∧k_ ≠ gb265) v262 x3_2)∧Aside0 (w'.heap[gb260]?=some (.cells #[(.slice A0_0 l0_0.length c0_0),(.slice (some ad264) l0_1.length c0_1),(.slice A0_2 l0_2.length c0_2),(.slice A0_3 l0_3.length c0_3),(.slice A0_4 l0_4.length c0_4)] 31 (0,0)))∧Aside0 (w'.heap[gb265]?=some (.cells #[.int .i64 ((rd_T47 l0_1 x12_1).f0),.int .i64 ((rd_T47 l0_1 x12_1).f1),.int .i64 ((rd_T47 l0_1 x12_1).f2)] 47 (0,0)))∧Aside0 (Below w.heap.size w w'))
       case atStart=>exact ⟨(x3_1),(0),(by first|rfl|(simp;done)|(simp [*];done)),H',⟨Nat.le_refl _⟩,⟨by (with_reducible repeat (first|apply Kd.N_alloc|apply Kd.N_drewN|apply Kd.N_drew));exact Kd.N_mono (Kd.N_far (p:=⟨gb265,2,none⟩) (Kd.N_far (p:=⟨gb265,1,none⟩) (Kd.N_far (p:=⟨gb265,0,none⟩) (Kd.N_mono HO_3.out (fun k_ hk=>(⟨hk,hk.2⟩:_∧k_ ≠ gb265))) (fun _ hk=>hk.2) (.int .i64 ((rd_T47 l0_1 x12_1).f0))) (fun _ hk=>hk.2) (.int .i64 ((rd_T47 l0_1 x12_1).f1))) (fun _ hk=>hk.2) (.int .i64 ((rd_T47 l0_1 x12_1).f2))) (fun _ hk=>⟨hk.1.1.1,⟨hk.1.1.2,hk.1.2⟩⟩)⟩,⟨by (with_reducible repeat (first|refine qN ?_ _|refine qW ?_|refine qL ?_ _));refine qR ?_ NB260_265.out _;(with_reducible repeat (first|refine qN ?_ _|refine qW ?_|refine qL ?_ _));refine qR ?_ NB260_265.out _;(with_reducible repeat (first|refine qN ?_ _|refine qW ?_|refine qL ?_ _));refine qR ?_ NB260_265.out _;(with_reducible repeat (first|refine qN ?_ _|refine qW ?_|refine qL ?_ _));exact BK260.out⟩,⟨by (with_reducible repeat (first|refine qN ?_ _|refine qW ?_|refine qL ?_ _));refine qP (cs:=#[.int .i64 ((rd_T47 l0_1 x12_1).f0),.int .i64 ((rd_T47 l0_1 x12_1).f1),.int .i64 0]) ?_ 2 _ rfl;(with_reducible repeat (first|refine qN ?_ _|refine qW ?_|refine qL ?_ _));refine qP (cs:=#[.int .i64 ((rd_T47 l0_1 x12_1).f0),.int .i64 0,.int .i64 0]) ?_ 1 _ rfl;(with_reducible repeat (first|refine qN ?_ _|refine qW ?_|refine qL ?_ _));refine qP (cs:=#[.int .i64 0,.int .i64 0,.int .i64 0]) ?_ 0 _ rfl;(with_reducible repeat (first|refine qN ?_ _|refine qW ?_|refine qL ?_ _));exact BK265.out⟩,⟨by repeat (first|(with_reducible first|exact HB.out|apply qA|apply qD|apply qO|refine qS ?_ GE260.out|refine qS ?_ GE265.out)|exact HB.out)⟩⟩
       case round =>
        clear H';try clear c1
        try clear c2
        try clear c2b0
        try clear c2b1
        try clear p2
        try clear q2
        try clear hx2
        try clear c3
        try clear c7
        try clear c7b0
        try clear c8
        try clear c8b0
        try clear c9
        try clear c9b0
        try clear c11
        try clear hcz12_0
        try clear hcz12_1
        try clear hcz12_2
        try clear hcz13_0
        try clear hcz13_1
        try clear hcz13_2
        try clear hcz13_3
        try clear hcz13_4
        try clear hcz6_0
        try clear hcz6_1
        try clear hcz6_2
        try clear hcz6_3
        try clear hcz6_4
        try clear hfz12_0
        try clear hfz12_1
        try clear hfz12_2
        try clear hfz13_0
        try clear hfz13_1
        try clear hfz13_2
        try clear hfz13_3
        try clear hfz13_4
        try clear hfz6_0
        try clear hfz6_1
        try clear hfz6_2
        try clear hfz6_3
        try clear hfz6_4
        try clear hx264_0
        try clear hx264_1
        try clear hx264_2
        try clear p2
        try clear p264
        try clear q264
        obtain ⟨x3_2,x19_2,rfl,HA,HK2,HO_3,BK260,BK265,HB⟩:=hrel;cases gk with
        | zero=>exact absurd HA.out (by simp [spec_l14WaitsFor.l1])
        | succ k2 =>
         have H:=HA.out;clear HA;simp only [spec_l14WaitsFor.l1] at H;by_cases c14:x19_2 < (l0_0.length:Int)
         ·rw [if_pos c14] at H;have c14b0:decide (x19_2 < (l0_0.length:Int))=true:=decide_eq_true c14;clear c14;by_cases c15:0≤x19_2
          ·rw [if_pos c15] at H;have c15b0:decide (0≤x19_2)=true:=decide_eq_true c15;clear c15;by_cases c16:x19_2 < (l0_0.length:Int)
           ·rw [if_pos c16] at H;have c16b0:decide (x19_2 < (l0_0.length:Int))=true:=decide_eq_true c16;clear c16;replace H:=Option.bind_eq_some_iff.mp H;obtain ⟨t268,A170,H⟩:=H;replace H:(if t268=true then (if 0≤((rd_T47 l0_1 x12_1).f0) then (if ((rd_T47 l0_1 x12_1).f0) < (x3_2.length:Int) then ((spec_l7Put.f k2 (rd_L3 x3_2 ((rd_T47 l0_1 x12_1).f0)) ((rd_T47 l0_0 x19_2).f0)).bind fun t270=>(spec_l14WaitsFor.l1 k2 (x3_2.set (((rd_T47 l0_1 x12_1).f0):Int).toNat t270) l0_1 (l0_1.length:Int) x12_1 l0_0 (l0_0.length:Int) (wrap64 (x19_2 + 1)) l0_0 l0_1 l0_2 l0_3 l0_4 ((rd_T47 l0_1 x12_1).f0) ((rd_T47 l0_1 x12_1).f1) ((rd_T47 l0_1 x12_1).f2))) else (none)) else (none)) else (spec_l14WaitsFor.l1 k2 x3_2 l0_1 (l0_1.length:Int) x12_1 l0_0 (l0_0.length:Int) (wrap64 (x19_2 + 1)) l0_0 l0_1 l0_2 l0_3 l0_4 ((rd_T47 l0_1 x12_1).f0) ((rd_T47 l0_1 x12_1).f1) ((rd_T47 l0_1 x12_1).f2)))=some r:=H;have A17:=qK A170;clear A170;by_cases c18:t268=true
            ·subst c18;have H1:(if 0≤((rd_T47 l0_1 x12_1).f0) then (if ((rd_T47 l0_1 x12_1).f0) < (x3_2.length:Int) then ((spec_l7Put.f k2 (rd_L3 x3_2 ((rd_T47 l0_1 x12_1).f0)) ((rd_T47 l0_0 x19_2).f0)).bind fun t270=>(spec_l14WaitsFor.l1 k2 (x3_2.set (((rd_T47 l0_1 x12_1).f0):Int).toNat t270) l0_1 (l0_1.length:Int) x12_1 l0_0 (l0_0.length:Int) (wrap64 (x19_2 + 1)) l0_0 l0_1 l0_2 l0_3 l0_4 ((rd_T47 l0_1 x12_1).f0) ((rd_T47 l0_1 x12_1).f1) ((rd_T47 l0_1 x12_1).f2))) else (none)) else (none))=some r:=by rw [if_pos rfl] at H;exact H
             clear H;have H:=H1;clear H1;by_cases c19:0≤((rd_T47 l0_1 x12_1).f0)
             ·rw [if_pos c19] at H;have c19b0:decide (0≤((rd_T47 l0_1 x12_1).f0))=true:=decide_eq_true c19;clear c19;by_cases c20:((rd_T47 l0_1 x12_1).f0) < (x3_2.length:Int)
              ·rw [if_pos c20] at H;have c20b0:decide (((rd_T47 l0_1 x12_1).f0) < (x3_2.length:Int))=true:=decide_eq_true c20;clear c20;replace H:=Option.bind_eq_some_iff.mp H;obtain ⟨t270,A210,H⟩:=H;replace H:(spec_l14WaitsFor.l1 k2 (x3_2.set (((rd_T47 l0_1 x12_1).f0):Int).toNat t270) l0_1 (l0_1.length:Int) x12_1 l0_0 (l0_0.length:Int) (wrap64 (x19_2 + 1)) l0_0 l0_1 l0_2 l0_3 l0_4 ((rd_T47 l0_1 x12_1).f0) ((rd_T47 l0_1 x12_1).f1) ((rd_T47 l0_1 x12_1).f2))=some r:=H;have A21:=qK A210;clear A210;obtain ⟨y273,hy273⟩:∃ y_:List (List Int),y_=(x3_2.set (((rd_T47 l0_1 x12_1).f0):Int).toNat t270):=⟨_,rfl⟩;replace H:(spec_l14WaitsFor.l1 k2 y273 l0_1 (l0_1.length:Int) x12_1 l0_0 (l0_0.length:Int) (wrap64 (x19_2 + 1)) l0_0 l0_1 l0_2 l0_3 l0_4 ((rd_T47 l0_1 x12_1).f0) ((rd_T47 l0_1 x12_1).f1) ((rd_T47 l0_1 x12_1).f2))=some r:=by first|(rw [hy273];with_reducible exact H)|(have H2_:=(Option.bind_some _ _).symm.trans H;rw [hy273];with_reducible exact H2_)|(have H2_:=(Option.bind_some _ _).symm.trans H;with_reducible exact H2_)|with_reducible exact H|(rw [hy273];exact H)|exact H
               have Ny273:=qK hy273;clear hy273;have H':=qK H;clear H;have p266:0≤(x19_2:Int):=of_decide_eq_true (by first|(with_reducible assumption)|assumption);have q266:x19_2 < (l0_0.length:Int):=of_decide_eq_true (by first|(with_reducible assumption)|assumption);obtain ⟨ad266,e266,hx266_0,hx266_1,hx266_2⟩:=at_T47 HR0_0.out x19_2 p266 q266;cases e266
               replace hx266_0:=(HB.out.cell (World.block_lt_of_cell? w _ hx266_0)).trans hx266_0;replace hx266_1:=(HB.out.cell (World.block_lt_of_cell? w _ hx266_1)).trans hx266_1;replace hx266_2:=(HB.out.cell (World.block_lt_of_cell? w _ hx266_2)).trans hx266_2;replace p266:=eq_true p266;replace q266:=eq_true q266;try go_wp2_with (first|((with_reducible refine gate_dst (N:=7) rfl ?_);refine box_event ?hg (N:=7) ?hd (cs:=#[.int .i64 0,.int .i64 0,.int .i64 0]) (t:=47) ?hr ?_;(case hd=>rfl);(case hg=>rfl);(case hr=>(go_simp;try rfl));intro gb267 hg w23 hbox hb;have n0_:=qK (Kd.N_below (Kd.N_elderB (by (with_reducible repeat (first|apply Kd.N_alloc|apply Kd.N_drewN|apply Kd.N_drew));exact HO_3.out) gb267 (Nat.le_of_eq hg.symm)) hb);have n1_:=qK (qB (g:=gb260) (o:=_) (by (with_reducible repeat (first|refine qN ?_ _|refine qW ?_|refine qL ?_ _));exact BK260.out) hb);have n2_:=qK (qB (g:=gb265) (o:=_) (by (with_reducible repeat (first|refine qN ?_ _|refine qW ?_|refine qL ?_ _));exact BK265.out) hb);have n3_:=qK (qT (by repeat (with_reducible first|exact HB.out|apply qA|apply qD|apply qO|refine qS ?_ GE260.out|refine qS ?_ GE265.out)) hb);have n4_:=qK (hbox);have n5_:=qK ((by rw [hg];exact (qZ (by repeat (with_reducible first|exact HB.out|apply qA|apply qD|apply qO|refine qS ?_ GE260.out|refine qS ?_ GE265.out))):w.heap.size≤gb267));have n6_:=qK ((by rw [hg];exact (qZ (by repeat (with_reducible first|exact HB.out|apply qA|apply qD|apply qO|refine qS ?_ GE260.out|refine qS ?_ GE265.out))):w.heap.size≤gb267));have n7_:=qK ((by rw [hg];exact Nat.ne_of_lt (blk_lt (g:=gb260) (o:=_) (by (with_reducible repeat (first|refine qN ?_ _|refine qW ?_|refine qL ?_ _));exact BK260.out)):gb260 ≠ gb267));have n8_:=qK ((by rw [hg];exact Nat.ne_of_gt (blk_lt (g:=gb260) (o:=_) (by (with_reducible repeat (first|refine qN ?_ _|refine qW ?_|refine qL ?_ _));exact BK260.out)):gb267 ≠ gb260));have n9_:=qK ((by rw [hg];exact Nat.ne_of_lt (blk_lt (g:=gb265) (o:=_) (by (with_reducible repeat (first|refine qN ?_ _|refine qW ?_|refine qL ?_ _));exact BK265.out)):gb265 ≠ gb267));have n10_:=qK ((by rw [hg];exact Nat.ne_of_gt (blk_lt (g:=gb265) (o:=_) (by (with_reducible repeat (first|refine qN ?_ _|refine qW ?_|refine qL ?_ _));exact BK265.out)):gb267 ≠ gb265));clear HO_3;clear BK260;clear BK265;clear HB;have HO_3:=n0_;have BK260:=n1_;have BK265:=n2_;have HB:=n3_;have BK267:=n4_;have GW267:=n5_;have GE267:=n6_;have NB260_267:=n7_;have NB267_260:=n8_;have NB265_267:=n9_;have NB267_265:=n10_;clear n0_ n1_ n2_ n3_ n4_ n5_ n6_ n7_ n8_ n9_ n10_;clear hb hbox hg;have hnb24:=NB267_260.out;have hnc24:=NB260_267.out;have hnb25:=NB267_265.out;have hnc25:=NB265_267.out;have hcz26_0:w23.cell? ⟨gb267,0,none⟩=some (.int .i64 0):=(qC BK267.out 0).trans rfl;have hcz26_1:w23.cell? ⟨gb267,1,none⟩=some (.int .i64 0):=(qC BK267.out 1).trans rfl;have hcz26_2:w23.cell? ⟨gb267,2,none⟩=some (.int .i64 0):=(qC BK267.out 2).trans rfl;have hfz26_0:=qF BK267.out 0;have hfz26_1:=qF BK267.out 1;have hfz26_2:=qF BK267.out 2;have hnb27:=NB265_260.out;have hnc27:=NB260_265.out;have hcz28_0:w23.cell? ⟨gb265,0,none⟩=some (.int .i64 ((rd_T47 l0_1 x12_1).f0)):=(qC BK265.out 0).trans rfl;have hcz28_1:w23.cell? ⟨gb265,1,none⟩=some (.int .i64 ((rd_T47 l0_1 x12_1).f1)):=(qC BK265.out 1).trans rfl;have hcz28_2:w23.cell? ⟨gb265,2,none⟩=some (.int .i64 ((rd_T47 l0_1 x12_1).f2)):=(qC BK265.out 2).trans rfl;have hfz28_0:=qF BK265.out 0;have hfz28_1:=qF BK265.out 1;have hfz28_2:=qF BK265.out 2)|((with_reducible refine gate_callee (f:=39) rfl ?_);refine goesL_ (some 25) rfl rfl Try.func39 (by kernel_rfl) rfl #[.agg #[.int .i64 ((rd_T47 l0_0 x19_2).f0),.int .i64 ((rd_T47 l0_0 x19_2).f1),.int .i64 ((rd_T47 l0_0 x19_2).f2)],.agg #[.int .i64 ((rd_T47 l0_1 x12_1).f0),.int .i64 ((rd_T47 l0_1 x12_1).f1),.int .i64 ((rd_T47 l0_1 x12_1).f2)]] rfl (by (try simp only [mT,mC,mN]);first|done|rfl|(simp only [lD,lT];rfl)) ?_;(with_reducible refine (spec_l13Clash.calls ((rd_T47 l0_0 x19_2).f0) ((rd_T47 l0_0 x19_2).f1) ((rd_T47 l0_0 x19_2).f2) ((rd_T47 l0_1 x12_1).f0) ((rd_T47 l0_1 x12_1).f1) ((rd_T47 l0_1 x12_1).f2) true _ A17.out).mono ?_);rintro e w29 ⟨rfl,hb⟩;refine ⟨_,rfl,?_⟩;have n0_:=qK (Kd.N_below (by (with_reducible repeat (first|apply Kd.N_alloc|apply Kd.N_drewN|apply Kd.N_drew));exact (Kd.N_mono (Kd.N_far (p:=⟨gb267,2,none⟩) (Kd.N_far (p:=⟨gb267,1,none⟩) (Kd.N_far (p:=⟨gb267,0,none⟩) (Kd.N_mono HO_3.out (fun k_ hk=>(⟨hk,hk.2⟩:_∧k_ ≠ gb267))) (fun _ hk=>hk.2) (.int .i64 ((rd_T47 l0_0 x19_2).f0))) (fun _ hk=>hk.2) (.int .i64 ((rd_T47 l0_0 x19_2).f1))) (fun _ hk=>hk.2) (.int .i64 ((rd_T47 l0_0 x19_2).f2))) (fun _ h_=>h_.1))) hb);have n1_:=qK (qB (g:=gb260) (o:=.cells #[.slice (some ad266) l0_0.length c0_0,.slice (some ad264) l0_1.length c0_1,.slice A0_2 l0_2.length c0_2,.slice A0_3 l0_3.length c0_3,.slice A0_4 l0_4.length c0_4] 31 (0,0)) (by (with_reducible repeat (first|refine qN ?_ _|refine qW ?_|refine qL ?_ _));refine qR ?_ NB260_267.out _;(with_reducible repeat (first|refine qN ?_ _|refine qW ?_|refine qL ?_ _));refine qR ?_ NB260_267.out _;(with_reducible repeat (first|refine qN ?_ _|refine qW ?_|refine qL ?_ _));refine qR ?_ NB260_267.out _;(with_reducible repeat (first|refine qN ?_ _|refine qW ?_|refine qL ?_ _));exact BK260.out) hb);have n2_:=qK (qB (g:=gb265) (o:=.cells #[.int .i64 ((rd_T47 l0_1 x12_1).f0),.int .i64 ((rd_T47 l0_1 x12_1).f1),.int .i64 ((rd_T47 l0_1 x12_1).f2)] 47 (0,0)) (by (with_reducible repeat (first|refine qN ?_ _|refine qW ?_|refine qL ?_ _));refine qR ?_ NB265_267.out _;(with_reducible repeat (first|refine qN ?_ _|refine qW ?_|refine qL ?_ _));refine qR ?_ NB265_267.out _;(with_reducible repeat (first|refine qN ?_ _|refine qW ?_|refine qL ?_ _));refine qR ?_ NB265_267.out _;(with_reducible repeat (first|refine qN ?_ _|refine qW ?_|refine qL ?_ _));exact BK265.out) hb);have n3_:=qK (qB (g:=gb267) (o:=.cells #[.int .i64 ((rd_T47 l0_0 x19_2).f0),.int .i64 ((rd_T47 l0_0 x19_2).f1),.int .i64 ((rd_T47 l0_0 x19_2).f2)] 47 (0,0)) (by (with_reducible repeat (first|refine qN ?_ _|refine qW ?_|refine qL ?_ _));refine qP (cs:=#[.int .i64 ((rd_T47 l0_0 x19_2).f0),.int .i64 ((rd_T47 l0_0 x19_2).f1),.int .i64 0]) ?_ 2 _ rfl;(with_reducible repeat (first|refine qN ?_ _|refine qW ?_|refine qL ?_ _));refine qP (cs:=#[.int .i64 ((rd_T47 l0_0 x19_2).f0),.int .i64 0,.int .i64 0]) ?_ 1 _ rfl;(with_reducible repeat (first|refine qN ?_ _|refine qW ?_|refine qL ?_ _));refine qP (cs:=#[.int .i64 0,.int .i64 0,.int .i64 0]) ?_ 0 _ rfl;(with_reducible repeat (first|refine qN ?_ _|refine qW ?_|refine qL ?_ _));exact BK267.out) hb);have n4_:=qK (qT (by repeat (with_reducible first|exact HB.out|apply qA|apply qD|apply qO|refine qS ?_ GE260.out|refine qS ?_ GE265.out|refine qS ?_ GE267.out)) hb);clear HO_3;clear BK260;clear BK265;clear BK267;clear HB;have HO_3:=n0_;have BK260:=n1_;have BK265:=n2_;have BK267:=n3_;have HB:=n4_;clear n0_ n1_ n2_ n3_ n4_;(try clear hb)))
               have n0_:=qK (Kd.N_drew HO_3.out);have n1_:=qK (qW BK260.out);have n2_:=qK (qW BK265.out);have n3_:=qK (qW BK267.out);have n4_:=qK (qO HB.out);clear HO_3;clear BK260;clear BK265;clear BK267;clear HB;have HO_3:=n0_;have BK260:=n1_;have BK265:=n2_;have BK267:=n3_;have HB:=n4_;clear n0_ n1_ n2_ n3_ n4_;obtain ⟨Ao31,co31,eo31⟩:=Kd.N_slice HO_3.out;(first|subst eo31|(injection eo31 with f1_ f2_ f3_;have f4_:=f1_.symm;have f5_:=f3_.symm;clear f1_ f2_ f3_;subst f4_;subst f5_));have p269:0≤(((rd_T47 l0_1 x12_1).f0):Int):=of_decide_eq_true (by first|(with_reducible assumption)|assumption);have q269:((rd_T47 l0_1 x12_1).f0) < (x3_2.length:Int):=of_decide_eq_true (by first|(with_reducible assumption)|assumption);obtain ⟨ad269,A269_0,c269_0,e269,hx269_0,hl269_0,hi269_0⟩:=at_L3 (Kd.N_reads' HO_3.out).2.2 ((rd_T47 l0_1 x12_1).f0) p269 q269;cases e269
               obtain ⟨ce269,hce269,hMe269,hcc269⟩:=Kd.N_get HO_3.out [] ((rd_T47 l0_1 x12_1).f0) p269 (by first|exact q269|exact of_decide_eq_true (by first|(with_reducible assumption)|assumption)|(have e_:=(Kd.N_reads' HO_3.out).1;omega));obtain ⟨ua269_0,uc269_0,rfl,ul269_0,ge269_0⟩:=Kd.FK_slice_open hMe269;have hv269_0:=hcc269 0 _ rfl;rw [Nat.add_zero,show ((Kd.slice 3 (Kd.int .i64))).sz=1 from rfl,Nat.mul_one] at hv269_0;replace hv269_0:=Option.some.inj (hv269_0.symm.trans hx269_0);injection hv269_0 with hva_ hvn_ hvc_
               rw [hva_] at ge269_0;rw [hvc_] at ul269_0;have HL269_0:=qK (show Kd.V (Kd.int .i64) 3 _ w.heap.size _ _ (rd_L3 x3_2 ((rd_T47 l0_1 x12_1).f0)) from Kd.V_mk ul269_0 ge269_0);clear hva_ hvn_ hvc_ ge269_0 ul269_0;clear hcc269 hce269;have HR269_0:=qK hi269_0;have HC269_0:=qK hl269_0;clear hi269_0 hl269_0;replace p269:=eq_true p269;replace q269:=eq_true q269;refine start_ (n:=13) (S:=fun w'=>w'.cell? ⟨gb265,0,none⟩=some (.int .i64 ((rd_T47 l0_1 x12_1).f0))∧w'.cell? ⟨gb265,1,none⟩=some (.int .i64 ((rd_T47 l0_1 x12_1).f1))∧w'.cell? ⟨gb265,2,none⟩=some (.int .i64 ((rd_T47 l0_1 x12_1).f2))∧w'.cell? ⟨gb267,0,none⟩=some (.int .i64 ((rd_T47 l0_0 x19_2).f0))∧w'.cell? ⟨gb267,1,none⟩=some (.int .i64 ((rd_T47 l0_0 x19_2).f1))∧w'.cell? ⟨gb267,2,none⟩=some (.int .i64 ((rd_T47 l0_0 x19_2).f2))∧w'.cell? (ad269.add (((rd_T47 l0_1 x12_1).f0)).toNat)=some (.slice A269_0 (rd_L3 x3_2 ((rd_T47 l0_1 x12_1).f0)).length c269_0)) (ds:=[12]) #[Z,Z,Z,Z,Z,Z,Z,Z,Z,Z,Z,Z,Z] (by kernel_rfl) rfl rfl ⟨(qC BK265.out 0).trans rfl,(qC BK265.out 1).trans rfl,(qC BK265.out 2).trans rfl,(qC BK267.out 0).trans rfl,(qC BK267.out 1).trans rfl,(qC BK267.out 2).trans rfl,hx269_0⟩ (fun hHeld=>?_);refine with_tabW spec_l14WaitsFor.tab9 spec_l14WaitsFor.bits9 (fun HT_ HW_=>?_);generalize w29.drew=w30 at HO_3 BK260 BK265 BK267 HB HL269_0 HR269_0 hx269_0 hHeld ⊢
               refine pure_ (i:=0) (N:=some 26) (v:=?_) (a':=?_) #[Y,Z,Z,Z,Z,Z,Z,Z,Z,Z,Z,Z,Z] rfl rfl (any_of HT_.out (by kernel_rfl)) (fun _ _ _ h=>h) (Or.inl ⟨by rfl,?_⟩) ?_ ?_;rotate_left
               ·intro w';go_simp;with_reducible rfl
               rotate_left
               ·simp only [Act.put,sIb,sZ,sS,i64_w,i32_w];rfl
               refine pure_ (i:=1) (N:=some 27) (v:=?_) (a':=?_) #[Y,Y,Z,Z,Z,Z,Z,Z,Z,Z,Z,Z,Z] rfl rfl (any_of HT_.out (by kernel_rfl)) (fun _ _ _ h=>h) (Or.inl ⟨by rfl,?_⟩) ?_ ?_;rotate_left
               ·intro w';go_simp;with_reducible rfl
               rotate_left
               ·simp only [Act.put,sIb,sZ,sS,i64_w,i32_w];rfl
               refine pure_ (i:=3) (N:=some 29) (v:=?_) (a':=?_) #[Y,Y,Z,Y,Z,Z,Z,Z,Z,Z,Z,Z,Z] rfl rfl (any_of HT_.out (by kernel_rfl)) (fun _ _ _ h=>h) (Or.inl ⟨by rfl,?_⟩) ?_ ?_;rotate_left
               ·intro w';go_simp;with_reducible rfl
               rotate_left
               ·simp only [Act.put,sIb,sZ,sS,i64_w,i32_w];rfl
               refine pure_ (i:=4) (N:=some 30) (v:=?_) (a':=?_) #[Y,Y,Z,Y,Y,Z,Z,Z,Z,Z,Z,Z,Z] rfl rfl (any_of HT_.out (by kernel_rfl)) (fun _ _ _ h=>h) (Or.inl ⟨by rfl,?_⟩) ?_ ?_;rotate_left
               ·intro w';go_simp;with_reducible rfl
               rotate_left
               ·simp only [Act.put,sIb,sZ,sS,i64_w,i32_w];rfl
               refine pure_ (i:=8) (N:=some 34) (v:=?_) (a':=?_) #[Y,Y,Z,Y,Y,Z,Z,Z,Y,Z,Z,Z,Z] rfl rfl (any_of HT_.out (by kernel_rfl)) (fun _ _ _ h=>h) (Or.inl ⟨by rfl,?_⟩) ?_ ?_;rotate_left
               ·intro w';go_simp;with_reducible rfl
               rotate_left
               ·simp only [Act.put,sIb,sZ,sS,i64_w,i32_w];rfl
               refine take_ (i:=2) (N:=some 28) (v:=?_) (a':=?_) #[Y,Y,Y,Y,Y,Z,Z,Z,Y,Z,Z,Z,Z] rfl rfl (take_ofW HT_.out HW_.out (by kernel_rfl)) (fun _ _ _ h=>h) (Or.inl ⟨by rfl,?_⟩) hHeld ?_ ?_;rotate_left
               ·rintro w' ⟨s0,s1,s2,s3,s4,s5,s6⟩;go_simp;with_reducible rfl
               rotate_left
               ·simp only [Act.put,sIb,sZ,sS,i64_w,i32_w];rfl
               refine take_ (i:=5) (N:=some 31) (v:=?_) (a':=?_) #[Y,Y,Y,Y,Y,Y,Z,Z,Y,Z,Z,Z,Z] rfl rfl (take_ofW HT_.out HW_.out (by kernel_rfl)) (fun _ _ _ h=>h) (Or.inl ⟨by rfl,?_⟩) hHeld ?_ ?_;rotate_left
               ·rintro w' ⟨s0,s1,s2,s3,s4,s5,s6⟩;go_simp;with_reducible rfl
               rotate_left
               ·simp only [Act.put,sIb,sZ,sS,i64_w,i32_w];rfl
               refine pure_ (i:=6) (N:=some 32) (v:=?_) (a':=?_) #[Y,Y,Y,Y,Y,Y,Y,Z,Y,Z,Z,Z,Z] rfl rfl (any_of HT_.out (by kernel_rfl)) (fun _ _ _ h=>h) (Or.inl ⟨by rfl,?_⟩) ?_ ?_;rotate_left
               ·intro w';go_simp;with_reducible rfl
               rotate_left
               ·simp only [Act.put,sIb,sZ,sS,i64_w,i32_w];rfl
               refine take_ (i:=7) (N:=some 33) (v:=?_) (a':=?_) #[Y,Y,Y,Y,Y,Y,Y,Y,Y,Z,Z,Z,Z] rfl rfl (take_ofW HT_.out HW_.out (by kernel_rfl)) (fun _ _ _ h=>h) (Or.inl ⟨by rfl,?_⟩) hHeld ?_ ?_;rotate_left
               ·rintro w' ⟨s0,s1,s2,s3,s4,s5,s6⟩;go_simp;with_reducible rfl
               rotate_left
               ·simp only [Act.put,sIb,sZ,sS,i64_w,i32_w];rfl
               refine take_ (i:=9) (N:=some 35) (v:=?_) (a':=?_) #[Y,Y,Y,Y,Y,Y,Y,Y,Y,Y,Z,Z,Z] rfl rfl (take_ofW HT_.out HW_.out (by kernel_rfl)) (fun _ _ _ h=>h) (Or.inl ⟨by rfl,?_⟩) hHeld ?_ ?_;rotate_left
               ·rintro w' ⟨s0,s1,s2,s3,s4,s5,s6⟩;go_simp;with_reducible rfl
               rotate_left
               ·simp only [Act.put,sIb,sZ,sS,i64_w,i32_w];rfl
               refine one_ (i:=10) (N:=some 36) #[Y,Y,Y,Y,Y,Y,Y,Y,Y,Y,Y,Z,Z] rfl rfl (one_of HT_.out (by kernel_rfl)) (by decide) (fun K hK=>?_);refine goes_ Try.func54 (by kernel_rfl) rfl #[.slice A269_0 (rd_L3 x3_2 ((rd_T47 l0_1 x12_1).f0)).length c269_0,.int .i64 ((rd_T47 l0_0 x19_2).f0)] (by rfl) rfl rfl (by (try simp only [mT,mC,mN]);first|done|rfl|(simp only [lD,lT];rfl)) ?_;with_reducible refine (spec_l7Put.calls k2 (fun k_=>((((w.heap.size≤k_)∧(k_ ≠ gb260∧k_ ≠ gb265))∧k_ ≠ gb267)∧some k_ ≠ (.slice (some ad269) x3_2.length co31:Value).ownBlock)) _ _ (rd_L3 x3_2 ((rd_T47 l0_1 x12_1).f0)) ((rd_T47 l0_0 x19_2).f0) t270 _ ?side1 A21.out).mono ?_
               (case side1=>exact HL269_0.out);rintro e w32 ⟨v271,rfl,ho0,hb⟩;have HS6_:=(hb.cell (World.block_lt_of_cell? _ _ (hHeld.2.2.2.2.2.2))).trans (hHeld.2.2.2.2.2.2);refine ⟨_,rfl,?_⟩;have n0_:=qK (Kd.N_below (by (with_reducible repeat (first|apply Kd.N_alloc|apply Kd.N_drewN|apply Kd.N_drew));exact HO_3.out) hb);have n1_:=qK (Kd.V_below (by (with_reducible repeat (first|apply Kd.V_alloc|apply Kd.V_drewN|apply Kd.V_drew));exact HL269_0.out) hb);have n2_:=qK (Kd.V_lower (Kd.V_mono (ok':=fun k_=>(w.heap.size≤k_)∧some k_ ≠ (.slice (some ad269) x3_2.length co31:Value).ownBlock∧k_ ≠ gb260∧k_ ≠ gb265∧k_ ≠ gb267) ho0 (fun k_ hk_=>⟨Or.elim hk_ (fun hs_=>hs_.1.1.1) (fun hn_=>(Nat.le_trans (qZ (by repeat (with_reducible first|exact HB.out|apply qA|apply qD|apply qO|refine qS ?_ GE260.out|refine qS ?_ GE265.out|refine qS ?_ GE267.out))) hn_)),Or.elim hk_ (fun hs_=>hs_.2) (fun hn_=>(Kd.fresh' (Kd.N_lt (by (with_reducible repeat (first|apply Kd.N_alloc|apply Kd.N_drewN|apply Kd.N_drew));exact HO_3.out)) k_ hn_)),Or.elim hk_ (fun hs_=>hs_.1.1.2.1) (fun hn_=>(Kd.freshB (g:=gb260) (o:=_) (by (with_reducible repeat (first|refine qN ?_ _|refine qW ?_|refine qL ?_ _));exact BK260.out) k_ hn_)),Or.elim hk_ (fun hs_=>hs_.1.1.2.2) (fun hn_=>(Kd.freshB (g:=gb265) (o:=_) (by (with_reducible repeat (first|refine qN ?_ _|refine qW ?_|refine qL ?_ _));exact BK265.out) k_ hn_)),Or.elim hk_ (fun hs_=>hs_.1.2) (fun hn_=>(Kd.freshB (g:=gb267) (o:=_) (by (with_reducible repeat (first|refine qN ?_ _|refine qW ?_|refine qL ?_ _));exact BK267.out) k_ hn_))⟩)) (qZ (by repeat (with_reducible first|exact HB.out|apply qA|apply qD|apply qO|refine qS ?_ GE260.out|refine qS ?_ GE265.out|refine qS ?_ GE267.out))));have n3_:=qK (qB (g:=gb260) (o:=_) (by (with_reducible repeat (first|refine qN ?_ _|refine qW ?_|refine qL ?_ _));exact BK260.out) hb);have n4_:=qK (qB (g:=gb265) (o:=_) (by (with_reducible repeat (first|refine qN ?_ _|refine qW ?_|refine qL ?_ _));exact BK265.out) hb);have n5_:=qK (qB (g:=gb267) (o:=_) (by (with_reducible repeat (first|refine qN ?_ _|refine qW ?_|refine qL ?_ _));exact BK267.out) hb);have n6_:=qK (cB (by repeat (first|(with_reducible exact HR269_0.out)|(with_reducible first|refine cL ?_ _|refine cN ?_ _|refine cW ?_)|exact HR269_0.out)) hb);have n7_:=qK (qT (by repeat (with_reducible first|exact HB.out|apply qA|apply qD|apply qO|refine qS ?_ GE260.out|refine qS ?_ GE265.out|refine qS ?_ GE267.out)) hb);clear HO_3;clear HL269_0;clear BK260;clear BK265;clear BK267;clear HR269_0;clear HB;have HO_3:=n0_;have HL269_0:=n1_;have HO272:=n2_;have BK260:=n3_;have BK265:=n4_;have BK267:=n5_;have HR269_0:=n6_;have HB:=n7_;clear n0_ n1_ n2_ n3_ n4_ n5_ n6_ n7_;(try clear hb);(try clear ho0);obtain ⟨Av271_,cv271_,ev271_⟩:=Kd.V_slice HO272.out;subst ev271_;have p22:0≤(((rd_T47 l0_1 x12_1).f0):Int):=of_decide_eq_true (by first|(with_reducible assumption)|assumption);have q22:(((rd_T47 l0_1 x12_1).f0):Int) < ((x3_2.length:Int):Int):=of_decide_eq_true (by first|(with_reducible assumption)|assumption);obtain ⟨go22,co22,eo22,gb22,gl22,cl22,HG22⟩:=Kd.N_form HO_3.out (by omega);(first|cases eo22|(injection eo22 with ea_ en_ ec_;(first|subst ea_|(injection ea_ with ea_;subst ea_));subst ec_;clear en_));have GB22:=qK gb22;have GG22:=qK HG22;clear gb22 gl22 HG22;(first|simp only [add_plain] at hx269_0|skip);obtain ⟨ce22,hcl22,hM22,hcc22,hfr22⟩:=Kd.N_elem HO_3.out [] (((rd_T47 l0_1 x12_1).f0):Int) p22 q22;obtain ⟨ua22_0,uc22_0,rfl,ul22_0,ge22_0⟩:=Kd.FK_slice_open hM22;have hx22_0:=hcc22 0 _ rfl;have hf22_0:=hfr22 0;(try simp only [show ((Kd.slice 3 (Kd.int .i64))).sz=1 from rfl,Nat.mul_one,Nat.add_zero] at hx22_0);(try simp only [show ((Kd.slice 3 (Kd.int .i64))).sz=1 from rfl,Nat.mul_one,Nat.add_zero] at hf22_0);clear hcl22 hcc22 hfr22 hM22;replace p22:=eq_true p22;replace q22:=eq_true q22;have HX33:=qK (show Kd.N (Kd.slice 3 (Kd.int .i64)) 23 _ w.heap.size (fun k_=>(w.heap.size≤k_)∧k_ ≠ gb260∧k_ ≠ gb265∧k_ ≠ gb267) (.slice (some ⟨go22,0,none⟩) x3_2.length co31) x3_2 from (Kd.N_mono (HO_3.out) (fun k_ hk=>⟨hk.1.1,⟨hk.1.2.1,⟨hk.1.2.2,hk.2⟩⟩⟩)));obtain ⟨ce33,hcl33,hM33,hcc33,hfr33⟩:=Kd.N_elem HX33.out [] (((rd_T47 l0_1 x12_1).f0):Int) (of_decide_eq_true (by first|(with_reducible assumption)|assumption)) (by have h_:(((rd_T47 l0_1 x12_1).f0):Int) < ((x3_2.length:Int):Int):=of_decide_eq_true (by first|(with_reducible assumption)|assumption);first|exact h_|(have e_:=(Kd.N_reads' HO_3.out).1;omega)|simpa using h_);obtain ⟨ua33_0,uc33_0,rfl,ul33_0,ge33_0⟩:=Kd.FK_slice_open hM33;have HP33:=(Kd.N_seg HX33.out (((rd_T47 l0_1 x12_1).f0):Int) (of_decide_eq_true (by first|(with_reducible assumption)|assumption)) (by have h_:(((rd_T47 l0_1 x12_1).f0):Int) < ((x3_2.length:Int):Int):=of_decide_eq_true (by first|(with_reducible assumption)|assumption);first|exact h_|(have e_:=(Kd.N_reads' HO_3.out).1;omega)|simpa using h_) (seg:=[(.slice Av271_ t270.length cv271_)]) (j:=0) hcl33 hcc33 (show 1≤1 from by decide) (x':=t270) (FK_of_V (Kd.V_mono (ok':=(fun k_=>((fun k_=>(w.heap.size≤k_)∧k_ ≠ gb260∧k_ ≠ gb265∧k_ ≠ gb267)) k_∧k_ ≠ go22)) (HO272.out) (fun k_ hk=>⟨⟨hk.1,⟨hk.2.2.1,⟨hk.2.2.2.1,hk.2.2.2.2⟩⟩⟩,fun e_=>(hk.2.1) (by rw [e_];rfl)⟩))) (fun _ hk=>hk)).1;(try simp only [show ((Kd.slice 3 (Kd.int .i64))).sz=1 from rfl,Nat.mul_one,Nat.add_zero] at HP33);rw [← Ny273.out] at HP33;have HQ33:=qK HP33;clear hcl33 hcc33 hfr33 hM33 HP33;refine hK.out _ _ ⟨(qC BK265.out 0).trans rfl,(qC BK265.out 1).trans rfl,(qC BK265.out 2).trans rfl,(qC BK267.out 0).trans rfl,(qC BK267.out 1).trans rfl,(qC BK267.out 2).trans rfl,HS6_⟩ (fun hHeld=>?_);clear hK K;refine norm_ (a':=?_) ?_ ?_;rotate_left
               ·show Act.put _ (some 36) _=_
                simp only [Act.put,sIb,sZ,sS,i64_w,i32_w];rfl
               refine pure_ (i:=11) (N:=some 37) (v:=?_) (a':=?_) #[Y,Y,Y,Y,Y,Y,Y,Y,Y,Y,Y,Y,Z] rfl rfl (any_of HT_.out (by kernel_rfl)) (fun _ _ _ h=>h) (Or.inl ⟨by rfl,?_⟩) ?_ ?_;rotate_left
               ·intro w';go_simp;with_reducible rfl
               rotate_left
               ·simp only [Act.put,sIb,sZ,sS,i64_w,i32_w];rfl
               refine last_ (i:=12) (N:=none) #[Y,Y,Y,Y,Y,Y,Y,Y,Y,Y,Y,Y,Y] rfl rfl (one_of HT_.out (by kernel_rfl)) (by decide) (fun K hK=>?_);refine skip_ (w1:=?_) (by rfl) rfl ?_ ?_;rotate_left
               ·go_simp;rfl
               refine hK.out _ _ ?_;clear hK K;refine done_ (done_of HT_.out (by kernel_rfl)) ?_;try go_wp2
               go_roundg k2
               case measure=>have:=HK1.out;have:=HK2.out;omega
               case rel=>exact ⟨(y273),(wrap64 (x19_2 + 1)),(by first|rfl|(simp;done)|(simp [*];done)),H',⟨by have:=HK1.out;have:=HK2.out;omega⟩,⟨by (with_reducible repeat (first|apply Kd.N_alloc|apply Kd.N_drewN|apply Kd.N_drew));exact Kd.N_mono HQ33.out (fun _ hk=>⟨hk.1,⟨hk.2.1,hk.2.2.1⟩⟩)⟩,⟨by (with_reducible repeat (first|refine qN ?_ _|refine qW ?_|refine qL ?_ _));refine qR ?_ (by have h_:=Kd.N_away HO_3.out (fun _ hk=>hk.1.2.1);intro e_;exact h_ (by rw [e_];rfl)) _;(with_reducible repeat (first|refine qN ?_ _|refine qW ?_|refine qL ?_ _));exact BK260.out⟩,⟨by (with_reducible repeat (first|refine qN ?_ _|refine qW ?_|refine qL ?_ _));refine qR ?_ (by have h_:=Kd.N_away HO_3.out (fun _ hk=>hk.1.2.2);intro e_;exact h_ (by rw [e_];rfl)) _;(with_reducible repeat (first|refine qN ?_ _|refine qW ?_|refine qL ?_ _));exact BK265.out⟩,⟨by repeat (first|(with_reducible first|exact HB.out|apply qA|apply qD|apply qO|refine qS ?_ GB22.out|refine qS ?_ GE260.out|refine qS ?_ GE265.out|refine qS ?_ GE267.out)|exact HB.out)⟩⟩
              ·rw [if_neg c20] at H;exact absurd H (by simp)
             ·rw [if_neg c19] at H;exact absurd H (by simp)
            ·replace c18:=Bool.eq_false_iff.mpr c18;subst c18;have H1:(spec_l14WaitsFor.l1 k2 x3_2 l0_1 (l0_1.length:Int) x12_1 l0_0 (l0_0.length:Int) (wrap64 (x19_2 + 1)) l0_0 l0_1 l0_2 l0_3 l0_4 ((rd_T47 l0_1 x12_1).f0) ((rd_T47 l0_1 x12_1).f1) ((rd_T47 l0_1 x12_1).f2))=some r:=by rw [if_neg (show ¬ (false=true) by decide)] at H;exact H
             clear H;have H:=H1;clear H1;have H':=qK H;clear H;have p266:0≤(x19_2:Int):=of_decide_eq_true (by first|(with_reducible assumption)|assumption);have q266:x19_2 < (l0_0.length:Int):=of_decide_eq_true (by first|(with_reducible assumption)|assumption);obtain ⟨ad266,e266,hx266_0,hx266_1,hx266_2⟩:=at_T47 HR0_0.out x19_2 p266 q266;cases e266
             replace hx266_0:=(HB.out.cell (World.block_lt_of_cell? w _ hx266_0)).trans hx266_0;replace hx266_1:=(HB.out.cell (World.block_lt_of_cell? w _ hx266_1)).trans hx266_1;replace hx266_2:=(HB.out.cell (World.block_lt_of_cell? w _ hx266_2)).trans hx266_2;replace p266:=eq_true p266;replace q266:=eq_true q266;go_wp2_with (first|((with_reducible refine gate_dst (N:=7) rfl ?_);refine box_event ?hg (N:=7) ?hd (cs:=#[.int .i64 0,.int .i64 0,.int .i64 0]) (t:=47) ?hr ?_;(case hd=>rfl);(case hg=>rfl);(case hr=>(go_simp;try rfl));intro gb267 hg w34 hbox hb;have n0_:=qK (Kd.N_below (Kd.N_elderB (by (with_reducible repeat (first|apply Kd.N_alloc|apply Kd.N_drewN|apply Kd.N_drew));exact HO_3.out) gb267 (Nat.le_of_eq hg.symm)) hb);have n1_:=qK (qB (g:=gb260) (o:=_) (by (with_reducible repeat (first|refine qN ?_ _|refine qW ?_|refine qL ?_ _));exact BK260.out) hb);have n2_:=qK (qB (g:=gb265) (o:=_) (by (with_reducible repeat (first|refine qN ?_ _|refine qW ?_|refine qL ?_ _));exact BK265.out) hb);have n3_:=qK (qT (by repeat (with_reducible first|exact HB.out|apply qA|apply qD|apply qO|refine qS ?_ GE260.out|refine qS ?_ GE265.out)) hb);have n4_:=qK (hbox);have n5_:=qK ((by rw [hg];exact (qZ (by repeat (with_reducible first|exact HB.out|apply qA|apply qD|apply qO|refine qS ?_ GE260.out|refine qS ?_ GE265.out))):w.heap.size≤gb267));have n6_:=qK ((by rw [hg];exact (qZ (by repeat (with_reducible first|exact HB.out|apply qA|apply qD|apply qO|refine qS ?_ GE260.out|refine qS ?_ GE265.out))):w.heap.size≤gb267));have n7_:=qK ((by rw [hg];exact Nat.ne_of_lt (blk_lt (g:=gb260) (o:=_) (by (with_reducible repeat (first|refine qN ?_ _|refine qW ?_|refine qL ?_ _));exact BK260.out)):gb260 ≠ gb267));have n8_:=qK ((by rw [hg];exact Nat.ne_of_gt (blk_lt (g:=gb260) (o:=_) (by (with_reducible repeat (first|refine qN ?_ _|refine qW ?_|refine qL ?_ _));exact BK260.out)):gb267 ≠ gb260));have n9_:=qK ((by rw [hg];exact Nat.ne_of_lt (blk_lt (g:=gb265) (o:=_) (by (with_reducible repeat (first|refine qN ?_ _|refine qW ?_|refine qL ?_ _));exact BK265.out)):gb265 ≠ gb267));have n10_:=qK ((by rw [hg];exact Nat.ne_of_gt (blk_lt (g:=gb265) (o:=_) (by (with_reducible repeat (first|refine qN ?_ _|refine qW ?_|refine qL ?_ _));exact BK265.out)):gb267 ≠ gb265));clear HO_3;clear BK260;clear BK265;clear HB;have HO_3:=n0_;have BK260:=n1_;have BK265:=n2_;have HB:=n3_;have BK267:=n4_;have GW267:=n5_;have GE267:=n6_;have NB260_267:=n7_;have NB267_260:=n8_;have NB265_267:=n9_;have NB267_265:=n10_;clear n0_ n1_ n2_ n3_ n4_ n5_ n6_ n7_ n8_ n9_ n10_;clear hb hbox hg;have hnb35:=NB267_260.out;have hnc35:=NB260_267.out;have hnb36:=NB267_265.out;have hnc36:=NB265_267.out;have hcz37_0:w34.cell? ⟨gb267,0,none⟩=some (.int .i64 0):=(qC BK267.out 0).trans rfl;have hcz37_1:w34.cell? ⟨gb267,1,none⟩=some (.int .i64 0):=(qC BK267.out 1).trans rfl;have hcz37_2:w34.cell? ⟨gb267,2,none⟩=some (.int .i64 0):=(qC BK267.out 2).trans rfl;have hfz37_0:=qF BK267.out 0;have hfz37_1:=qF BK267.out 1;have hfz37_2:=qF BK267.out 2;have hnb38:=NB265_260.out;have hnc38:=NB260_265.out;have hcz39_0:w34.cell? ⟨gb265,0,none⟩=some (.int .i64 ((rd_T47 l0_1 x12_1).f0)):=(qC BK265.out 0).trans rfl;have hcz39_1:w34.cell? ⟨gb265,1,none⟩=some (.int .i64 ((rd_T47 l0_1 x12_1).f1)):=(qC BK265.out 1).trans rfl;have hcz39_2:w34.cell? ⟨gb265,2,none⟩=some (.int .i64 ((rd_T47 l0_1 x12_1).f2)):=(qC BK265.out 2).trans rfl;have hfz39_0:=qF BK265.out 0;have hfz39_1:=qF BK265.out 1;have hfz39_2:=qF BK265.out 2)|((with_reducible refine gate_callee (f:=39) rfl ?_);refine goesL_ (some 25) rfl rfl Try.func39 (by kernel_rfl) rfl #[.agg #[.int .i64 ((rd_T47 l0_0 x19_2).f0),.int .i64 ((rd_T47 l0_0 x19_2).f1),.int .i64 ((rd_T47 l0_0 x19_2).f2)],.agg #[.int .i64 ((rd_T47 l0_1 x12_1).f0),.int .i64 ((rd_T47 l0_1 x12_1).f1),.int .i64 ((rd_T47 l0_1 x12_1).f2)]] rfl (by (try simp only [mT,mC,mN]);first|done|rfl|(simp only [lD,lT];rfl)) ?_;(with_reducible refine (spec_l13Clash.calls ((rd_T47 l0_0 x19_2).f0) ((rd_T47 l0_0 x19_2).f1) ((rd_T47 l0_0 x19_2).f2) ((rd_T47 l0_1 x12_1).f0) ((rd_T47 l0_1 x12_1).f1) ((rd_T47 l0_1 x12_1).f2) false _ A17.out).mono ?_);rintro e w40 ⟨rfl,hb⟩;refine ⟨_,rfl,?_⟩;have n0_:=qK (Kd.N_below (by (with_reducible repeat (first|apply Kd.N_alloc|apply Kd.N_drewN|apply Kd.N_drew));exact (Kd.N_mono (Kd.N_far (p:=⟨gb267,2,none⟩) (Kd.N_far (p:=⟨gb267,1,none⟩) (Kd.N_far (p:=⟨gb267,0,none⟩) (Kd.N_mono HO_3.out (fun k_ hk=>(⟨hk,hk.2⟩:_∧k_ ≠ gb267))) (fun _ hk=>hk.2) (.int .i64 ((rd_T47 l0_0 x19_2).f0))) (fun _ hk=>hk.2) (.int .i64 ((rd_T47 l0_0 x19_2).f1))) (fun _ hk=>hk.2) (.int .i64 ((rd_T47 l0_0 x19_2).f2))) (fun _ h_=>h_.1))) hb);have n1_:=qK (qB (g:=gb260) (o:=.cells #[.slice (some ad266) l0_0.length c0_0,.slice (some ad264) l0_1.length c0_1,.slice A0_2 l0_2.length c0_2,.slice A0_3 l0_3.length c0_3,.slice A0_4 l0_4.length c0_4] 31 (0,0)) (by (with_reducible repeat (first|refine qN ?_ _|refine qW ?_|refine qL ?_ _));refine qR ?_ NB260_267.out _;(with_reducible repeat (first|refine qN ?_ _|refine qW ?_|refine qL ?_ _));refine qR ?_ NB260_267.out _;(with_reducible repeat (first|refine qN ?_ _|refine qW ?_|refine qL ?_ _));refine qR ?_ NB260_267.out _;(with_reducible repeat (first|refine qN ?_ _|refine qW ?_|refine qL ?_ _));exact BK260.out) hb);have n2_:=qK (qB (g:=gb265) (o:=.cells #[.int .i64 ((rd_T47 l0_1 x12_1).f0),.int .i64 ((rd_T47 l0_1 x12_1).f1),.int .i64 ((rd_T47 l0_1 x12_1).f2)] 47 (0,0)) (by (with_reducible repeat (first|refine qN ?_ _|refine qW ?_|refine qL ?_ _));refine qR ?_ NB265_267.out _;(with_reducible repeat (first|refine qN ?_ _|refine qW ?_|refine qL ?_ _));refine qR ?_ NB265_267.out _;(with_reducible repeat (first|refine qN ?_ _|refine qW ?_|refine qL ?_ _));refine qR ?_ NB265_267.out _;(with_reducible repeat (first|refine qN ?_ _|refine qW ?_|refine qL ?_ _));exact BK265.out) hb);have n3_:=qK (qB (g:=gb267) (o:=.cells #[.int .i64 ((rd_T47 l0_0 x19_2).f0),.int .i64 ((rd_T47 l0_0 x19_2).f1),.int .i64 ((rd_T47 l0_0 x19_2).f2)] 47 (0,0)) (by (with_reducible repeat (first|refine qN ?_ _|refine qW ?_|refine qL ?_ _));refine qP (cs:=#[.int .i64 ((rd_T47 l0_0 x19_2).f0),.int .i64 ((rd_T47 l0_0 x19_2).f1),.int .i64 0]) ?_ 2 _ rfl;(with_reducible repeat (first|refine qN ?_ _|refine qW ?_|refine qL ?_ _));refine qP (cs:=#[.int .i64 ((rd_T47 l0_0 x19_2).f0),.int .i64 0,.int .i64 0]) ?_ 1 _ rfl;(with_reducible repeat (first|refine qN ?_ _|refine qW ?_|refine qL ?_ _));refine qP (cs:=#[.int .i64 0,.int .i64 0,.int .i64 0]) ?_ 0 _ rfl;(with_reducible repeat (first|refine qN ?_ _|refine qW ?_|refine qL ?_ _));exact BK267.out) hb);have n4_:=qK (qT (by repeat (with_reducible first|exact HB.out|apply qA|apply qD|apply qO|refine qS ?_ GE260.out|refine qS ?_ GE265.out|refine qS ?_ GE267.out)) hb);clear HO_3;clear BK260;clear BK265;clear BK267;clear HB;have HO_3:=n0_;have BK260:=n1_;have BK265:=n2_;have BK267:=n3_;have HB:=n4_;clear n0_ n1_ n2_ n3_ n4_;(try clear hb)))
             go_roundg k2
             case measure=>have:=HK1.out;have:=HK2.out;omega
             case rel=>exact ⟨(x3_2),(wrap64 (x19_2 + 1)),(by first|rfl|(simp;done)|(simp [*];done)),H',⟨by have:=HK1.out;have:=HK2.out;omega⟩,⟨by (with_reducible repeat (first|apply Kd.N_alloc|apply Kd.N_drewN|apply Kd.N_drew));exact Kd.N_mono HO_3.out (fun _ hk=>⟨hk.1.1,⟨hk.1.2.1,hk.1.2.2⟩⟩)⟩,⟨by (with_reducible repeat (first|refine qN ?_ _|refine qW ?_|refine qL ?_ _));exact BK260.out⟩,⟨by (with_reducible repeat (first|refine qN ?_ _|refine qW ?_|refine qL ?_ _));exact BK265.out⟩,⟨by repeat (first|(with_reducible first|exact HB.out|apply qA|apply qD|apply qO|refine qS ?_ GE260.out|refine qS ?_ GE265.out|refine qS ?_ GE267.out)|exact HB.out)⟩⟩
           ·rw [if_neg c16] at H;exact absurd H (by simp)
          ·rw [if_neg c15] at H;exact absurd H (by simp)
         ·rw [if_neg c14] at H;have c14b0:decide (x19_2 < (l0_0.length:Int))=false:=decide_eq_false c14;clear c14;have H':=qK H;clear H;go_wp2
          go_roundg k2
          case measure=>have:=HK1.out;have:=HK2.out;omega
          case rel=>exact ⟨(x3_2),(wrap64 (x12_1 + 1)),(by first|rfl|(simp;done)|(simp [*];done)),H',⟨by have:=HK1.out;have:=HK2.out;omega⟩,⟨by (with_reducible repeat (first|apply Kd.N_alloc|apply Kd.N_drewN|apply Kd.N_drew));exact Kd.N_mono HO_3.out (fun _ hk=>⟨hk.1,hk.2.1⟩)⟩,⟨by (with_reducible repeat (first|refine qN ?_ _|refine qW ?_|refine qL ?_ _));exact BK260.out⟩,⟨by repeat (first|(with_reducible first|exact HB.out|apply qA|apply qD|apply qO|refine qS ?_ GE260.out|refine qS ?_ GE265.out)|exact HB.out)⟩⟩
      ·rw [if_neg c9] at H;exact absurd H (by simp)
     ·rw [if_neg c8] at H;exact absurd H (by simp)
    ·rw [if_neg c7] at H;have c7b0:decide (x12_1 < (l0_1.length:Int))=false:=decide_eq_false c7;clear c7;obtain rfl:=Option.some.inj H;go_wp2
     go_ret
     exact ⟨_,by first|rfl|(simp [errW_none,errW_some] <;> rfl)|(simp [*,errW_none,errW_some] <;> rfl),by (with_reducible repeat (first|apply Kd.N_alloc|apply Kd.N_drewN|apply Kd.N_drew));exact Kd.N_mono HO_3.out (fun _ hk=>hk.1),by repeat (first|(with_reducible first|exact HB.out|apply qA|apply qD|apply qO|refine qS ?_ GE260.out)|exact HB.out)⟩
 ·rw [if_neg c2] at H;exact absurd H (by simp)

/-! ### spec_WaitsFor: function 14 -/
def spec_WaitsFor.f (k:Nat) (l0_0:List (S47)) (l0_1:List (S47)) (l0_2:List (S47)) (l0_3:List Int) (l0_4:List Int):Option ((List (List Int)) × Bool):=(spec_GoodLocks.f k l0_0 l0_1 l0_2 l0_3 l0_4).bind fun t275=>(if t275=true then ((spec_l14WaitsFor.f k l0_0 l0_1 l0_2 l0_3 l0_4).bind fun t276=>(some (t276,true))) else (some (([]:List (List Int)),false)))
theorem spec_WaitsFor.mono : ∀ a0 a1 a2 a3 a4 k,LeO (spec_WaitsFor.f k a0 a1 a2 a3 a4) (spec_WaitsFor.f (k + 1) a0 a1 a2 a3 a4):=by
 intro a0 a1 a2 a3 a4 k;unfold spec_WaitsFor.f
 repeat' first
   | (with_reducible exact spec_GoodLocks.mono _ _ _ _ _ _)
   | (with_reducible exact spec_l14WaitsFor.mono _ _ _ _ _ _)
   | (with_reducible exact LeO.refl _)
   | (with_reducible exact LeO.none _)
   | (with_reducible refine LeO.ite ?_ ?_)
   | (with_reducible refine LeO.bind ?_ (fun _=>?_))
   | exact spec_GoodLocks.mono _ _ _ _ _ _
   | exact spec_l14WaitsFor.mono _ _ _ _ _ _
   | exact LeO.none _
   | refine LeO.ite ?_ ?_
   | refine LeO.bind ?_ (fun _=>?_)
set_option maxHeartbeats 8000000 in
set_option maxRecDepth 100000 in
theorem spec_WaitsFor.calls (k:Nat) (A0_0:Option Addr) (c0_0:Nat) (l0_0:List (S47)) (A0_1:Option Addr) (c0_1:Nat) (l0_1:List (S47)) (A0_2:Option Addr) (c0_2:Nat) (l0_2:List (S47)) (A0_3:Option Addr) (c0_3:Nat) (l0_3:List Int) (A0_4:Option Addr) (c0_4:Nat) (l0_4:List Int) (r1:List (List Int)) (r2:Bool) (w:World) (hr0_0:Kd.C k47 w A0_0 l0_0.length l0_0) (hc0_0:l0_0.length≤c0_0) (hr0_1:Kd.C k47 w A0_1 l0_1.length l0_1) (hc0_1:l0_1.length≤c0_1) (hr0_2:Kd.C k47 w A0_2 l0_2.length l0_2) (hc0_2:l0_2.length≤c0_2) (hr0_3:Kd.C (Kd.int .i64) w A0_3 l0_3.length l0_3) (hc0_3:l0_3.length≤c0_3) (hr0_4:Kd.C (Kd.int .i64) w A0_4 l0_4.length l0_4) (hc0_4:l0_4.length≤c0_4) (h:spec_WaitsFor.f k l0_0 l0_1 l0_2 l0_3 l0_4=some (r1,r2)) :
  Calls Try.prog 14 #[.agg #[.slice A0_0 l0_0.length c0_0,.slice A0_1 l0_1.length c0_1,.slice A0_2 l0_2.length c0_2,.slice A0_3 l0_3.length c0_3,.slice A0_4 l0_4.length c0_4]] w fun e w'=>∃ v0_:Value,e=.returned (.tuple #[v0_,.bool r2])∧Kd.N (Kd.slice 3 (Kd.int .i64)) 23 w' w.heap.size (fun k_=>(w.heap.size≤k_)) v0_ r1∧Below w.heap.size w w':=by
 have hu31:=Try.underlying31;have HR0_0:=qK hr0_0;have HC0_0:=qK hc0_0;clear hr0_0 hc0_0;have HR0_1:=qK hr0_1;have HC0_1:=qK hc0_1;clear hr0_1 hc0_1;have HR0_2:=qK hr0_2;have HC0_2:=qK hc0_2;clear hr0_2 hc0_2;have HR0_3:=qK hr0_3;have HC0_3:=qK hc0_3;clear hr0_3 hc0_3;have HR0_4:=qK hr0_4;have HC0_4:=qK hc0_4;clear hr0_4 hc0_4;have HB:=qK (Below.refl w.heap.size w);have H:((spec_GoodLocks.f k l0_0 l0_1 l0_2 l0_3 l0_4).bind fun t275=>(if t275=true then ((spec_l14WaitsFor.f k l0_0 l0_1 l0_2 l0_3 l0_4).bind fun t276=>(some (t276,true))) else (some (([]:List (List Int)),false))))=some (r1,r2):=h;clear h;replace H:=Option.bind_eq_some_iff.mp H;obtain ⟨t275,A20,H⟩:=H;replace H:(if t275=true then ((spec_l14WaitsFor.f k l0_0 l0_1 l0_2 l0_3 l0_4).bind fun t276=>(some (t276,true))) else (some (([]:List (List Int)),false)))=some (r1,r2):=H;have A2:=qK A20;clear A20;by_cases c3:t275=true
 ·subst c3;have H1:((spec_l14WaitsFor.f k l0_0 l0_1 l0_2 l0_3 l0_4).bind fun t276=>(some (t276,true)))=some (r1,r2):=by rw [if_pos rfl] at H;exact H
  clear H;have H:=H1;clear H1;replace H:=Option.bind_eq_some_iff.mp H;obtain ⟨t276,A40,H⟩:=H;replace H:(some (t276,true))=some (r1,r2):=H;have A4:=qK A40;clear A40;simp only [Option.some.injEq,Prod.mk.injEq] at H;obtain ⟨rfl,rfl⟩:=H;go_enter Try.func14,Try.ntmps14
  go_wp2_with (first|((with_reducible refine gate_dst (N:=1) rfl ?_);refine box_event ?hg (N:=1) ?hd (cs:=#[.slice A0_0 l0_0.length c0_0,.slice A0_1 l0_1.length c0_1,.slice A0_2 l0_2.length c0_2,.slice A0_3 l0_3.length c0_3,.slice A0_4 l0_4.length c0_4]) (t:=31) ?hr ?_;(case hd=>rfl);(case hg=>rfl);(case hr=>(go_simp;try rfl));intro gb274 hg w5 hbox hb;have n0_:=qK (qT (by repeat (with_reducible first|exact HB.out|apply qA|apply qD|apply qO)) hb);have n1_:=qK (hbox);have n2_:=qK ((by rw [hg];exact (qZ (by repeat (with_reducible first|exact HB.out|apply qA|apply qD|apply qO))):w.heap.size≤gb274));have n3_:=qK ((by rw [hg];exact (qZ (by repeat (with_reducible first|exact HB.out|apply qA|apply qD|apply qO))):w.heap.size≤gb274));clear HB;have HB:=n0_;have BK274:=n1_;have GW274:=n2_;have GE274:=n3_;clear n0_ n1_ n2_ n3_;clear hb hbox hg;have hcz6_0:w5.cell? ⟨gb274,0,none⟩=some (.slice A0_0 l0_0.length c0_0):=(qC BK274.out 0).trans rfl;have hcz6_1:w5.cell? ⟨gb274,1,none⟩=some (.slice A0_1 l0_1.length c0_1):=(qC BK274.out 1).trans rfl;have hcz6_2:w5.cell? ⟨gb274,2,none⟩=some (.slice A0_2 l0_2.length c0_2):=(qC BK274.out 2).trans rfl;have hcz6_3:w5.cell? ⟨gb274,3,none⟩=some (.slice A0_3 l0_3.length c0_3):=(qC BK274.out 3).trans rfl;have hcz6_4:w5.cell? ⟨gb274,4,none⟩=some (.slice A0_4 l0_4.length c0_4):=(qC BK274.out 4).trans rfl;have hfz6_0:=qF BK274.out 0;have hfz6_1:=qF BK274.out 1;have hfz6_2:=qF BK274.out 2;have hfz6_3:=qF BK274.out 3;have hfz6_4:=qF BK274.out 4)|((with_reducible refine gate_callee (f:=21) rfl ?_);refine goesL_ (some 5) rfl rfl Try.func21 (by kernel_rfl) rfl #[.agg #[.slice A0_0 l0_0.length c0_0,.slice A0_1 l0_1.length c0_1,.slice A0_2 l0_2.length c0_2,.slice A0_3 l0_3.length c0_3,.slice A0_4 l0_4.length c0_4]] rfl (by (try simp only [mT,mC,mN]);first|done|rfl|(simp only [lD,lT];rfl)) ?_;(with_reducible refine (spec_GoodLocks.calls k _ _ l0_0 _ _ l0_1 _ _ l0_2 _ _ l0_3 _ _ l0_4 true _ ?side1 ?side2 ?side3 ?side4 ?side5 ?side6 ?side7 ?side8 ?side9 ?side10 A2.out).mono ?_);(case side1=>repeat (first|exact (cB HR0_0.out HB.out)|(with_reducible first|refine cL ?_ _|refine cN ?_ _|refine cW ?_)));(case side2=>exact HC0_0.out);(case side3=>repeat (first|exact (cB HR0_1.out HB.out)|(with_reducible first|refine cL ?_ _|refine cN ?_ _|refine cW ?_)));(case side4=>exact HC0_1.out);(case side5=>repeat (first|exact (cB HR0_2.out HB.out)|(with_reducible first|refine cL ?_ _|refine cN ?_ _|refine cW ?_)));(case side6=>exact HC0_2.out);(case side7=>repeat (first|exact (cB HR0_3.out HB.out)|(with_reducible first|refine cL ?_ _|refine cN ?_ _|refine cW ?_)));(case side8=>exact HC0_3.out);(case side9=>repeat (first|exact (cB HR0_4.out HB.out)|(with_reducible first|refine cL ?_ _|refine cN ?_ _|refine cW ?_)));(case side10=>exact HC0_4.out);rintro e w7 ⟨rfl,hb⟩;refine ⟨_,rfl,?_⟩;have n0_:=qK (qB (g:=gb274) (o:=_) (by (with_reducible repeat (first|refine qN ?_ _|refine qW ?_|refine qL ?_ _));exact BK274.out) hb);have n1_:=qK (qT (by repeat (with_reducible first|exact HB.out|apply qA|apply qD|apply qO|refine qS ?_ GE274.out)) hb);clear BK274;clear HB;have BK274:=n0_;have HB:=n1_;clear n0_ n1_;(try clear hb);have hcz8_0:w7.cell? ⟨gb274,0,none⟩=some (.slice A0_0 l0_0.length c0_0):=(qC BK274.out 0).trans rfl;have hcz8_1:w7.cell? ⟨gb274,1,none⟩=some (.slice A0_1 l0_1.length c0_1):=(qC BK274.out 1).trans rfl;have hcz8_2:w7.cell? ⟨gb274,2,none⟩=some (.slice A0_2 l0_2.length c0_2):=(qC BK274.out 2).trans rfl;have hcz8_3:w7.cell? ⟨gb274,3,none⟩=some (.slice A0_3 l0_3.length c0_3):=(qC BK274.out 3).trans rfl;have hcz8_4:w7.cell? ⟨gb274,4,none⟩=some (.slice A0_4 l0_4.length c0_4):=(qC BK274.out 4).trans rfl;have hfz8_0:=qF BK274.out 0;have hfz8_1:=qF BK274.out 1;have hfz8_2:=qF BK274.out 2;have hfz8_3:=qF BK274.out 3;have hfz8_4:=qF BK274.out 4)|((with_reducible refine gate_callee (f:=33) rfl ?_);refine goesL_ (some 8) rfl rfl Try.func33 (by kernel_rfl) rfl #[.agg #[.slice A0_0 l0_0.length c0_0,.slice A0_1 l0_1.length c0_1,.slice A0_2 l0_2.length c0_2,.slice A0_3 l0_3.length c0_3,.slice A0_4 l0_4.length c0_4]] rfl (by (try simp only [mT,mC,mN]);first|done|rfl|(simp only [lD,lT];rfl)) ?_;(with_reducible refine (spec_l14WaitsFor.calls k _ _ l0_0 _ _ l0_1 _ _ l0_2 _ _ l0_3 _ _ l0_4 t276 _ ?side1 ?side2 ?side3 ?side4 ?side5 ?side6 ?side7 ?side8 ?side9 ?side10 A4.out).mono ?_);(case side1=>repeat (first|exact (cB HR0_0.out HB.out)|(with_reducible first|refine cL ?_ _|refine cN ?_ _|refine cW ?_)));(case side2=>exact HC0_0.out);(case side3=>repeat (first|exact (cB HR0_1.out HB.out)|(with_reducible first|refine cL ?_ _|refine cN ?_ _|refine cW ?_)));(case side4=>exact HC0_1.out);(case side5=>repeat (first|exact (cB HR0_2.out HB.out)|(with_reducible first|refine cL ?_ _|refine cN ?_ _|refine cW ?_)));(case side6=>exact HC0_2.out);(case side7=>repeat (first|exact (cB HR0_3.out HB.out)|(with_reducible first|refine cL ?_ _|refine cN ?_ _|refine cW ?_)));(case side8=>exact HC0_3.out);(case side9=>repeat (first|exact (cB HR0_4.out HB.out)|(with_reducible first|refine cL ?_ _|refine cN ?_ _|refine cW ?_)));(case side10=>exact HC0_4.out);rintro e w9 ⟨v277,rfl,ho0,hb⟩;refine ⟨_,rfl,?_⟩;have n0_:=qK (Kd.N_lower (Kd.N_mono (ok':=fun k_=>(w.heap.size≤k_)∧k_ ≠ gb274) ho0 (fun k_ hk_=>⟨(Nat.le_trans (qZ (by repeat (with_reducible first|exact HB.out|apply qA|apply qD|apply qO|refine qS ?_ GE274.out))) hk_),(Kd.freshB (g:=gb274) (o:=_) (by (with_reducible repeat (first|refine qN ?_ _|refine qW ?_|refine qL ?_ _));exact BK274.out) k_ hk_)⟩)) (qZ (by repeat (with_reducible first|exact HB.out|apply qA|apply qD|apply qO|refine qS ?_ GE274.out))));have n1_:=qK (qB (g:=gb274) (o:=_) (by (with_reducible repeat (first|refine qN ?_ _|refine qW ?_|refine qL ?_ _));exact BK274.out) hb);have n2_:=qK (qT (by repeat (with_reducible first|exact HB.out|apply qA|apply qD|apply qO|refine qS ?_ GE274.out)) hb);clear BK274;clear HB;have HO278:=n0_;have BK274:=n1_;have HB:=n2_;clear n0_ n1_ n2_;(try clear hb);(try clear ho0)))
  go_ret2
  exact ⟨_,by first|rfl|(simp [errW_none,errW_some] <;> rfl)|(simp [*,errW_none,errW_some] <;> rfl),by (with_reducible repeat (first|apply Kd.N_alloc|apply Kd.N_drewN|apply Kd.N_drew));exact Kd.N_mono HO278.out (fun _ hk=>hk.1),by repeat (first|(with_reducible first|exact HB.out|apply qA|apply qD|apply qO|refine qS ?_ GE274.out)|exact HB.out)⟩
 ·replace c3:=Bool.eq_false_iff.mpr c3;subst c3;have H1:(some (([]:List (List Int)),false))=some (r1,r2):=by rw [if_neg (show ¬ (false=true) by decide)] at H;exact H
  clear H;have H:=H1;clear H1;simp only [Option.some.injEq,Prod.mk.injEq] at H;obtain ⟨rfl,rfl⟩:=H;go_enter Try.func14,Try.ntmps14
  go_wp2_with (first|((with_reducible refine gate_dst (N:=1) rfl ?_);refine box_event ?hg (N:=1) ?hd (cs:=#[.slice A0_0 l0_0.length c0_0,.slice A0_1 l0_1.length c0_1,.slice A0_2 l0_2.length c0_2,.slice A0_3 l0_3.length c0_3,.slice A0_4 l0_4.length c0_4]) (t:=31) ?hr ?_;(case hd=>rfl);(case hg=>rfl);(case hr=>(go_simp;try rfl));intro gb274 hg w10 hbox hb;have n0_:=qK (qT (by repeat (with_reducible first|exact HB.out|apply qA|apply qD|apply qO)) hb);have n1_:=qK (hbox);have n2_:=qK ((by rw [hg];exact (qZ (by repeat (with_reducible first|exact HB.out|apply qA|apply qD|apply qO))):w.heap.size≤gb274));have n3_:=qK ((by rw [hg];exact (qZ (by repeat (with_reducible first|exact HB.out|apply qA|apply qD|apply qO))):w.heap.size≤gb274));clear HB;have HB:=n0_;have BK274:=n1_;have GW274:=n2_;have GE274:=n3_;clear n0_ n1_ n2_ n3_;clear hb hbox hg;have hcz11_0:w10.cell? ⟨gb274,0,none⟩=some (.slice A0_0 l0_0.length c0_0):=(qC BK274.out 0).trans rfl;have hcz11_1:w10.cell? ⟨gb274,1,none⟩=some (.slice A0_1 l0_1.length c0_1):=(qC BK274.out 1).trans rfl;have hcz11_2:w10.cell? ⟨gb274,2,none⟩=some (.slice A0_2 l0_2.length c0_2):=(qC BK274.out 2).trans rfl;have hcz11_3:w10.cell? ⟨gb274,3,none⟩=some (.slice A0_3 l0_3.length c0_3):=(qC BK274.out 3).trans rfl;have hcz11_4:w10.cell? ⟨gb274,4,none⟩=some (.slice A0_4 l0_4.length c0_4):=(qC BK274.out 4).trans rfl;have hfz11_0:=qF BK274.out 0;have hfz11_1:=qF BK274.out 1;have hfz11_2:=qF BK274.out 2;have hfz11_3:=qF BK274.out 3;have hfz11_4:=qF BK274.out 4)|((with_reducible refine gate_callee (f:=21) rfl ?_);refine goesL_ (some 5) rfl rfl Try.func21 (by kernel_rfl) rfl #[.agg #[.slice A0_0 l0_0.length c0_0,.slice A0_1 l0_1.length c0_1,.slice A0_2 l0_2.length c0_2,.slice A0_3 l0_3.length c0_3,.slice A0_4 l0_4.length c0_4]] rfl (by (try simp only [mT,mC,mN]);first|done|rfl|(simp only [lD,lT];rfl)) ?_;(with_reducible refine (spec_GoodLocks.calls k _ _ l0_0 _ _ l0_1 _ _ l0_2 _ _ l0_3 _ _ l0_4 false _ ?side1 ?side2 ?side3 ?side4 ?side5 ?side6 ?side7 ?side8 ?side9 ?side10 A2.out).mono ?_);(case side1=>repeat (first|exact (cB HR0_0.out HB.out)|(with_reducible first|refine cL ?_ _|refine cN ?_ _|refine cW ?_)));(case side2=>exact HC0_0.out);(case side3=>repeat (first|exact (cB HR0_1.out HB.out)|(with_reducible first|refine cL ?_ _|refine cN ?_ _|refine cW ?_)));(case side4=>exact HC0_1.out);(case side5=>repeat (first|exact (cB HR0_2.out HB.out)|(with_reducible first|refine cL ?_ _|refine cN ?_ _|refine cW ?_)));(case side6=>exact HC0_2.out);(case side7=>repeat (first|exact (cB HR0_3.out HB.out)|(with_reducible first|refine cL ?_ _|refine cN ?_ _|refine cW ?_)));(case side8=>exact HC0_3.out);(case side9=>repeat (first|exact (cB HR0_4.out HB.out)|(with_reducible first|refine cL ?_ _|refine cN ?_ _|refine cW ?_)));(case side10=>exact HC0_4.out);rintro e w12 ⟨rfl,hb⟩;refine ⟨_,rfl,?_⟩;have n0_:=qK (qB (g:=gb274) (o:=_) (by (with_reducible repeat (first|refine qN ?_ _|refine qW ?_|refine qL ?_ _));exact BK274.out) hb);have n1_:=qK (qT (by repeat (with_reducible first|exact HB.out|apply qA|apply qD|apply qO|refine qS ?_ GE274.out)) hb);clear BK274;clear HB;have BK274:=n0_;have HB:=n1_;clear n0_ n1_;(try clear hb)))
  go_ret2
  exact ⟨_,by first|rfl|(simp [errW_none,errW_some] <;> rfl)|(simp [*,errW_none,errW_some] <;> rfl),by first|exact Kd.S_nil _ _ _ _ _|exact Kd.N_nil _ _ _ _ _|exact Kd.V_nil _ _ _ _ _|exact Kd.Q_nil _ _ _ _ _|exact Kd.R_nil _ _ _ _ _,by repeat (first|(with_reducible first|exact HB.out|apply qA|apply qD|apply qO|refine qS ?_ GE274.out)|exact HB.out)⟩

/-! ### idxf_Step: function 52 -/
set_option maxHeartbeats 4000000 in
set_option maxRecDepth 100000 in
theorem idxf_Step.calls (A : Option Addr) (c : Nat) (l : List (S47)) (g : Nat) (lb : Array Value) (p : S47 → Bool) (w : World) (eg : ∀ args w, (callFunc g args).run Try.prog w = .ok (.enter g args) w)
    (hr : Kd.C k47 w A l.length l) (hp : PredOn Try.prog g lb (Agg k47) p l w) :
    Calls Try.prog 52 #[.slice A l.length c, .func (.func g) #[] lb] w fun e w' => e = .returned (.int .i64 (idxf p l)) ∧ Below w.heap.size w w' := by
  have hl : l.length ≤ 9223372036854775807 := hr.2.1
  have HR := Aside0.mk hr
  clear hr
  have HP := Aside0.mk hp
  clear hp
  go_enter Try.func52, Try.ntmps52
  go_wp2
  go_loopg [5, 8] l.length (fun gg _ s8 wr => ∃ kk : Nat, kk ≤ l.length ∧ l.length - kk ≤ gg ∧ s8 = .int .i64 kk ∧ Aside0 (Below w.heap.size w wr) ∧ Aside0 (∀ j, (hj : j < l.length) → j < kk → p l[j] = false))
  case atStart => exact ⟨0, Nat.zero_le _, by omega, rfl, ⟨Below.refl _ w⟩, ⟨fun j hj h => absurd h (Nat.not_lt_zero _)⟩⟩
  case round =>
    obtain ⟨kk, hkk, hg, rfl, BW, AA⟩ := hrel
    by_cases hlt : kk < l.length
    · have hltz : (kk : Int) < (l.length : Int) := by omega
      have hmem : l[kk] ∈ l := List.getElem_mem hlt
      obtain ⟨ad, cs, e1, hlen, hK, hcell⟩ := Kd.C_get (Kd.C_below HR.out BW.out) l[kk] (kk : Int) (by omega) (by omega)
      cases e1
      have hrd : l.getD (kk : Int).toNat l[kk] = l[kk] := by simp [hlt]
      rw [hrd] at hK
      replace hlen : cs.length = 3 := hlen
      obtain ⟨c0_, c1_, c2_, rfl⟩ : ∃ c0_ c1_ c2_ : Value, cs = [c0_, c1_, c2_] := list_len3 hlen
      replace hcell : ∀ j u, ([c0_, c1_, c2_] : List Value)[j]? = some u → wr.cell? (ad.add ((kk : Int).toNat * 3 + j)) = some u := hcell
      have h0_ : wr.cell? (ad.add (kk * 3)) = some c0_ := by have := hcell 0 _ rfl; simpa using this
      have h1_ : wr.cell? ⟨(ad.add (kk * 3)).block, (ad.add (kk * 3)).off + 1, none⟩ = some c1_ := by have := hcell 1 _ rfl; rw [show (kk : Int).toNat = kk from by simp] at this; rw [← add_field _ _ 1 (by omega)]; exact this
      have h2_ : wr.cell? ⟨(ad.add (kk * 3)).block, (ad.add (kk * 3)).off + 2, none⟩ = some c2_ := by have := hcell 2 _ rfl; rw [show (kk : Int).toNat = kk from by simp] at this; rw [← add_field _ _ 2 (by omega)]; exact this
      have hcall := HP.out wr l[kk] (.agg #[c0_, c1_, c2_]) hmem BW.out ⟨_, rfl, hK⟩
      clear hcell hK hlen hmem hrd
      have AY : Aside0 (∃ y, y = l[kk]) := ⟨⟨_, rfl⟩⟩
      obtain ⟨⟨y, hy⟩⟩ := AY
      rw [← hy] at hcall
      have HY := Aside0.mk hy
      clear hy
      cases hq : p y with
      | true =>
        rw [hq] at hcall
        have HQ := Aside0.mk hq
        clear hq
        go_wp2_with (go_at_fn g; refine hcall.mono ?_; rintro e w' ⟨rfl, hb'⟩)
        go_ret
        refine ⟨?_, below_step BW.out hb'⟩
        rw [idxf_hit hlt (by rw [← HY.out]; exact HQ.out) (fun j hj => AA.out j (by omega) hj)]
        rfl
      | false =>
        rw [hq] at hcall
        have HQ := Aside0.mk hq
        clear hq
        go_wp2_with (go_at_fn g; refine hcall.mono ?_; rintro e w' ⟨rfl, hb'⟩)
        go_roundg (l.length - (kk + 1))
        case measure => omega
        case rel =>
          refine ⟨kk + 1, by omega, by omega, by go_num, ⟨below_step BW.out hb'⟩, ⟨fun j hj hlt2 => ?_⟩⟩
          by_cases e : j = kk
          · subst e
            rw [← HY.out]; exact HQ.out
          · exact AA.out j hj (by omega)
    · have hltz : ¬ (kk : Int) < (l.length : Int) := by omega
      go_wp2
      go_ret
      refine ⟨?_, BW.out⟩
      rw [idxf_miss (fun j hj => AA.out j hj (by omega))]
      rfl

/-! ### anyf_Step: function 49 -/
set_option maxHeartbeats 4000000 in
set_option maxRecDepth 100000 in
theorem anyf_Step.calls (A : Option Addr) (c : Nat) (l : List (S47)) (g : Nat) (lb : Array Value) (p : S47 → Bool) (w : World) (eg : ∀ args w, (callFunc g args).run Try.prog w = .ok (.enter g args) w)
    (hr : Kd.C k47 w A l.length l) (hp : PredOn Try.prog g lb (Agg k47) p l w) :
    Calls Try.prog 49 #[.slice A l.length c, .func (.func g) #[] lb] w fun e w' => e = .returned (.bool (l.any p)) ∧ Below w.heap.size w w' := by
  rw [← idxf_any p l]
  have HR := Aside0.mk hr
  clear hr
  have HP := Aside0.mk hp
  clear hp
  obtain ⟨i, hi⟩ : ∃ i, i = idxf p l := ⟨_, rfl⟩
  rw [← hi]
  have HI := Aside0.mk hi
  clear hi
  go_enter Try.func49, Try.ntmps49
  go_wp2_with (go_at_call 52; refine (idxf_Step.calls A c l g lb p _ eg HR.out HP.out).mono ?_; rw [← HI.out]; rintro e w' ⟨rfl, hb'⟩)
  go_ret
  exact ⟨rfl, hb'⟩

/-! ### areAll1_Step: function 57 -/
set_option maxHeartbeats 4000000 in
set_option maxRecDepth 100000 in
theorem areAll1_Step.pred (B : Nat) (l : List (S47)) (g : Nat) (lb : Array Value) (p : S47 → Bool) (w : World) (eg : ∀ args w, (callFunc g args).run Try.prog w = .ok (.enter g args) w)
    (hB : w.cell? ⟨B, 0, none⟩ = some (.func (.func g) #[] lb)) (hp : PredOn Try.prog g lb (Agg k47) p l w) :
    PredOn Try.prog 57 #[.pointer (some ⟨B, 0, none⟩)] (Agg k47) (fun x => !p x) l w := by
  intro W x v hx hW hv
  obtain ⟨cs, rfl, hK⟩ := hv
  have hlen : cs.length = 3 := Kd.K_len _ hK
  obtain ⟨c0_, c1_, c2_, rfl⟩ : ∃ c0_ c1_ c2_ : Value, cs = [c0_, c1_, c2_] := list_len3 hlen
  have hB' : W.cell? ⟨B, 0, none⟩ = some (.func (.func g) #[] lb) := pw_cell_below hW hB
  have HP := Aside0.mk hp
  clear hp hB
  obtain ⟨b, hb⟩ : ∃ b, b = p x := ⟨_, rfl⟩
  have hb0 := Aside0.mk hb
  have hK' := Kd.K_below _ (below_alloc (Below.refl W.heap.size W) (.cells #[c0_, c1_, c2_] 47)) hK
  have hgr := Aside0.mk (below_alloc (Below.refl W.heap.size W) (.cells #[c0_, c1_, c2_] 47))
  have HKK := Aside0.mk hK'
  have hB'' := pw_cell_below hgr.out hB'
  have HWW := Aside0.mk hW
  clear hK hK' hW
  show Calls Try.prog 57 #[.agg #[c0_, c1_, c2_], .pointer (some ⟨B, 0, none⟩)] W fun e W' => e = .returned (.bool (!p x)) ∧ Below W.heap.size W W'
  rw [← hb]
  clear hb
  cases b with
  | true =>
    go_enter Try.func57, Try.ntmps57
    go_wp2_with (go_at_fn g; refine (HP.out _ x _ hx (below_step HWW.out hgr.out) ⟨_, rfl, HKK.out⟩).mono ?_; rw [← hb0.out]; rintro e w' ⟨rfl, hb'⟩)
    go_ret
    exact ⟨rfl, below_step hgr.out hb'⟩
  | false =>
    go_enter Try.func57, Try.ntmps57
    go_wp2_with (go_at_fn g; refine (HP.out _ x _ hx (below_step HWW.out hgr.out) ⟨_, rfl, HKK.out⟩).mono ?_; rw [← hb0.out]; rintro e w' ⟨rfl, hb'⟩)
    go_ret
    exact ⟨rfl, below_step hgr.out hb'⟩

/-! ### areAll_Step: function 42 -/
set_option maxHeartbeats 4000000 in
set_option maxRecDepth 100000 in
theorem areAll_Step.calls (A : Option Addr) (c : Nat) (l : List (S47)) (g : Nat) (lb : Array Value) (p : S47 → Bool) (w : World) (eg : ∀ args w, (callFunc g args).run Try.prog w = .ok (.enter g args) w)
    (hr : Kd.C k47 w A l.length l) (hp : PredOn Try.prog g lb (Agg k47) p l w) :
    Calls Try.prog 42 #[.slice A l.length c, .func (.func g) #[] lb] w fun e w' => e = .returned (.bool (l.all p)) ∧ Below w.heap.size w w' := by
  have hb1 : Below w.heap.size w (w.alloc (.cells #[.func (.func g) #[] lb] 53)) := below_alloc (Below.refl _ _) _
  have hp1 := areAll1_Step.pred w.heap.size l g lb p (w.alloc (.cells #[.func (.func g) #[] lb] 53)) eg (by simp) (hp.grown hb1)
  have HR := Aside0.mk (Kd.C_below hr hb1)
  have HP := Aside0.mk hp1
  have HB1 := Aside0.mk hb1
  clear hr hp hp1 hb1
  obtain ⟨b, hb⟩ : ∃ b, b = l.any (fun x => !p x) := ⟨_, rfl⟩
  have hall : l.all p = !b := by rw [hb, List.all_eq_not_any_not]
  rw [hall]
  have hb0 := Aside0.mk hb
  clear hb hall
  have e1 := enters_of Try.func57 (by kernel_rfl) rfl
  cases b with
  | true =>
    go_enter Try.func42, Try.ntmps42
    go_wp2_with (go_at_call 49; refine (anyf_Step.calls A c l _ _ _ _ e1 HR.out HP.out).mono ?_; rw [← hb0.out]; rintro e w' ⟨rfl, hb'⟩)
    go_ret
    exact ⟨rfl, below_step HB1.out hb'⟩
  | false =>
    go_enter Try.func42, Try.ntmps42
    go_wp2_with (go_at_call 49; refine (anyf_Step.calls A c l _ _ _ _ e1 HR.out HP.out).mono ?_; rw [← hb0.out]; rintro e w' ⟨rfl, hb'⟩)
    go_ret
    exact ⟨rfl, below_step HB1.out hb'⟩

/-! ### idxf_Int: function 64 -/
set_option maxHeartbeats 4000000 in
set_option maxRecDepth 100000 in
theorem idxf_Int.calls (A : Option Addr) (c : Nat) (l : List (Int)) (g : Nat) (lb : Array Value) (p : Int → Bool) (w : World) (eg : ∀ args w, (callFunc g args).run Try.prog w = .ok (.enter g args) w)
    (hr : Kd.C (Kd.int .i64) w A l.length l) (hp : PredOn Try.prog g lb (One (Kd.int .i64)) p l w) :
    Calls Try.prog 64 #[.slice A l.length c, .func (.func g) #[] lb] w fun e w' => e = .returned (.int .i64 (idxf p l)) ∧ Below w.heap.size w w' := by
  have hl : l.length ≤ 9223372036854775807 := hr.2.1
  have HR := Aside0.mk hr
  clear hr
  have HP := Aside0.mk hp
  clear hp
  go_enter Try.func64, Try.ntmps64
  go_wp2
  go_loopg [5, 8] l.length (fun gg _ s8 wr => ∃ kk : Nat, kk ≤ l.length ∧ l.length - kk ≤ gg ∧ s8 = .int .i64 kk ∧ Aside0 (Below w.heap.size w wr) ∧ Aside0 (∀ j, (hj : j < l.length) → j < kk → p l[j] = false))
  case atStart => exact ⟨0, Nat.zero_le _, by omega, rfl, ⟨Below.refl _ w⟩, ⟨fun j hj h => absurd h (Nat.not_lt_zero _)⟩⟩
  case round =>
    obtain ⟨kk, hkk, hg, rfl, BW, AA⟩ := hrel
    by_cases hlt : kk < l.length
    · have hltz : (kk : Int) < (l.length : Int) := by omega
      have hmem : l[kk] ∈ l := List.getElem_mem hlt
      obtain ⟨ad, cs, e1, hlen, hK, hcell⟩ := Kd.C_get (Kd.C_below HR.out BW.out) l[kk] (kk : Int) (by omega) (by omega)
      cases e1
      have hrd : l.getD (kk : Int).toNat l[kk] = l[kk] := by simp [hlt]
      rw [hrd] at hK
      replace hlen : cs.length = 1 := hlen
      obtain ⟨c0_, rfl⟩ : ∃ c0_ : Value, cs = [c0_] := list_len1 hlen
      replace hcell : ∀ j u, ([c0_] : List Value)[j]? = some u → wr.cell? (ad.add ((kk : Int).toNat * 1 + j)) = some u := hcell
      have h0_ : wr.cell? (ad.add kk) = some c0_ := by have := hcell 0 _ rfl; simpa using this
      have hcall := HP.out wr l[kk] (c0_) hmem BW.out hK
      clear hcell hK hlen hmem hrd
      have AY : Aside0 (∃ y, y = l[kk]) := ⟨⟨_, rfl⟩⟩
      obtain ⟨⟨y, hy⟩⟩ := AY
      rw [← hy] at hcall
      have HY := Aside0.mk hy
      clear hy
      cases hq : p y with
      | true =>
        rw [hq] at hcall
        have HQ := Aside0.mk hq
        clear hq
        go_wp2_with (go_at_fn g; refine hcall.mono ?_; rintro e w' ⟨rfl, hb'⟩)
        go_ret
        refine ⟨?_, below_step BW.out hb'⟩
        rw [idxf_hit hlt (by rw [← HY.out]; exact HQ.out) (fun j hj => AA.out j (by omega) hj)]
        rfl
      | false =>
        rw [hq] at hcall
        have HQ := Aside0.mk hq
        clear hq
        go_wp2_with (go_at_fn g; refine hcall.mono ?_; rintro e w' ⟨rfl, hb'⟩)
        go_roundg (l.length - (kk + 1))
        case measure => omega
        case rel =>
          refine ⟨kk + 1, by omega, by omega, by go_num, ⟨below_step BW.out hb'⟩, ⟨fun j hj hlt2 => ?_⟩⟩
          by_cases e : j = kk
          · subst e
            rw [← HY.out]; exact HQ.out
          · exact AA.out j hj (by omega)
    · have hltz : ¬ (kk : Int) < (l.length : Int) := by omega
      go_wp2
      go_ret
      refine ⟨?_, BW.out⟩
      rw [idxf_miss (fun j hj => AA.out j hj (by omega))]
      rfl

/-! ### anyf_Int: function 59 -/
set_option maxHeartbeats 4000000 in
set_option maxRecDepth 100000 in
theorem anyf_Int.calls (A : Option Addr) (c : Nat) (l : List (Int)) (g : Nat) (lb : Array Value) (p : Int → Bool) (w : World) (eg : ∀ args w, (callFunc g args).run Try.prog w = .ok (.enter g args) w)
    (hr : Kd.C (Kd.int .i64) w A l.length l) (hp : PredOn Try.prog g lb (One (Kd.int .i64)) p l w) :
    Calls Try.prog 59 #[.slice A l.length c, .func (.func g) #[] lb] w fun e w' => e = .returned (.bool (l.any p)) ∧ Below w.heap.size w w' := by
  rw [← idxf_any p l]
  have HR := Aside0.mk hr
  clear hr
  have HP := Aside0.mk hp
  clear hp
  obtain ⟨i, hi⟩ : ∃ i, i = idxf p l := ⟨_, rfl⟩
  rw [← hi]
  have HI := Aside0.mk hi
  clear hi
  go_enter Try.func59, Try.ntmps59
  go_wp2_with (go_at_call 64; refine (idxf_Int.calls A c l g lb p _ eg HR.out HP.out).mono ?_; rw [← HI.out]; rintro e w' ⟨rfl, hb'⟩)
  go_ret
  exact ⟨rfl, hb'⟩

/-! ### areAll1_Int: function 60 -/
set_option maxHeartbeats 4000000 in
set_option maxRecDepth 100000 in
theorem areAll1_Int.pred (B : Nat) (l : List (Int)) (g : Nat) (lb : Array Value) (p : Int → Bool) (w : World) (eg : ∀ args w, (callFunc g args).run Try.prog w = .ok (.enter g args) w)
    (hB : w.cell? ⟨B, 0, none⟩ = some (.func (.func g) #[] lb)) (hp : PredOn Try.prog g lb (One (Kd.int .i64)) p l w) :
    PredOn Try.prog 60 #[.pointer (some ⟨B, 0, none⟩)] (One (Kd.int .i64)) (fun x => !p x) l w := by
  intro W x v hx hW hv
  obtain ⟨c0_, rfl⟩ : ∃ c0_, c0_ = v := ⟨_, rfl⟩
  have hB' : W.cell? ⟨B, 0, none⟩ = some (.func (.func g) #[] lb) := pw_cell_below hW hB
  have HP := Aside0.mk hp
  clear hp hB
  obtain ⟨b, hb⟩ : ∃ b, b = p x := ⟨_, rfl⟩
  have hb0 := Aside0.mk hb
  have HV := Aside0.mk hv
  have HWW := Aside0.mk hW
  clear hv hW
  show Calls Try.prog 60 #[c0_, .pointer (some ⟨B, 0, none⟩)] W fun e W' => e = .returned (.bool (!p x)) ∧ Below W.heap.size W W'
  rw [← hb]
  clear hb
  cases b with
  | true =>
    go_enter Try.func60, Try.ntmps60
    go_wp2_with (go_at_fn g; refine (HP.out _ x _ hx HWW.out HV.out).mono ?_; rw [← hb0.out]; rintro e w' ⟨rfl, hb'⟩)
    go_ret
    exact ⟨rfl, hb'⟩
  | false =>
    go_enter Try.func60, Try.ntmps60
    go_wp2_with (go_at_fn g; refine (HP.out _ x _ hx HWW.out HV.out).mono ?_; rw [← hb0.out]; rintro e w' ⟨rfl, hb'⟩)
    go_ret
    exact ⟨rfl, hb'⟩

/-! ### areAll_Int: function 44 -/
set_option maxHeartbeats 4000000 in
set_option maxRecDepth 100000 in
theorem areAll_Int.calls (A : Option Addr) (c : Nat) (l : List (Int)) (g : Nat) (lb : Array Value) (p : Int → Bool) (w : World) (eg : ∀ args w, (callFunc g args).run Try.prog w = .ok (.enter g args) w)
    (hr : Kd.C (Kd.int .i64) w A l.length l) (hp : PredOn Try.prog g lb (One (Kd.int .i64)) p l w) :
    Calls Try.prog 44 #[.slice A l.length c, .func (.func g) #[] lb] w fun e w' => e = .returned (.bool (l.all p)) ∧ Below w.heap.size w w' := by
  have hb1 : Below w.heap.size w (w.alloc (.cells #[.func (.func g) #[] lb] 67)) := below_alloc (Below.refl _ _) _
  have hp1 := areAll1_Int.pred w.heap.size l g lb p (w.alloc (.cells #[.func (.func g) #[] lb] 67)) eg (by simp) (hp.grown hb1)
  have HR := Aside0.mk (Kd.C_below hr hb1)
  have HP := Aside0.mk hp1
  have HB1 := Aside0.mk hb1
  clear hr hp hp1 hb1
  obtain ⟨b, hb⟩ : ∃ b, b = l.any (fun x => !p x) := ⟨_, rfl⟩
  have hall : l.all p = !b := by rw [hb, List.all_eq_not_any_not]
  rw [hall]
  have hb0 := Aside0.mk hb
  clear hb hall
  have e1 := enters_of Try.func60 (by kernel_rfl) rfl
  cases b with
  | true =>
    go_enter Try.func44, Try.ntmps44
    go_wp2_with (go_at_call 59; refine (anyf_Int.calls A c l _ _ _ _ e1 HR.out HP.out).mono ?_; rw [← hb0.out]; rintro e w' ⟨rfl, hb'⟩)
    go_ret
    exact ⟨rfl, below_step HB1.out hb'⟩
  | false =>
    go_enter Try.func44, Try.ntmps44
    go_wp2_with (go_at_call 59; refine (anyf_Int.calls A c l _ _ _ _ e1 HR.out HP.out).mono ?_; rw [← hb0.out]; rintro e w' ⟨rfl, hb'⟩)
    go_ret
    exact ⟨rfl, below_step HB1.out hb'⟩

/-! ### impl_set_list: function 35 -/
def impl_set_list.l0 : Nat→Int→List Int→Int→Option (List Int)
 | 0,_,_,_=>none
 | k + 1,x0,x3,x4=>if 0≤x4 then (if (shr .i64 x0 x4)=0 then (some x3) else (if (Go.bits .and .i64 (shr .i64 x0 x4) 1)=1 then (if x3.length < 17592186044416 then (impl_set_list.l0 k x0 (x3 ++ [x4]) (wrap64 (x4 + 1))) else (none)) else (impl_set_list.l0 k x0 x3 (wrap64 (x4 + 1))))) else (none)
def impl_set_list.f (k:Nat) (a0:Int):Option (List Int):=impl_set_list.l0 k a0 ([]:List Int) 0
theorem impl_set_list.mono_l : ∀ k,(∀ y0 y1 y2,LeO (impl_set_list.l0 k y0 y1 y2) (impl_set_list.l0 (k + 1) y0 y1 y2))
 | 0=>fun _ _ _ r h=>by simp [impl_set_list.l0] at h
 | k + 1=>by
  have ih0:=impl_set_list.mono_l k
  ·intro y0 y1 y2;unfold impl_set_list.l0
   repeat' first
   | (with_reducible exact ih0 _ _ _)
   | (with_reducible exact LeO.refl _)
   | (with_reducible exact LeO.none _)
   | (with_reducible refine LeO.ite ?_ ?_)
   | (with_reducible refine LeO.bind ?_ (fun _=>?_))
   | exact ih0 _ _ _
   | exact LeO.none _
   | refine LeO.ite ?_ ?_
   | refine LeO.bind ?_ (fun _=>?_)
theorem impl_set_list.mono : ∀ a0 k,LeO (impl_set_list.f k a0) (impl_set_list.f (k + 1) a0):=by
 intro a0 k;have ih0:=impl_set_list.mono_l k;unfold impl_set_list.f
 repeat' first
   | (with_reducible exact ih0 _ _ _)
   | (with_reducible exact LeO.refl _)
   | (with_reducible exact LeO.none _)
   | (with_reducible refine LeO.ite ?_ ?_)
   | (with_reducible refine LeO.bind ?_ (fun _=>?_))
   | exact ih0 _ _ _
   | exact LeO.none _
   | refine LeO.ite ?_ ?_
   | refine LeO.bind ?_ (fun _=>?_)
set_option maxHeartbeats 8000000 in
set_option maxRecDepth 100000 in
theorem impl_set_list.calls (k:Nat) (a0:Int) (r:List Int) (w:World) (h:impl_set_list.f k a0=some r) :
  Calls Try.prog 35 #[.int .i64 a0] w fun e w'=>∃ v0_:Value,e=.returned (v0_)∧Kd.R (Kd.int .i64) 3 w' w.heap.size (fun _=>True) v0_ r∧Below w.heap.size w w':=by
 have HB:=qK (Below.refl w.heap.size w);have H:(impl_set_list.l0 k a0 ([]:List Int) 0)=some r:=h;clear h;have H':=qK H;clear H;go_enter Try.func35,Try.ntmps35
 go_wp2
 go_loopg [3,4] k (fun kq v3 v4 w'=>∃ (x3_1:List Int) (x4_1:Int),v4=.int .i64 x4_1∧Aside0 (impl_set_list.l0 kq a0 x3_1 x4_1=some r)∧Aside0 (kq≤k)∧Aside0 (Kd.R (Kd.int .i64) 3 w' w.heap.size (fun _=>True) v3 x3_1)∧Aside0 (Below w.heap.size w w'))
 case atStart=>exact ⟨(([]:List Int)),(0),(by first|rfl|(simp;done)|(simp [*];done)),H',⟨Nat.le_refl _⟩,⟨by first|exact Kd.R_nil _ _ _ _ _|exact Kd.N_nil _ _ _ _ _|exact Kd.V_nil _ _ _ _ _|exact Kd.Q_nil _ _ _ _ _|exact Kd.S_nil _ _ _ _ _⟩,⟨by repeat (first|(with_reducible first|exact HB.out|apply qA|apply qD|apply qO)|exact HB.out)⟩⟩
 case round =>
  clear H';obtain ⟨x3_1,x4_1,rfl,HA,HK1,HO_3,HB⟩:=hrel;cases gk with
  | zero=>exact absurd HA.out (by simp [impl_set_list.l0])
  | succ k1 =>
   have H:=HA.out;clear HA;simp only [impl_set_list.l0] at H;by_cases c2:0≤x4_1
   ·rw [if_pos c2] at H;have c2b0:=eq_true c2;have c2b1:decide (0≤x4_1)=true:=decide_eq_true c2;clear c2;obtain ⟨ji3,hji3⟩:∃ j_:Int,(shr .i64 a0 x4_1)=j_:=⟨_,rfl⟩;replace H:(if (ji3)=0 then (some x3_1) else (if (Go.bits .and .i64 (ji3) 1)=1 then (if x3_1.length < 17592186044416 then (impl_set_list.l0 k1 a0 (x3_1 ++ [x4_1]) (wrap64 (x4_1 + 1))) else (none)) else (impl_set_list.l0 k1 a0 x3_1 (wrap64 (x4_1 + 1)))))=some r:=by first|(rw [hji3] at H;exact H)|(simp only [hji3] at H ⊢;exact H)
    have hji3_:(a0 / 2 ^ min x4_1.toNat 64)=ji3:=hji3;have hji3z:x4_1≤64→(a0 / 2 ^ x4_1.toNat)=ji3:=shr_small hji3;by_cases c4:(ji3)=0
    ·rw [if_pos c4] at H;have c4b0:((ji3) == 0)=true:=beq_iff_eq.mpr c4;have c4b1:((ji3) != 0)=false:=bne_eq_false_iff_eq.mpr c4;clear c4;obtain rfl:=Option.some.inj H;go_wp2
     go_ret
     exact ⟨_,by first|rfl|(simp [errW_none,errW_some] <;> rfl)|(simp only [← hji3];first|rfl|(simp [errW_none,errW_some] <;> rfl))|(simp [*,errW_none,errW_some] <;> rfl),by (with_reducible repeat (first|apply rL|apply rN|apply rW));exact HO_3.out,by repeat (first|(with_reducible first|exact HB.out|apply qA|apply qD|apply qO)|exact HB.out)⟩
    ·rw [if_neg c4] at H;have c4b0:((ji3) == 0)=false:=beq_eq_false_iff_ne.mpr c4;have c4b1:((ji3) != 0)=true:=bne_iff_ne.mpr c4;have c5b0:=eq_true (of_decide_eq_true (by first|(with_reducible assumption)|assumption):0≤x4_1);by_cases c6:(Go.bits .and .i64 (ji3) 1)=1
     ·rw [if_pos c6] at H;have c6b0:((Go.bits .and .i64 (ji3) 1) == 1)=true:=beq_iff_eq.mpr c6;have c6b1:((Go.bits .and .i64 (ji3) 1) != 1)=false:=bne_eq_false_iff_eq.mpr c6;clear c6;by_cases c7:x3_1.length < 17592186044416
      ·rw [if_pos c7] at H;have LMc7:=qK c7;clear c7;obtain ⟨y279,hy279⟩:∃ y_:List Int,y_=(x3_1 ++ [x4_1]):=⟨_,rfl⟩;replace H:(impl_set_list.l0 k1 a0 y279 (wrap64 (x4_1 + 1)))=some r:=by first|(rw [hy279];with_reducible exact H)|(have H2_:=(Option.bind_some _ _).symm.trans H;rw [hy279];with_reducible exact H2_)|(have H2_:=(Option.bind_some _ _).symm.trans H;with_reducible exact H2_)|with_reducible exact H|(rw [hy279];exact H)|exact H
       have Ny279:=qK hy279;clear hy279;have H':=qK H;clear H;go_wp2_with (first|((with_reducible refine gate_builtin (b:=.append) (xs:=#[.tmp 16,.tmp 18]) rfl ?_);at_builtin;refine Kd.R_append (Kd.int .i64) (w0:=w) w.heap.size rfl (.tmp 16) (.tmp 18) 23 3 (.int .i64 0) 8 rfl Try.underlying23 info3 rfl (by decide) (by omega) u3 x3_1 x4_1 [.int .i64 x4_1] (fun _=>True) (fun _=>False) rfl rfl ?aP (fun _ hk=>hk.elim) ?aF ?aO ?aB ?aS ?aL ?_;(case aP=>exact rfl);(case aB=>exact (by repeat (with_reducible first|exact HB.out|apply qA|apply qD|apply qO)));(case aF=>exact (fun _ _=>trivial));(case aO=>exact (by (with_reducible repeat (first|apply rL|apply rN|apply rW));exact HO_3.out));(case aS=>exact (qZ (by repeat (with_reducible first|exact HB.out|apply qA|apply qD|apply qO))));(case aL=>have:=LMc7.out;omega);intro v280 w8 ho hb hg hat;rw [← Ny279.out] at ho;have n0_:=qK (hb);have n1_:=qK (ho);clear HB;clear HO_3;have HB:=n0_;have HO281:=n1_;clear n0_ n1_;clear ho hb hg hat))
       go_roundg k1
       case measure=>have:=HK1.out;omega
       case rel=>exact ⟨(y279),(wrap64 (x4_1 + 1)),(by first|rfl|(simp;done)|(simp [*];done)),H',⟨by have:=HK1.out;omega⟩,⟨by (with_reducible repeat (first|apply rL|apply rN|apply rW));exact HO281.out⟩,⟨by repeat (first|(with_reducible first|exact HB.out|apply qA|apply qD|apply qO)|exact HB.out)⟩⟩
      ·rw [if_neg c7] at H;exact absurd H (by simp)
     ·rw [if_neg c6] at H;have c6b0:((Go.bits .and .i64 (ji3) 1) == 1)=false:=beq_eq_false_iff_ne.mpr c6;have c6b1:((Go.bits .and .i64 (ji3) 1) != 1)=true:=bne_iff_ne.mpr c6;have H':=qK H;clear H;go_wp2
      go_roundg k1
      case measure=>have:=HK1.out;omega
      case rel=>exact ⟨(x3_1),(wrap64 (x4_1 + 1)),(by first|rfl|(simp;done)|(simp [*];done)),H',⟨by have:=HK1.out;omega⟩,⟨by (with_reducible repeat (first|apply rL|apply rN|apply rW));exact HO_3.out⟩,⟨by repeat (first|(with_reducible first|exact HB.out|apply qA|apply qD|apply qO)|exact HB.out)⟩⟩
   ·rw [if_neg c2] at H;exact absurd H (by simp)

-- NOT PRINTED: function 63 (slices_Grow_int_int)

/-! ### grow0_Int: function 63, handed function None -/
def grow0_Int.f (n : Int) : Option (List Int) := if 0 ≤ n ∧ n < 1000000000 then some [] else none
set_option maxHeartbeats 4000000 in
set_option maxRecDepth 100000 in
theorem grow0_Int.calls (n : Int) (r : List Int) (w : World) (h : grow0_Int.f n = some r) :
    Calls Try.prog 63 #[.slice none 0 0, .int .i64 n] w fun e w' => ∃ v0_ : Value, e = .returned (v0_) ∧ Kd.R (Kd.int .i64) 3 w' w.heap.size (fun _ => True) v0_ r ∧ Below w.heap.size w w' := by
  unfold grow0_Int.f at h
  split at h
  case isFalse => cases h
  case isTrue hn =>
    obtain ⟨hn0, hn1⟩ := hn
    obtain rfl : [] = r := Option.some.inj h
    clear h
    have HB := Aside0.mk (Below.refl w.heap.size w)
    have hlt : ¬ n < 0 := by omega
    by_cases hp : 0 < n
    · go_enter Try.func63, Try.ntmps63
      go_wp2_with (at_builtin; refine Kd.R_append_zeros (Kd.int .i64) (w0 := w) w.heap.size rfl (.tmp 20) (.tmp 21) 23 3 3 (.int .i64 0) 8 rfl Try.underlying23 Try.underlying3 info3 rfl (by decide) (by omega) (.slice none 0 0) [] 0 n (fun _ => True) rfl rfl rfl (fun _ _ => trivial) (Kd.R_nil _ _ _ _ _) hn0 HB.out (Nat.le_refl _) (by simp; omega) ?_; intro v1 w1 hR hb1 hg1 hat; obtain ⟨A1, c1, ev1⟩ := Kd.R_slice hR; subst ev1; have HR1 := Aside0.mk hR; have HB1 := Aside0.mk hb1; obtain ⟨i0_, hi0_, _, hsz_, _⟩ := info_parts info3; have hcut := cut_to (P := Try.prog) 23 3 .i64 Try.underlying23 hi0_ A1 _ c1 (0 : Int) (by omega) (Int.natCast_nonneg _) (Kd.R_reads' hR).2.1; clear hR hb1 hg1 hat)
      go_ret
      exact ⟨_, rfl, by have h_ := Kd.R_take (m := 0) HR1.out (Nat.zero_le _); simpa using h_, HB1.out⟩
    · obtain rfl : n = 0 := by omega
      go_enter Try.func63, Try.ntmps63
      go_wp2
      go_ret
      exact ⟨_, rfl, Kd.R_nil _ _ _ _ _, HB.out⟩

/-! ### slices_Concat_int_int: function 56 -/
mutual
def slices_Concat_int_int.l0 : Nat→List (List Int)→Int→List (List Int)→Int→Int→Option (List Int)
 | 0,_,_,_,_,_=>none
 | k + 1,x0,x3,x9,x10,x11=>if x11 < x10 then (if 0≤x11 then (if x11 < (x9.length:Int) then (if (wrap64 (x3 + ((rd_L3 x9 x11).length:Int))) < 0 then (none) else (slices_Concat_int_int.l0 k x0 (wrap64 (x3 + ((rd_L3 x9 x11).length:Int))) x9 x10 (wrap64 (x11 + 1)))) else (none)) else (none)) else ((grow0_Int.f x3).bind fun t283=>(slices_Concat_int_int.l1 k t283 x0 (x0.length:Int) 0))
def slices_Concat_int_int.l1 : Nat→List Int→List (List Int)→Int→Int→Option (List Int)
 | 0,_,_,_,_=>none
 | k + 1,x6,x25,x26,x27=>if x27 < x26 then (if 0≤x27 then (if x27 < (x25.length:Int) then (if x6.length + (rd_L3 x25 x27).length < 17592186044416 then (slices_Concat_int_int.l1 k (x6 ++ (rd_L3 x25 x27)) x25 x26 (wrap64 (x27 + 1))) else (none)) else (none)) else (none)) else (some x6)
end
def slices_Concat_int_int.f (k:Nat) (l0:List (List Int)):Option (List Int):=slices_Concat_int_int.l0 k l0 0 l0 (l0.length:Int) 0
theorem slices_Concat_int_int.mono_l : ∀ k,(∀ y0 y1 y2 y3 y4,LeO (slices_Concat_int_int.l0 k y0 y1 y2 y3 y4) (slices_Concat_int_int.l0 (k + 1) y0 y1 y2 y3 y4))∧(∀ y0 y1 y2 y3,LeO (slices_Concat_int_int.l1 k y0 y1 y2 y3) (slices_Concat_int_int.l1 (k + 1) y0 y1 y2 y3))
 | 0=>⟨fun _ _ _ _ _ r h=>by simp [slices_Concat_int_int.l0] at h,fun _ _ _ _ r h=>by simp [slices_Concat_int_int.l1] at h⟩
 | k + 1=>by
  obtain ⟨ih0,ih1⟩:=slices_Concat_int_int.mono_l k;refine ⟨?_,?_⟩
  ·intro y0 y1 y2 y3 y4;unfold slices_Concat_int_int.l0
   repeat' first
   | (with_reducible exact ih0 _ _ _ _ _)
   | (with_reducible exact ih1 _ _ _ _)
   | (with_reducible exact LeO.refl _)
   | (with_reducible exact LeO.none _)
   | (with_reducible refine LeO.ite ?_ ?_)
   | (with_reducible refine LeO.bind ?_ (fun _=>?_))
   | exact ih0 _ _ _ _ _
   | exact ih1 _ _ _ _
   | exact LeO.none _
   | refine LeO.ite ?_ ?_
   | refine LeO.bind ?_ (fun _=>?_)
  ·intro y0 y1 y2 y3;unfold slices_Concat_int_int.l1
   repeat' first
   | (with_reducible exact ih0 _ _ _ _ _)
   | (with_reducible exact ih1 _ _ _ _)
   | (with_reducible exact LeO.refl _)
   | (with_reducible exact LeO.none _)
   | (with_reducible refine LeO.ite ?_ ?_)
   | (with_reducible refine LeO.bind ?_ (fun _=>?_))
   | exact ih0 _ _ _ _ _
   | exact ih1 _ _ _ _
   | exact LeO.none _
   | refine LeO.ite ?_ ?_
   | refine LeO.bind ?_ (fun _=>?_)
theorem slices_Concat_int_int.mono : ∀ a0 k,LeO (slices_Concat_int_int.f k a0) (slices_Concat_int_int.f (k + 1) a0):=by
 intro a0 k;obtain ⟨ih0,ih1⟩:=slices_Concat_int_int.mono_l k;unfold slices_Concat_int_int.f
 repeat' first
   | (with_reducible exact ih0 _ _ _ _ _)
   | (with_reducible exact ih1 _ _ _ _)
   | (with_reducible exact LeO.refl _)
   | (with_reducible exact LeO.none _)
   | (with_reducible refine LeO.ite ?_ ?_)
   | (with_reducible refine LeO.bind ?_ (fun _=>?_))
   | exact ih0 _ _ _ _ _
   | exact ih1 _ _ _ _
   | exact LeO.none _
   | refine LeO.ite ?_ ?_
   | refine LeO.bind ?_ (fun _=>?_)
set_option maxHeartbeats 8000000 in
set_option maxRecDepth 100000 in
theorem slices_Concat_int_int.calls (k:Nat) (A0:Option Addr) (c0:Nat) (l0:List (List Int)) (r:List Int) (w:World) (hr0:Kd.C (Kd.slice 3 (Kd.int .i64)) w A0 l0.length l0) (hc0:l0.length≤c0) (h:slices_Concat_int_int.f k l0=some r) :
  Calls Try.prog 56 #[.slice A0 l0.length c0] w fun e w'=>∃ v0_:Value,e=.returned (v0_)∧Kd.R (Kd.int .i64) 3 w' w.heap.size (fun _=>True) v0_ r∧Below w.heap.size w w':=by
 have HR0:=qK hr0;have HC0:=qK hc0;clear hr0 hc0;have HB:=qK (Below.refl w.heap.size w);have H:(slices_Concat_int_int.l0 k l0 0 l0 (l0.length:Int) 0)=some r:=h;clear h;have H':=qK H;clear H;go_enter Try.func56,Try.ntmps56
 go_wp2
 go_loopg [3,11] k (fun kq v3 v11 w'=>∃ (x3_1:Int) (x11_1:Int),v3=.int .i64 x3_1∧v11=.int .i64 x11_1∧Aside0 (slices_Concat_int_int.l0 kq l0 x3_1 l0 (l0.length:Int) x11_1=some r)∧Aside0 (kq≤k)∧Aside0 (Below w.heap.size w w'))
 case atStart=>exact ⟨(0),(0),(by first|rfl|(simp;done)|(simp [*];done)),(by first|rfl|(simp;done)|(simp [*];done)),H',⟨Nat.le_refl _⟩,⟨by repeat (first|(with_reducible first|exact HB.out|apply qA|apply qD|apply qO)|exact HB.out)⟩⟩
 case round =>
  clear H';obtain ⟨x3_1,x11_1,rfl,rfl,HA,HK1,HB⟩:=hrel;cases gk with
  | zero=>exact absurd HA.out (by simp [slices_Concat_int_int.l0])
  | succ k1 =>
   have H:=HA.out;clear HA;simp only [slices_Concat_int_int.l0] at H;by_cases c2:x11_1 < (l0.length:Int)
   ·rw [if_pos c2] at H;have c2b0:decide (x11_1 < (l0.length:Int))=true:=decide_eq_true c2;clear c2;by_cases c3:0≤x11_1
    ·rw [if_pos c3] at H;have c3b0:decide (0≤x11_1)=true:=decide_eq_true c3;clear c3;by_cases c4:x11_1 < (l0.length:Int)
     ·rw [if_pos c4] at H;have c4b0:decide (x11_1 < (l0.length:Int))=true:=decide_eq_true c4;clear c4;by_cases c5:(wrap64 (x3_1 + ((rd_L3 l0 x11_1).length:Int))) < 0
      ·rw [if_pos c5] at H;exact absurd H (by simp)
      ·rw [if_neg c5] at H;have c5b0:decide ((wrap64 (x3_1 + ((rd_L3 l0 x11_1).length:Int))) < 0)=false:=decide_eq_false c5;clear c5;have H':=qK H;clear H;have p282:0≤(x11_1:Int):=of_decide_eq_true (by first|(with_reducible assumption)|assumption);have q282:x11_1 < (l0.length:Int):=of_decide_eq_true (by first|(with_reducible assumption)|assumption);obtain ⟨ad282,A282_0,c282_0,e282,hx282_0,hl282_0,hi282_0⟩:=at_L3 HR0.out x11_1 p282 q282;cases e282
       replace hx282_0:=(HB.out.cell (World.block_lt_of_cell? w _ hx282_0)).trans hx282_0;have HR282_0:=qK hi282_0;have HC282_0:=qK hl282_0;clear hi282_0 hl282_0;replace p282:=eq_true p282;replace q282:=eq_true q282;go_wp2
       go_roundg k1
       case measure=>have:=HK1.out;omega
       case rel=>exact ⟨(wrap64 (x3_1 + ((rd_L3 l0 x11_1).length:Int))),(wrap64 (x11_1 + 1)),(by first|rfl|(simp;done)|(simp [*];done)),(by first|rfl|(simp;done)|(simp [*];done)),H',⟨by have:=HK1.out;omega⟩,⟨by repeat (first|(with_reducible first|exact HB.out|apply qA|apply qD|apply qO)|exact HB.out)⟩⟩
     ·rw [if_neg c4] at H;exact absurd H (by simp)
    ·rw [if_neg c3] at H;exact absurd H (by simp)
   ·rw [if_neg c2] at H;have c2b0:decide (x11_1 < (l0.length:Int))=false:=decide_eq_false c2;clear c2;replace H:=Option.bind_eq_some_iff.mp H;obtain ⟨t283,A60,H⟩:=H;replace H:(slices_Concat_int_int.l1 k1 t283 l0 (l0.length:Int) 0)=some r:=H;have A6:=qK A60;clear A60;have H':=qK H;clear H;go_wp2_with (first|((with_reducible refine gate_callee (f:=63) rfl ?_);refine goesL_ (some 24) rfl rfl Try.func63 (by kernel_rfl) rfl #[.slice none 0 0,.int .i64 x3_1] rfl (by (try simp only [mT,mC,mN]);first|done|rfl|(simp only [lD,lT];rfl)) ?_;(with_reducible refine (grow0_Int.calls  x3_1 t283 _ A6.out).mono ?_);rintro e w7 ⟨v284,rfl,ho0,hb⟩;refine ⟨_,rfl,?_⟩;have n0_:=qK (Kd.R_lower ho0 (qZ (by repeat (with_reducible first|exact HB.out|apply qA|apply qD|apply qO))));have n1_:=qK (qT (by repeat (with_reducible first|exact HB.out|apply qA|apply qD|apply qO)) hb);clear HB;have HO285:=n0_;have HB:=n1_;clear n0_ n1_;(try clear hb);(try clear ho0)))
    go_loopg [6,27] k1 (fun kq v6 v27 w'=>∃ (x6_2:List Int) (x27_2:Int),v27=.int .i64 x27_2∧Aside0 (slices_Concat_int_int.l1 kq x6_2 l0 (l0.length:Int) x27_2=some r)∧Aside0 (kq≤k1)∧Aside0 (Kd.R (Kd.int .i64) 3 w' w.heap.size (fun _=>True) v6 x6_2)∧Aside0 (Below w.heap.size w w'))
    case atStart=>exact ⟨(t283),(0),(by first|rfl|(simp;done)|(simp [*];done)),H',⟨Nat.le_refl _⟩,⟨by (with_reducible repeat (first|apply rL|apply rN|apply rW));exact HO285.out⟩,⟨by repeat (first|(with_reducible first|exact HB.out|apply qA|apply qD|apply qO)|exact HB.out)⟩⟩
    case round =>
     clear H';try clear c2
     try clear c2b0
     try clear p2
     try clear q2
     try clear hx2
     try clear c3
     try clear c3b0
     try clear c4
     try clear c4b0
     try clear c5
     try clear c5b0
     try clear c6
     try clear p6
     try clear hx282_0
     try clear p282
     try clear q282
     obtain ⟨x6_2,x27_2,rfl,HA,HK2,HO_6,HB⟩:=hrel;cases gk with
     | zero=>exact absurd HA.out (by simp [slices_Concat_int_int.l1])
     | succ k2 =>
      have H:=HA.out;clear HA;simp only [slices_Concat_int_int.l1] at H;by_cases c8:x27_2 < (l0.length:Int)
      ·rw [if_pos c8] at H;have c8b0:decide (x27_2 < (l0.length:Int))=true:=decide_eq_true c8;clear c8;by_cases c9:0≤x27_2
       ·rw [if_pos c9] at H;have c9b0:decide (0≤x27_2)=true:=decide_eq_true c9;clear c9;by_cases c10:x27_2 < (l0.length:Int)
        ·rw [if_pos c10] at H;have c10b0:decide (x27_2 < (l0.length:Int))=true:=decide_eq_true c10;clear c10;by_cases c11:x6_2.length + (rd_L3 l0 x27_2).length < 17592186044416
         ·rw [if_pos c11] at H;have LMc11:=qK c11;clear c11;obtain ⟨y287,hy287⟩:∃ y_:List Int,y_=(x6_2 ++ (rd_L3 l0 x27_2)):=⟨_,rfl⟩;replace H:(slices_Concat_int_int.l1 k2 y287 l0 (l0.length:Int) (wrap64 (x27_2 + 1)))=some r:=by first|(rw [hy287];with_reducible exact H)|(have H2_:=(Option.bind_some _ _).symm.trans H;rw [hy287];with_reducible exact H2_)|(have H2_:=(Option.bind_some _ _).symm.trans H;with_reducible exact H2_)|with_reducible exact H|(rw [hy287];exact H)|exact H
          have Ny287:=qK hy287;clear hy287;have H':=qK H;clear H;have p286:0≤(x27_2:Int):=of_decide_eq_true (by first|(with_reducible assumption)|assumption);have q286:x27_2 < (l0.length:Int):=of_decide_eq_true (by first|(with_reducible assumption)|assumption);obtain ⟨ad286,A286_0,c286_0,e286,hx286_0,hl286_0,hi286_0⟩:=at_L3 HR0.out x27_2 p286 q286;cases e286
          replace hx286_0:=(HB.out.cell (World.block_lt_of_cell? w _ hx286_0)).trans hx286_0;have HR286_0:=qK hi286_0;have HC286_0:=qK hl286_0;clear hi286_0 hl286_0;replace p286:=eq_true p286;replace q286:=eq_true q286;go_wp2_with (first|((with_reducible refine gate_builtin (b:=.append) (xs:=#[.tmp 31,.tmp 32]) rfl ?_);at_builtin;refine Kd.R_append_rows (Kd.int .i64) (w0:=w) w.heap.size rfl (.tmp 31) (.tmp 32) 23 3 (.int .i64 0) 8 rfl Try.underlying23 info3 rfl (by decide) (by omega) u6 x6_2 (rd_L3 l0 x27_2) _ _ _ (fun _=>True) (fun _=>False) rfl rfl ?aO ?aR (fun _ _ h=>h) (fun _ h=>h.elim) ?aF ?aB ?aS ?aL ?_;(case aR=>repeat (first|exact (cB HR286_0.out HB.out)|(with_reducible first|refine cL ?_ _|refine cN ?_ _|refine cW ?_)));(case aB=>exact (by repeat (with_reducible first|exact HB.out|apply qA|apply qD|apply qO)));(case aF=>exact (fun _ _=>trivial));(case aO=>exact (by (with_reducible repeat (first|apply rL|apply rN|apply rW));exact HO_6.out));(case aS=>exact (qZ (by repeat (with_reducible first|exact HB.out|apply qA|apply qD|apply qO))));(case aL=>have:=LMc11.out;omega);intro v288 w12 ho hb hg hat;rw [← Ny287.out] at ho;have n0_:=qK (hb);have n1_:=qK (ho);clear HB;clear HO_6;have HB:=n0_;have HO289:=n1_;clear n0_ n1_;clear ho hb hg hat))
          go_roundg k2
          case measure=>have:=HK1.out;have:=HK2.out;omega
          case rel=>exact ⟨(y287),(wrap64 (x27_2 + 1)),(by first|rfl|(simp;done)|(simp [*];done)),H',⟨by have:=HK1.out;have:=HK2.out;omega⟩,⟨by (with_reducible repeat (first|apply rL|apply rN|apply rW));exact HO289.out⟩,⟨by repeat (first|(with_reducible first|exact HB.out|apply qA|apply qD|apply qO)|exact HB.out)⟩⟩
         ·rw [if_neg c11] at H;exact absurd H (by simp)
        ·rw [if_neg c10] at H;exact absurd H (by simp)
       ·rw [if_neg c9] at H;exact absurd H (by simp)
      ·rw [if_neg c8] at H;have c8b0:decide (x27_2 < (l0.length:Int))=false:=decide_eq_false c8;clear c8;obtain rfl:=Option.some.inj H;go_wp2
       go_ret
       exact ⟨_,by first|rfl|(simp [errW_none,errW_some] <;> rfl)|(simp [*,errW_none,errW_some] <;> rfl),by (with_reducible repeat (first|apply rL|apply rN|apply rW));exact HO_6.out,by repeat (first|(with_reducible first|exact HB.out|apply qA|apply qD|apply qO)|exact HB.out)⟩

/-! ### impl_Locks_over: function 41 -/
def impl_Locks_over.f (k:Nat) (l0_0:List (S47)) (l0_1:List (S47)) (l0_2:List (S47)) (l0_3:List Int) (l0_4:List Int):Option (List Int):=(slices_Concat_int_int.f k (([l0_3,l0_4]:List (List Int)))).bind fun t294=>(some t294)
theorem impl_Locks_over.mono : ∀ a0 a1 a2 a3 a4 k,LeO (impl_Locks_over.f k a0 a1 a2 a3 a4) (impl_Locks_over.f (k + 1) a0 a1 a2 a3 a4):=by
 intro a0 a1 a2 a3 a4 k;unfold impl_Locks_over.f
 repeat' first
   | (with_reducible exact slices_Concat_int_int.mono _ _)
   | (with_reducible exact LeO.refl _)
   | (with_reducible exact LeO.none _)
   | (with_reducible refine LeO.ite ?_ ?_)
   | (with_reducible refine LeO.bind ?_ (fun _=>?_))
   | exact slices_Concat_int_int.mono _ _
   | exact LeO.none _
   | refine LeO.ite ?_ ?_
   | refine LeO.bind ?_ (fun _=>?_)
set_option maxHeartbeats 8000000 in
set_option maxRecDepth 100000 in
theorem impl_Locks_over.calls (k:Nat) (A0_0:Option Addr) (c0_0:Nat) (l0_0:List (S47)) (A0_1:Option Addr) (c0_1:Nat) (l0_1:List (S47)) (A0_2:Option Addr) (c0_2:Nat) (l0_2:List (S47)) (P0_3_:Nat→Prop) (A0_3:Option Addr) (c0_3:Nat) (l0_3:List Int) (P0_4_:Nat→Prop) (A0_4:Option Addr) (c0_4:Nat) (l0_4:List Int) (r:List Int) (w:World) (hr0_0:Kd.C k47 w A0_0 l0_0.length l0_0) (hc0_0:l0_0.length≤c0_0) (hr0_1:Kd.C k47 w A0_1 l0_1.length l0_1) (hc0_1:l0_1.length≤c0_1) (hr0_2:Kd.C k47 w A0_2 l0_2.length l0_2) (hc0_2:l0_2.length≤c0_2) (hs0_3:Kd.V (Kd.int .i64) 3 w w.heap.size (fun k_=>P0_3_ k_) (.slice A0_3 l0_3.length c0_3) l0_3) (hs0_4:Kd.V (Kd.int .i64) 3 w w.heap.size (fun k_=>P0_4_ k_) (.slice A0_4 l0_4.length c0_4) l0_4) (h:impl_Locks_over.f k l0_0 l0_1 l0_2 l0_3 l0_4=some r) :
  Calls Try.prog 41 #[.agg #[.slice A0_0 l0_0.length c0_0,.slice A0_1 l0_1.length c0_1,.slice A0_2 l0_2.length c0_2,.slice A0_3 l0_3.length c0_3,.slice A0_4 l0_4.length c0_4]] w fun e w'=>∃ v0_:Value,e=.returned (v0_)∧Kd.R (Kd.int .i64) 3 w' w.heap.size (fun k_=>(w.heap.size≤k_)) v0_ r∧Below w.heap.size w w':=by
 have hu31:=Try.underlying31;have HR0_0:=qK hr0_0;have HC0_0:=qK hc0_0;clear hr0_0 hc0_0;have HR0_1:=qK hr0_1;have HC0_1:=qK hc0_1;clear hr0_1 hc0_1;have HR0_2:=qK hr0_2;have HC0_2:=qK hc0_2;clear hr0_2 hc0_2;have HO0_3:=qK (show Kd.V (Kd.int .i64) 3 w w.heap.size (fun k_=>((P0_3_ k_ ∨ P0_4_ k_) ∨ w.heap.size≤k_)) (.slice A0_3 l0_3.length c0_3) l0_3 from Kd.V_mono hs0_3 (fun k_ hk=>.inl (.inl hk)));have HO0_4:=qK (show Kd.V (Kd.int .i64) 3 w w.heap.size (fun k_=>((P0_3_ k_ ∨ P0_4_ k_) ∨ w.heap.size≤k_)) (.slice A0_4 l0_4.length c0_4) l0_4 from Kd.V_mono hs0_4 (fun k_ hk=>.inl (.inr hk)));have HB:=qK (Below.refl w.heap.size w);have H:((slices_Concat_int_int.f k (([l0_3,l0_4]:List (List Int)))).bind fun t294=>(some t294))=some r:=h;clear h;obtain ⟨y291,hy291⟩:∃ y_:List (List Int),y_=(([l0_3,l0_4]:List (List Int))):=⟨_,rfl⟩;replace H:((slices_Concat_int_int.f k y291).bind fun t294=>(some t294))=some r:=by first|(rw [hy291];with_reducible exact H)|(have H2_:=(Option.bind_some _ _).symm.trans H;rw [hy291];with_reducible exact H2_)|(have H2_:=(Option.bind_some _ _).symm.trans H;with_reducible exact H2_)|with_reducible exact H|(rw [hy291];exact H)|exact H
 have Ny291:=qK hy291;clear hy291;replace H:=Option.bind_eq_some_iff.mp H;obtain ⟨t294,A20,H⟩:=H;replace H:(some t294)=some r:=H;have A2:=qK A20;clear A20;obtain rfl:=Option.some.inj H;go_enter Try.func41,Try.ntmps41
 go_wp2_with (first|((with_reducible refine gate_dst (N:=1) rfl ?_);refine box_event ?hg (N:=1) ?hd (cs:=#[.slice A0_0 l0_0.length c0_0,.slice A0_1 l0_1.length c0_1,.slice A0_2 l0_2.length c0_2,.slice A0_3 l0_3.length c0_3,.slice A0_4 l0_4.length c0_4]) (t:=31) ?hr ?_;(case hd=>rfl);(case hg=>rfl);(case hr=>(go_simp;try rfl));intro gb290 hg w3 hbox hb;have n0_:=qK (Kd.V_below (Kd.V_elderB (by (with_reducible repeat (first|apply Kd.V_alloc|apply Kd.V_drewN|apply Kd.V_drew));exact HO0_3.out) gb290 (Nat.le_of_eq hg.symm)) hb);have n1_:=qK (Kd.V_below (Kd.V_elderB (by (with_reducible repeat (first|apply Kd.V_alloc|apply Kd.V_drewN|apply Kd.V_drew));exact HO0_4.out) gb290 (Nat.le_of_eq hg.symm)) hb);have n2_:=qK (qT (by repeat (with_reducible first|exact HB.out|apply qA|apply qD|apply qO)) hb);have n3_:=qK (hbox);have n4_:=qK ((by rw [hg];exact (qZ (by repeat (with_reducible first|exact HB.out|apply qA|apply qD|apply qO))):w.heap.size≤gb290));have n5_:=qK ((by rw [hg];exact (qZ (by repeat (with_reducible first|exact HB.out|apply qA|apply qD|apply qO))):w.heap.size≤gb290));clear HO0_3;clear HO0_4;clear HB;have HO0_3:=n0_;have HO0_4:=n1_;have HB:=n2_;have BK290:=n3_;have GW290:=n4_;have GE290:=n5_;clear n0_ n1_ n2_ n3_ n4_ n5_;clear hb hbox hg;have hcz4_0:w3.cell? ⟨gb290,0,none⟩=some (.slice A0_0 l0_0.length c0_0):=(qC BK290.out 0).trans rfl;have hcz4_1:w3.cell? ⟨gb290,1,none⟩=some (.slice A0_1 l0_1.length c0_1):=(qC BK290.out 1).trans rfl;have hcz4_2:w3.cell? ⟨gb290,2,none⟩=some (.slice A0_2 l0_2.length c0_2):=(qC BK290.out 2).trans rfl;have hcz4_3:w3.cell? ⟨gb290,3,none⟩=some (.slice A0_3 l0_3.length c0_3):=(qC BK290.out 3).trans rfl;have hcz4_4:w3.cell? ⟨gb290,4,none⟩=some (.slice A0_4 l0_4.length c0_4):=(qC BK290.out 4).trans rfl;have hfz4_0:=qF BK290.out 0;have hfz4_1:=qF BK290.out 1;have hfz4_2:=qF BK290.out 2;have hfz4_3:=qF BK290.out 3;have hfz4_4:=qF BK290.out 4)|((with_reducible refine gate_dst (N:=7) rfl ?_);refine Kd.N_lit (Kd.slice 3 (Kd.int .i64)) _ 23 ?hg (N':=7) ?hd (xs:=([l0_3,l0_4]:List (List Int))) (inner:=[.slice A0_3 l0_3.length c0_3,.slice A0_4 l0_4.length c0_4]) (ok:=(fun k_=>((P0_3_ k_ ∨ P0_4_ k_) ∨ w.heap.size≤k_)∧k_ ≠ gb290)) (okp:=(fun k_=>((P0_3_ k_ ∨ P0_4_ k_) ∨ w.heap.size≤k_)∧k_ ≠ gb290)) ?hr ?hp (fun _ hk=>hk) ((show ∀ k_,w3.heap.size≤k_→(fun k_=>((P0_3_ k_ ∨ P0_4_ k_) ∨ w.heap.size≤k_)∧k_ ≠ gb290) k_ from fun k_ hk=>⟨(.inr (Nat.le_trans (qZ (by repeat (with_reducible first|exact HB.out|apply qA|apply qD|apply qO|refine qS ?_ GE290.out))) hk)),Kd.freshB (g:=gb290) (o:=_) (by (with_reducible repeat (first|refine qN ?_ _|refine qW ?_|refine qL ?_ _));exact BK290.out) k_ hk⟩) _ (Nat.le_refl _)) (Below.refl _ _) (Nat.le_refl _) (by simp) ?_;(case hd=>rfl);(case hg=>rfl);(case hr=>(go_simp;try rfl));(case hp=>exact (Reps.one (show Kd.FK (Kd.slice 3 (Kd.int .i64)) _ _ l0_3 [.slice A0_3 l0_3.length c0_3] from (FK_of_V (Kd.V_mono (ok':=(fun k_=>((P0_3_ k_ ∨ P0_4_ k_) ∨ w.heap.size≤k_)∧k_ ≠ gb290)) (HO0_3.out) (fun k_ hk=>⟨hk.1,hk.2⟩)))) (Reps.one (show Kd.FK (Kd.slice 3 (Kd.int .i64)) _ _ l0_4 [.slice A0_4 l0_4.length c0_4] from (FK_of_V (Kd.V_mono (ok':=(fun k_=>((P0_3_ k_ ∨ P0_4_ k_) ∨ w.heap.size≤k_)∧k_ ≠ gb290)) (HO0_4.out) (fun k_ hk=>⟨hk.1,hk.2⟩)))) (Reps.none _ _))));intro v292 w5 ho6 hb hg_ hnew_;clear hg_ hnew_;(first|rw [← Ny291.out] at ho6|(simp only [Int.reduceToNat] at ho6;rw [← Ny291.out] at ho6));have n0_:=qK (Kd.V_elder' (by (with_reducible repeat (first|apply Kd.V_alloc|apply Kd.V_drewN|apply Kd.V_drew));exact HO0_3.out) (Kd.N_base ho6) hb);have n1_:=qK (Kd.V_elder' (by (with_reducible repeat (first|apply Kd.V_alloc|apply Kd.V_drewN|apply Kd.V_drew));exact HO0_4.out) (Kd.N_base ho6) hb);have n2_:=qK (Kd.N_lower ho6 (qZ (by repeat (with_reducible first|exact HB.out|apply qA|apply qD|apply qO|refine qS ?_ GE290.out))));have n3_:=qK (qB (g:=gb290) (o:=_) (by (with_reducible repeat (first|refine qN ?_ _|refine qW ?_|refine qL ?_ _));exact BK290.out) hb);have n4_:=qK (qT (by repeat (with_reducible first|exact HB.out|apply qA|apply qD|apply qO|refine qS ?_ GE290.out)) hb);clear HO0_3;clear HO0_4;clear BK290;clear HB;have HO0_3:=n0_;have HO0_4:=n1_;have HO293:=n2_;have BK290:=n3_;have HB:=n4_;clear n0_ n1_ n2_ n3_ n4_;clear hb ho6;obtain ⟨Ao7,co7,eo7⟩:=Kd.N_slice HO293.out;subst eo7)|((with_reducible refine gate_callee (f:=56) rfl ?_);refine goesL_ (some 8) rfl rfl Try.func56 (by kernel_rfl) rfl #[.slice Ao7 y291.length co7] rfl (by (try simp only [mT,mC,mN]);first|done|rfl|(simp only [lD,lT];rfl)) ?_;(with_reducible refine (slices_Concat_int_int.calls k _ _ y291 t294 _ ?side1 ?side2 A2.out).mono ?_);(case side1=>repeat (first|exact (Kd.N_reads' HO293.out).2.2|(with_reducible first|refine cL ?_ _|refine cN ?_ _|refine cW ?_)));(case side2=>exact (Kd.N_reads' HO293.out).2.1);rintro e w8 ⟨v295,rfl,ho0,hb⟩;refine ⟨_,rfl,?_⟩;have n0_:=qK (Kd.V_elder' (by (with_reducible repeat (first|apply Kd.V_alloc|apply Kd.V_drewN|apply Kd.V_drew));exact HO0_3.out) (Kd.R_base ho0) hb);have n1_:=qK (Kd.V_elder' (by (with_reducible repeat (first|apply Kd.V_alloc|apply Kd.V_drewN|apply Kd.V_drew));exact HO0_4.out) (Kd.R_base ho0) hb);have n2_:=qK (Kd.N_elder' (by (with_reducible repeat (first|apply Kd.N_alloc|apply Kd.N_drewN|apply Kd.N_drew));exact HO293.out) (Kd.R_base ho0) hb);have n3_:=qK (Kd.R_lower (Kd.R_newM (M:=fun k_=>(w.heap.size≤k_)) ho0 (qZ (by repeat (with_reducible first|exact HB.out|apply qA|apply qD|apply qO|refine qS ?_ GE290.out))) (fun k_ h_=>h_)) (qZ (by repeat (with_reducible first|exact HB.out|apply qA|apply qD|apply qO|refine qS ?_ GE290.out))));have n4_:=qK (qB (g:=gb290) (o:=_) (by (with_reducible repeat (first|refine qN ?_ _|refine qW ?_|refine qL ?_ _));exact BK290.out) hb);have n5_:=qK (qT (by repeat (with_reducible first|exact HB.out|apply qA|apply qD|apply qO|refine qS ?_ GE290.out)) hb);clear HO0_3;clear HO0_4;clear HO293;clear BK290;clear HB;have HO0_3:=n0_;have HO0_4:=n1_;have HO293:=n2_;have HO296:=n3_;have BK290:=n4_;have HB:=n5_;clear n0_ n1_ n2_ n3_ n4_ n5_;(try clear hb);(try clear ho0)))
 go_ret
 exact ⟨_,by first|rfl|(simp [errW_none,errW_some] <;> rfl)|(simp [*,errW_none,errW_some] <;> rfl),by (with_reducible repeat (first|apply rL|apply rN|apply rW));exact Kd.R_mono HO296.out (fun _ hk=>hk.1),by repeat (first|(with_reducible first|exact HB.out|apply qA|apply qD|apply qO|refine qS ?_ GE290.out)|exact HB.out)⟩

end Go.Proofs.Ytfnaclgiggkbmaa.PFnExactWaitsFor
