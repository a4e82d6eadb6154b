/-
  A text of this claim's own, printed by a program of the session (wip/tools/xprint.py): functions of the program as Lean functions, each with what its call comes to.
-/
import Derived.Test.YtboligpcbndkjaaPFnExactIsTreex0
import Derived.Test.YtboligpcbndkjaaPFnExactIsTreex1
import Derived.Test.YtboligpcbndkjaaPFnExactIsTreex2
namespace Go.Proofs.Ytboligpcbndkjaa.PFnExactIsTree
open Go.Proofs.YtboligpcbndkjaaW.PrintWords renaming pw_below_drewN → qD, blk_cell → qC, below_drew1 → qO, below_alloc → qA, blk_frozen → qF, below_set → qS, blk_drewN → qN, blk_alloc → qL, blk_drew → qW, below_size → qZ, below_step → qT, blk_below → qB, blk_far → qR, blk_put → qP
open Go.Proofs.YtboligpcbndkjaaW.PrintWords.Aside0 renaming mk → qK
open Bool renaming true → Y, false → Z
open List renaming setIfInBounds_toArray → sIb, set_cons_zero → sZ, set_cons_succ → sS, map_toArray → mT, map_cons → mC, map_nil → mN, length_drop → lD, length_take → lT
open Go.Proofs.YtboligpcbndkjaaW.PrintWords.Kd renaming C_alloc → cL, C_drewN → cN, C_drew → cW, C_below → cB, R_alloc → rL, R_drewN → rN, R_drew → rW, R_below → rB
open Go.RowKit Go.Proofs.YtboligpcbndkjaaW.PrintWords Go.Proofs.YtboligpcbndkjaaW.PrintLast Go.Proofs.YtboligpcbndkjaaW.PrintMore
attribute [local go_sem] max2_int min2_int max_two min_two max_three min_three max_four min_four   -- for this text's walks alone
set_option linter.unusedVariables false
set_option linter.unusedSimpArgs false

/-! ### spec_l11Edge: function 76 -/
def spec_l11Edge.l0 : Nat→List Int→List Int→Int→Int→Option (List Int)
 | 0,_,_,_,_=>none
 | k + 1,x3,x7,x8,x9=>if x9 < x8 then (if 0≤x9 then (if x9 < (x7.length:Int) then ((spec_l7Put.f k x3 (rd x7 x9)).bind fun t216=>(spec_l11Edge.l0 k t216 x7 x8 (wrap64 (x9 + 1)))) else (none)) else (none)) else (some x3)
def spec_l11Edge.f (k:Nat) (a0_0:Int) (l0_1:List Int):Option (List Int):=spec_l11Edge.l0 k ([]:List Int) l0_1 (l0_1.length:Int) 0
theorem spec_l11Edge.mono_l : ∀ k,(∀ y0 y1 y2 y3,LeO (spec_l11Edge.l0 k y0 y1 y2 y3) (spec_l11Edge.l0 (k + 1) y0 y1 y2 y3))
 | 0=>fun _ _ _ _ r h=>by simp [spec_l11Edge.l0] at h
 | k + 1=>by
  have ih0:=spec_l11Edge.mono_l k
  ·intro y0 y1 y2 y3;unfold spec_l11Edge.l0
   repeat' first
   | (with_reducible exact ih0 _ _ _ _)
   | (with_reducible exact spec_l7Put.mono _ _ _)
   | (with_reducible exact LeO.refl _)
   | (with_reducible exact LeO.none _)
   | (with_reducible refine LeO.ite ?_ ?_)
   | (with_reducible refine LeO.bind ?_ (fun _=>?_))
   | exact ih0 _ _ _ _
   | exact spec_l7Put.mono _ _ _
   | exact LeO.none _
   | refine LeO.ite ?_ ?_
   | refine LeO.bind ?_ (fun _=>?_)
theorem spec_l11Edge.mono : ∀ a0 a1 k,LeO (spec_l11Edge.f k a0 a1) (spec_l11Edge.f (k + 1) a0 a1):=by
 intro a0 a1 k;have ih0:=spec_l11Edge.mono_l k;unfold spec_l11Edge.f
 repeat' first
   | (with_reducible exact ih0 _ _ _ _)
   | (with_reducible exact spec_l7Put.mono _ _ _)
   | (with_reducible exact LeO.refl _)
   | (with_reducible exact LeO.none _)
   | (with_reducible refine LeO.ite ?_ ?_)
   | (with_reducible refine LeO.bind ?_ (fun _=>?_))
   | exact ih0 _ _ _ _
   | exact spec_l7Put.mono _ _ _
   | exact LeO.none _
   | refine LeO.ite ?_ ?_
   | refine LeO.bind ?_ (fun _=>?_)
set_option maxHeartbeats 8000000 in
set_option maxRecDepth 100000 in
theorem spec_l11Edge.calls (k:Nat) (a0_0:Int) (A0_1:Option Addr) (c0_1:Nat) (l0_1:List Int) (r:List Int) (w:World) (hr0_1:Kd.C (Kd.int .i64) w A0_1 l0_1.length l0_1) (hc0_1:l0_1.length≤c0_1) (h:spec_l11Edge.f k a0_0 l0_1=some r) :
  Calls Try.prog 76 #[.agg #[.int .i64 a0_0,.slice A0_1 l0_1.length c0_1]] w fun e w'=>∃ v0_:Value,e=.returned (v0_)∧Kd.V (Kd.int .i64) 3 w' w.heap.size (fun k_=>(w.heap.size≤k_)) v0_ r∧Below w.heap.size w w':=by
 have hu97:=Try.underlying97;have HR0_1:=qK hr0_1;have HC0_1:=qK hc0_1;clear hr0_1 hc0_1;have HB:=qK (Below.refl w.heap.size w);have H:(spec_l11Edge.l0 k ([]:List Int) l0_1 (l0_1.length:Int) 0)=some r:=h;clear h;have H':=qK H;clear H;go_enter Try.func76,Try.ntmps76
 go_wp2_with (first|((with_reducible refine gate_dst (N:=1) rfl ?_);refine box_event ?hg (N:=1) ?hd (cs:=#[.int .i64 a0_0,.slice A0_1 l0_1.length c0_1]) (t:=97) ?hr ?_;(case hd=>rfl);(case hg=>rfl);(case hr=>(go_simp;try rfl));intro gb214 hg w2 hbox hb;have n0_:=qK (qT (by repeat (with_reducible first|exact HB.out|apply qA|apply qD|apply qO)) hb);have n1_:=qK (hbox);have n2_:=qK ((by rw [hg];exact (qZ (by repeat (with_reducible first|exact HB.out|apply qA|apply qD|apply qO))):w.heap.size≤gb214));have n3_:=qK ((by rw [hg];exact (qZ (by repeat (with_reducible first|exact HB.out|apply qA|apply qD|apply qO))):w.heap.size≤gb214));clear HB;have HB:=n0_;have BK214:=n1_;have GW214:=n2_;have GE214:=n3_;clear n0_ n1_ n2_ n3_;clear hb hbox hg;have hcz3_0:w2.cell? ⟨gb214,0,none⟩=some (.int .i64 a0_0):=(qC BK214.out 0).trans rfl;have hcz3_1:w2.cell? ⟨gb214,1,none⟩=some (.slice A0_1 l0_1.length c0_1):=(qC BK214.out 1).trans rfl;have hfz3_0:=qF BK214.out 0;have hfz3_1:=qF BK214.out 1))
 go_loopg [3,9] k (fun kq v3 v9 w'=>∃ (x3_1:List Int) (x9_1:Int),v9=.int .i64 x9_1∧Aside0 (spec_l11Edge.l0 kq x3_1 l0_1 (l0_1.length:Int) x9_1=some r)∧Aside0 (kq≤k)∧Aside0 (Kd.V (Kd.int .i64) 3 w' w.heap.size (fun k_=>(w.heap.size≤k_)∧k_ ≠ gb214) v3 x3_1)∧Aside0 (w'.heap[gb214]?=some (.cells #[.int .i64 a0_0,(.slice A0_1 l0_1.length c0_1)] 97 (0,0)))∧Aside0 (Below w.heap.size w w'))
 case atStart=>exact ⟨(([]:List Int)),(0),(by first|rfl|(simp;done)|(simp [*];done)),H',⟨Nat.le_refl _⟩,⟨Kd.R_V (base:=0) (by first|exact Kd.R_nil _ _ _ _ _|exact Kd.N_nil _ _ _ _ _|exact Kd.V_nil _ _ _ _ _|exact Kd.Q_nil _ _ _ _ _|exact Kd.S_nil _ _ _ _ _)⟩,⟨by (with_reducible repeat (first|refine qN ?_ _|refine qW ?_|refine qL ?_ _));exact BK214.out⟩,⟨by repeat (first|(with_reducible first|exact HB.out|apply qA|apply qD|apply qO|refine qS ?_ GE214.out)|exact HB.out)⟩⟩
 case round =>
  clear H';try clear p2
  try clear hcz3_0
  try clear hcz3_1
  try clear hfz3_0
  try clear hfz3_1
  obtain ⟨x3_1,x9_1,rfl,HA,HK1,HO_3,BK214,HB⟩:=hrel;cases gk with
  | zero=>exact absurd HA.out (by simp [spec_l11Edge.l0])
  | succ k1 =>
   have H:=HA.out;clear HA;simp only [spec_l11Edge.l0] at H;by_cases c4:x9_1 < (l0_1.length:Int)
   ·rw [if_pos c4] at H;have c4b0:decide (x9_1 < (l0_1.length:Int))=true:=decide_eq_true c4;clear c4;by_cases c5:0≤x9_1
    ·rw [if_pos c5] at H;have c5b0:decide (0≤x9_1)=true:=decide_eq_true c5;clear c5;by_cases c6:x9_1 < (l0_1.length:Int)
     ·rw [if_pos c6] at H;have c6b0:decide (x9_1 < (l0_1.length:Int))=true:=decide_eq_true c6;clear c6;replace H:=Option.bind_eq_some_iff.mp H;obtain ⟨t216,A70,H⟩:=H;replace H:(spec_l11Edge.l0 k1 t216 l0_1 (l0_1.length:Int) (wrap64 (x9_1 + 1)))=some r:=H;have A7:=qK A70;clear A70;have H':=qK H;clear H;have p215:0≤(x9_1:Int):=of_decide_eq_true (by first|(with_reducible assumption)|assumption);have q215:x9_1 < (l0_1.length:Int):=of_decide_eq_true (by first|(with_reducible assumption)|assumption);obtain ⟨ad215,e215,hx215_0⟩:=Kd.at_int HR0_1.out x9_1 p215 q215;cases e215
      replace hx215_0:=(HB.out.cell (World.block_lt_of_cell? w _ hx215_0)).trans hx215_0;replace p215:=eq_true p215;replace q215:=eq_true q215;obtain ⟨Ao8,co8,eo8⟩:=Kd.V_slice HO_3.out;subst eo8;go_wp2_with (first|((with_reducible refine gate_callee (f:=141) rfl ?_);refine goesL_ (some 15) rfl rfl Try.func141 (by kernel_rfl) rfl #[.slice Ao8 x3_1.length co8,.int .i64 (rd l0_1 x9_1)] rfl (by (try simp only [mT,mC,mN]);first|done|rfl|(simp only [lD,lT];rfl)) ?_;(with_reducible refine (spec_l7Put.calls k1 (fun k_=>((w.heap.size≤k_)∧k_ ≠ gb214)) _ _ x3_1 (rd l0_1 x9_1) t216 _ ?side1 A7.out).mono ?_);(case side1=>exact HO_3.out);rintro e w9 ⟨v217,rfl,ho0,hb⟩;refine ⟨_,rfl,?_⟩;have n0_:=qK (Kd.V_below (by (with_reducible repeat (first|apply Kd.V_alloc|apply Kd.V_drewN|apply Kd.V_drew));exact HO_3.out) hb);have n1_:=qK (Kd.V_lower (Kd.V_mono (ok':=fun k_=>(w.heap.size≤k_)∧k_ ≠ gb214) ho0 (fun k_ hk_=>⟨Or.elim hk_ (fun hs_=>hs_.1) (fun hn_=>(Nat.le_trans (qZ (by repeat (with_reducible first|exact HB.out|apply qA|apply qD|apply qO|refine qS ?_ GE214.out))) hn_)),Or.elim hk_ (fun hs_=>hs_.2) (fun hn_=>(Kd.freshB (g:=gb214) (o:=_) (by (with_reducible repeat (first|refine qN ?_ _|refine qW ?_|refine qL ?_ _));exact BK214.out) k_ hn_))⟩)) (qZ (by repeat (with_reducible first|exact HB.out|apply qA|apply qD|apply qO|refine qS ?_ GE214.out))));have n2_:=qK (qB (g:=gb214) (o:=_) (by (with_reducible repeat (first|refine qN ?_ _|refine qW ?_|refine qL ?_ _));exact BK214.out) hb);have n3_:=qK (qT (by repeat (with_reducible first|exact HB.out|apply qA|apply qD|apply qO|refine qS ?_ GE214.out)) hb);clear HO_3;clear BK214;clear HB;have HO_3:=n0_;have HO218:=n1_;have BK214:=n2_;have HB:=n3_;clear n0_ n1_ n2_ n3_;(try clear hb);(try clear ho0)))
      go_roundg k1
      case measure=>have:=HK1.out;omega
      case rel=>exact ⟨(t216),(wrap64 (x9_1 + 1)),(by first|rfl|(simp;done)|(simp [*];done)),H',⟨by have:=HK1.out;omega⟩,⟨by (with_reducible repeat (first|apply Kd.V_alloc|apply Kd.V_drewN|apply Kd.V_drew));exact HO218.out⟩,⟨by (with_reducible repeat (first|refine qN ?_ _|refine qW ?_|refine qL ?_ _));exact BK214.out⟩,⟨by repeat (first|(with_reducible first|exact HB.out|apply qA|apply qD|apply qO|refine qS ?_ GE214.out)|exact HB.out)⟩⟩
     ·rw [if_neg c6] at H;exact absurd H (by simp)
    ·rw [if_neg c5] at H;exact absurd H (by simp)
   ·rw [if_neg c4] at H;have c4b0:decide (x9_1 < (l0_1.length:Int))=false:=decide_eq_false c4;clear c4;obtain rfl:=Option.some.inj H;go_wp2
    go_ret
    exact ⟨_,by first|rfl|(simp [errW_none,errW_some] <;> rfl)|(simp [*,errW_none,errW_some] <;> rfl),by (with_reducible repeat (first|apply Kd.V_alloc|apply Kd.V_drewN|apply Kd.V_drew));exact Kd.V_mono HO_3.out (fun _ hk=>hk.1),by repeat (first|(with_reducible first|exact HB.out|apply qA|apply qD|apply qO|refine qS ?_ GE214.out)|exact HB.out)⟩

/-! ### spec_l11Shared: function 84 -/
mutual
def spec_l11Shared.l0 : Nat→List Int→List Int→List Int→Int→Int→List Int→List (S97)→Option (List Int)
 | 0,_,_,_,_,_,_,_=>none
 | k + 1,x2,x7,x17,x18,x19,x220000,x220001=>if x19 < x18 then (if 0≤x19 then (if x19 < (x17.length:Int) then (spec_l11Shared.l1 k x2 x7 (rd x17 x19) x17 x18 x19 x2 (x2.length:Int) 0 x220000 x220001) else (none)) else (none)) else (some x7)
def spec_l11Shared.l1 : Nat→List Int→List Int→Int→List Int→Int→Int→List Int→Int→Int→List Int→List (S97)→Option (List Int)
 | 0,_,_,_,_,_,_,_,_,_,_,_=>none
 | k + 1,x2,x7,x9,x17,x18,x19,x23,x24,x25,x220000,x220001=>if x25 < x24 then (if 0≤x25 then (if x25 < (x23.length:Int) then (if 0≤(rd x23 x25) then (if (rd x23 x25) < (x220001.length:Int) then ((spec_l1Has.f k ((rd_T97 x220001 (rd x23 x25)).f1) x9).bind fun t227=>(if t227=true then ((spec_l7Put.f k x7 x9).bind fun t228=>(spec_l11Shared.l1 k x2 t228 x9 x17 x18 x19 x23 x24 (wrap64 (x25 + 1)) x220000 x220001)) else (spec_l11Shared.l1 k x2 x7 x9 x17 x18 x19 x23 x24 (wrap64 (x25 + 1)) x220000 x220001))) else (none)) else (none)) else (none)) else (none)) else (spec_l11Shared.l0 k x2 x7 x17 x18 (wrap64 (x19 + 1)) x220000 x220001)
end
def spec_l11Shared.f (k:Nat) (l0_0:List Int) (l0_1:List (S97)) (a1:Int) (l2:List Int):Option (List Int):=if 0≤a1 then (if a1 < (l0_1.length:Int) then ((spec_l11Edge.f k ((rd_T97 l0_1 a1).f0) ((rd_T97 l0_1 a1).f1)).bind fun t221=>(spec_l11Shared.l0 k l2 ([]:List Int) t221 (t221.length:Int) 0 l0_0 l0_1)) else (none)) else (none)
theorem spec_l11Shared.mono_l : ∀ k,(∀ y0 y1 y2 y3 y4 y5 y6,LeO (spec_l11Shared.l0 k y0 y1 y2 y3 y4 y5 y6) (spec_l11Shared.l0 (k + 1) y0 y1 y2 y3 y4 y5 y6))∧(∀ y0 y1 y2 y3 y4 y5 y6 y7 y8 y9 y10,LeO (spec_l11Shared.l1 k y0 y1 y2 y3 y4 y5 y6 y7 y8 y9 y10) (spec_l11Shared.l1 (k + 1) y0 y1 y2 y3 y4 y5 y6 y7 y8 y9 y10))
 | 0=>⟨fun _ _ _ _ _ _ _ r h=>by simp [spec_l11Shared.l0] at h,fun _ _ _ _ _ _ _ _ _ _ _ r h=>by simp [spec_l11Shared.l1] at h⟩
 | k + 1=>by
  obtain ⟨ih0,ih1⟩:=spec_l11Shared.mono_l k;refine ⟨?_,?_⟩
  ·intro y0 y1 y2 y3 y4 y5 y6;unfold spec_l11Shared.l0
   repeat' first
   | (with_reducible exact ih0 _ _ _ _ _ _ _)
   | (with_reducible exact ih1 _ _ _ _ _ _ _ _ _ _ _)
   | (with_reducible exact spec_l11Edge.mono _ _ _)
   | (with_reducible exact spec_l1Has.mono _ _ _)
   | (with_reducible exact spec_l7Put.mono _ _ _)
   | (with_reducible exact LeO.refl _)
   | (with_reducible exact LeO.none _)
   | (with_reducible refine LeO.ite ?_ ?_)
   | (with_reducible refine LeO.bind ?_ (fun _=>?_))
   | exact ih0 _ _ _ _ _ _ _
   | exact ih1 _ _ _ _ _ _ _ _ _ _ _
   | exact spec_l11Edge.mono _ _ _
   | exact spec_l1Has.mono _ _ _
   | exact spec_l7Put.mono _ _ _
   | exact LeO.none _
   | refine LeO.ite ?_ ?_
   | refine LeO.bind ?_ (fun _=>?_)
  ·intro y0 y1 y2 y3 y4 y5 y6 y7 y8 y9 y10;unfold spec_l11Shared.l1
   repeat' first
   | (with_reducible exact ih0 _ _ _ _ _ _ _)
   | (with_reducible exact ih1 _ _ _ _ _ _ _ _ _ _ _)
   | (with_reducible exact spec_l11Edge.mono _ _ _)
   | (with_reducible exact spec_l1Has.mono _ _ _)
   | (with_reducible exact spec_l7Put.mono _ _ _)
   | (with_reducible exact LeO.refl _)
   | (with_reducible exact LeO.none _)
   | (with_reducible refine LeO.ite ?_ ?_)
   | (with_reducible refine LeO.bind ?_ (fun _=>?_))
   | exact ih0 _ _ _ _ _ _ _
   | exact ih1 _ _ _ _ _ _ _ _ _ _ _
   | exact spec_l11Edge.mono _ _ _
   | exact spec_l1Has.mono _ _ _
   | exact spec_l7Put.mono _ _ _
   | exact LeO.none _
   | refine LeO.ite ?_ ?_
   | refine LeO.bind ?_ (fun _=>?_)
theorem spec_l11Shared.mono : ∀ a0 a1 a2 a3 k,LeO (spec_l11Shared.f k a0 a1 a2 a3) (spec_l11Shared.f (k + 1) a0 a1 a2 a3):=by
 intro a0 a1 a2 a3 k;obtain ⟨ih0,ih1⟩:=spec_l11Shared.mono_l k;unfold spec_l11Shared.f
 repeat' first
   | (with_reducible exact ih0 _ _ _ _ _ _ _)
   | (with_reducible exact ih1 _ _ _ _ _ _ _ _ _ _ _)
   | (with_reducible exact spec_l11Edge.mono _ _ _)
   | (with_reducible exact spec_l1Has.mono _ _ _)
   | (with_reducible exact spec_l7Put.mono _ _ _)
   | (with_reducible exact LeO.refl _)
   | (with_reducible exact LeO.none _)
   | (with_reducible refine LeO.ite ?_ ?_)
   | (with_reducible refine LeO.bind ?_ (fun _=>?_))
   | exact ih0 _ _ _ _ _ _ _
   | exact ih1 _ _ _ _ _ _ _ _ _ _ _
   | exact spec_l11Edge.mono _ _ _
   | exact spec_l1Has.mono _ _ _
   | exact spec_l7Put.mono _ _ _
   | exact LeO.none _
   | refine LeO.ite ?_ ?_
   | refine LeO.bind ?_ (fun _=>?_)
set_option maxHeartbeats 8000000 in
set_option maxRecDepth 100000 in
theorem spec_l11Shared.calls (k:Nat) (A0_0:Option Addr) (c0_0:Nat) (l0_0:List Int) (A0_1:Option Addr) (c0_1:Nat) (l0_1:List (S97)) (a1:Int) (A2:Option Addr) (c2:Nat) (l2:List Int) (r:List Int) (w:World) (hr0_0:Kd.C (Kd.int .i64) w A0_0 l0_0.length l0_0) (hc0_0:l0_0.length≤c0_0) (hr0_1:Kd.C k97 w A0_1 l0_1.length l0_1) (hc0_1:l0_1.length≤c0_1) (hr2:Kd.C (Kd.int .i64) w A2 l2.length l2) (hc2:l2.length≤c2) (h:spec_l11Shared.f k l0_0 l0_1 a1 l2=some r) :
  Calls Try.prog 84 #[.agg #[.slice A0_0 l0_0.length c0_0,.slice A0_1 l0_1.length c0_1],.int .i64 a1,.slice A2 l2.length c2] w fun e w'=>∃ v0_:Value,e=.returned (v0_)∧Kd.V (Kd.int .i64) 3 w' w.heap.size (fun k_=>(w.heap.size≤k_)) v0_ r∧Below w.heap.size w w':=by
 have hu32:=Try.underlying32;have hu97:=Try.underlying97;have HR0_0:=qK hr0_0;have HC0_0:=qK hc0_0;clear hr0_0 hc0_0;have HR0_1:=qK hr0_1;have HC0_1:=qK hc0_1;clear hr0_1 hc0_1;have HR2:=qK hr2;have HC2:=qK hc2;clear hr2 hc2;have HB:=qK (Below.refl w.heap.size w);have H:(if 0≤a1 then (if a1 < (l0_1.length:Int) then ((spec_l11Edge.f k ((rd_T97 l0_1 a1).f0) ((rd_T97 l0_1 a1).f1)).bind fun t221=>(spec_l11Shared.l0 k l2 ([]:List Int) t221 (t221.length:Int) 0 l0_0 l0_1)) else (none)) else (none))=some r:=h;clear h;by_cases c4:0≤a1
 ·rw [if_pos c4] at H;have c4b0:decide (0≤a1)=true:=decide_eq_true c4;clear c4;by_cases c5:a1 < (l0_1.length:Int)
  ·rw [if_pos c5] at H;have c5b0:decide (a1 < (l0_1.length:Int))=true:=decide_eq_true c5;clear c5;replace H:=Option.bind_eq_some_iff.mp H;obtain ⟨t221,A60,H⟩:=H;replace H:(spec_l11Shared.l0 k l2 ([]:List Int) t221 (t221.length:Int) 0 l0_0 l0_1)=some r:=H;have A6:=qK A60;clear A60;have H':=qK H;clear H;go_enter Try.func84,Try.ntmps84
   go_wp2_with (first|((with_reducible refine gate_dst (N:=3) rfl ?_);refine box_event ?hg (N:=3) ?hd (cs:=#[.slice A0_0 l0_0.length c0_0,.slice A0_1 l0_1.length c0_1]) (t:=32) ?hr ?_;(case hd=>rfl);(case hg=>rfl);(case hr=>(go_simp;try rfl));intro gb219 hg w7 hbox hb;have n0_:=qK (qT (by repeat (with_reducible first|exact HB.out|apply qA|apply qD|apply qO)) hb);have n1_:=qK (hbox);have n2_:=qK ((by rw [hg];exact (qZ (by repeat (with_reducible first|exact HB.out|apply qA|apply qD|apply qO))):w.heap.size≤gb219));have n3_:=qK ((by rw [hg];exact (qZ (by repeat (with_reducible first|exact HB.out|apply qA|apply qD|apply qO))):w.heap.size≤gb219));clear HB;have HB:=n0_;have BK219:=n1_;have GW219:=n2_;have GE219:=n3_;clear n0_ n1_ n2_ n3_;clear hb hbox hg;have hcz8_0:w7.cell? ⟨gb219,0,none⟩=some (.slice A0_0 l0_0.length c0_0):=(qC BK219.out 0).trans rfl;have hcz8_1:w7.cell? ⟨gb219,1,none⟩=some (.slice A0_1 l0_1.length c0_1):=(qC BK219.out 1).trans rfl;have hfz8_0:=qF BK219.out 0;have hfz8_1:=qF BK219.out 1;have p220:0≤(a1:Int):=of_decide_eq_true (by first|(with_reducible assumption)|assumption);have q220:a1 < (l0_1.length:Int):=of_decide_eq_true (by first|(with_reducible assumption)|assumption);obtain ⟨ad220,A220_1,c220_1,e220,hx220_0,hx220_1,hl220_1,hi220_1⟩:=at_T97 HR0_1.out a1 p220 q220;cases e220;replace hx220_0:=(HB.out.cell (World.block_lt_of_cell? w _ hx220_0)).trans hx220_0;replace hx220_1:=(HB.out.cell (World.block_lt_of_cell? w _ hx220_1)).trans hx220_1;have HR220_1:=qK hi220_1;have HC220_1:=qK hl220_1;clear hi220_1 hl220_1;replace p220:=eq_true p220;replace q220:=eq_true q220)|((with_reducible refine gate_callee (f:=76) rfl ?_);refine goesL_ (some 17) rfl rfl Try.func76 (by kernel_rfl) rfl #[.agg #[.int .i64 ((rd_T97 l0_1 a1).f0),.slice A220_1 ((rd_T97 l0_1 a1).f1).length c220_1]] rfl (by (try simp only [mT,mC,mN]);first|done|rfl|(simp only [lD,lT];rfl)) ?_;(with_reducible refine (spec_l11Edge.calls k ((rd_T97 l0_1 a1).f0) _ _ ((rd_T97 l0_1 a1).f1) t221 _ ?side1 ?side2 A6.out).mono ?_);(case side1=>repeat (first|exact (cB HR220_1.out HB.out)|(with_reducible first|refine cL ?_ _|refine cN ?_ _|refine cW ?_)));(case side2=>exact HC220_1.out);rintro e w9 ⟨v222,rfl,ho0,hb⟩;refine ⟨_,rfl,?_⟩;have n0_:=qK (Kd.V_lower (Kd.V_mono (ok':=fun k_=>(w.heap.size≤k_)∧k_ ≠ gb219) ho0 (fun k_ hk_=>⟨(Nat.le_trans (qZ (by repeat (with_reducible first|exact HB.out|apply qA|apply qD|apply qO|refine qS ?_ GE219.out))) hk_),(Kd.freshB (g:=gb219) (o:=_) (by (with_reducible repeat (first|refine qN ?_ _|refine qW ?_|refine qL ?_ _));exact BK219.out) k_ hk_)⟩)) (qZ (by repeat (with_reducible first|exact HB.out|apply qA|apply qD|apply qO|refine qS ?_ GE219.out))));have n1_:=qK (qB (g:=gb219) (o:=_) (by (with_reducible repeat (first|refine qN ?_ _|refine qW ?_|refine qL ?_ _));exact BK219.out) hb);have n2_:=qK (qT (by repeat (with_reducible first|exact HB.out|apply qA|apply qD|apply qO|refine qS ?_ GE219.out)) hb);clear BK219;clear HB;have HO223:=n0_;have BK219:=n1_;have HB:=n2_;clear n0_ n1_ n2_;(try clear hb);(try clear ho0);obtain ⟨Ao10,co10,eo10⟩:=Kd.V_slice HO223.out;subst eo10))
   go_loopg [7,19] k (fun kq v7 v19 w'=>∃ (x7_1:List Int) (x19_1:Int),v19=.int .i64 x19_1∧Aside0 (spec_l11Shared.l0 kq l2 x7_1 t221 (t221.length:Int) x19_1 l0_0 l0_1=some r)∧Aside0 (kq≤k)∧Aside0 (Kd.V (Kd.int .i64) 3 w' w.heap.size (fun k_=>(w.heap.size≤k_)∧k_ ≠ gb219) v7 x7_1)∧Aside0 (Kd.V (Kd.int .i64) 3 w' w.heap.size (fun k_=>(w.heap.size≤k_)∧k_ ≠ gb219) (.slice Ao10 t221.length co10) t221)∧Aside0 (w'.heap[gb219]?=some (.cells #[(.slice A0_0 l0_0.length c0_0),(.slice (some ad220) l0_1.length c0_1)] 32 (0,0)))∧Aside0 (Below w.heap.size w w'))
   case atStart=>exact ⟨(([]:List Int)),(0),(by first|rfl|(simp;done)|(simp [*];done)),H',⟨Nat.le_refl _⟩,⟨Kd.R_V (base:=0) (by first|exact Kd.R_nil _ _ _ _ _|exact Kd.N_nil _ _ _ _ _|exact Kd.V_nil _ _ _ _ _|exact Kd.Q_nil _ _ _ _ _|exact Kd.S_nil _ _ _ _ _)⟩,⟨by (with_reducible repeat (first|apply Kd.V_alloc|apply Kd.V_drewN|apply Kd.V_drew));exact HO223.out⟩,⟨by (with_reducible repeat (first|refine qN ?_ _|refine qW ?_|refine qL ?_ _));exact BK219.out⟩,⟨by repeat (first|(with_reducible first|exact HB.out|apply qA|apply qD|apply qO|refine qS ?_ GE219.out)|exact HB.out)⟩⟩
   case round =>
    clear H';try clear c2
    try clear p2
    try clear q2
    try clear hx2
    try clear c4
    try clear c4b0
    try clear c5
    try clear c5b0
    try clear c7
    try clear c8
    try clear hcz8_0
    try clear hcz8_1
    try clear hfz8_0
    try clear hfz8_1
    try clear hx220_0
    try clear hx220_1
    try clear p220
    try clear q220
    obtain ⟨x7_1,x19_1,rfl,HA,HK1,HO_7,HO_17,BK219,HB⟩:=hrel;cases gk with
    | zero=>exact absurd HA.out (by simp [spec_l11Shared.l0])
    | succ k1 =>
     have H:=HA.out;clear HA;simp only [spec_l11Shared.l0] at H;by_cases c11:x19_1 < (t221.length:Int)
     ·rw [if_pos c11] at H;have c11b0:decide (x19_1 < (t221.length:Int))=true:=decide_eq_true c11;clear c11;by_cases c12:0≤x19_1
      ·rw [if_pos c12] at H;have c12b0:decide (0≤x19_1)=true:=decide_eq_true c12;clear c12;by_cases c13:x19_1 < (t221.length:Int)
       ·rw [if_pos c13] at H;have c13b0:decide (x19_1 < (t221.length:Int))=true:=decide_eq_true c13;clear c13;have H':=qK H;clear H;have p224:0≤(x19_1:Int):=of_decide_eq_true (by first|(with_reducible assumption)|assumption);have q224:x19_1 < (t221.length:Int):=of_decide_eq_true (by first|(with_reducible assumption)|assumption);obtain ⟨ad224,e224,hx224_0⟩:=Kd.at_int (Kd.V_reads' HO_17.out).2.2 x19_1 p224 q224;cases e224
        replace p224:=eq_true p224;replace q224:=eq_true q224;go_wp2
        go_loopg [7,25] k1 (fun kq v7 v25 w'=>∃ (x7_2:List Int) (x25_2:Int),v25=.int .i64 x25_2∧Aside0 (spec_l11Shared.l1 kq l2 x7_2 (rd t221 x19_1) t221 (t221.length:Int) x19_1 l2 (l2.length:Int) x25_2 l0_0 l0_1=some r)∧Aside0 (kq≤k1)∧Aside0 (Kd.V (Kd.int .i64) 3 w' w.heap.size (fun k_=>(w.heap.size≤k_)∧k_ ≠ gb219) v7 x7_2)∧Aside0 (Kd.V (Kd.int .i64) 3 w' w.heap.size (fun k_=>(w.heap.size≤k_)∧k_ ≠ gb219) (.slice (some ad224) t221.length co10) t221)∧Aside0 (w'.heap[gb219]?=some (.cells #[(.slice A0_0 l0_0.length c0_0),(.slice (some ad220) l0_1.length c0_1)] 32 (0,0)))∧Aside0 (Below w.heap.size w w'))
        case atStart=>exact ⟨(x7_1),(0),(by first|rfl|(simp;done)|(simp [*];done)),H',⟨Nat.le_refl _⟩,⟨by (with_reducible repeat (first|apply Kd.V_alloc|apply Kd.V_drewN|apply Kd.V_drew));exact HO_7.out⟩,⟨by (with_reducible repeat (first|apply Kd.V_alloc|apply Kd.V_drewN|apply Kd.V_drew));exact HO_17.out⟩,⟨by (with_reducible repeat (first|refine qN ?_ _|refine qW ?_|refine qL ?_ _));exact BK219.out⟩,⟨by repeat (first|(with_reducible first|exact HB.out|apply qA|apply qD|apply qO|refine qS ?_ GE219.out)|exact HB.out)⟩⟩
        case round =>
         clear H';try clear c1
         try clear c2
         try clear p2
         try clear q2
         try clear hx2
         try clear c4
         try clear c4b0
         try clear c5
         try clear c5b0
         try clear c7
         try clear c8
         try clear c11
         try clear c11b0
         try clear c12
         try clear c12b0
         try clear c13
         try clear c13b0
         try clear hcz8_0
         try clear hcz8_1
         try clear hfz8_0
         try clear hfz8_1
         try clear hx220_0
         try clear hx220_1
         try clear hx224_0
         try clear p2
         try clear p220
         try clear p224
         try clear q2
         try clear q220
         try clear q224
         obtain ⟨x7_2,x25_2,rfl,HA,HK2,HO_7,HO_17,BK219,HB⟩:=hrel;cases gk with
         | zero=>exact absurd HA.out (by simp [spec_l11Shared.l1])
         | succ k2 =>
          have H:=HA.out;clear HA;simp only [spec_l11Shared.l1] at H;by_cases c14:x25_2 < (l2.length:Int)
          ·rw [if_pos c14] at H;have c14b0:decide (x25_2 < (l2.length:Int))=true:=decide_eq_true c14;clear c14;by_cases c15:0≤x25_2
           ·rw [if_pos c15] at H;have c15b0:decide (0≤x25_2)=true:=decide_eq_true c15;clear c15;by_cases c16:x25_2 < (l2.length:Int)
            ·rw [if_pos c16] at H;have c16b0:decide (x25_2 < (l2.length:Int))=true:=decide_eq_true c16;clear c16;by_cases c17:0≤(rd l2 x25_2)
             ·rw [if_pos c17] at H;have c17b0:decide (0≤(rd l2 x25_2))=true:=decide_eq_true c17;clear c17;by_cases c18:(rd l2 x25_2) < (l0_1.length:Int)
              ·rw [if_pos c18] at H;have c18b0:decide ((rd l2 x25_2) < (l0_1.length:Int))=true:=decide_eq_true c18;clear c18;replace H:=Option.bind_eq_some_iff.mp H;obtain ⟨t227,A190,H⟩:=H;replace H:(if t227=true then ((spec_l7Put.f k2 x7_2 (rd t221 x19_1)).bind fun t228=>(spec_l11Shared.l1 k2 l2 t228 (rd t221 x19_1) t221 (t221.length:Int) x19_1 l2 (l2.length:Int) (wrap64 (x25_2 + 1)) l0_0 l0_1)) else (spec_l11Shared.l1 k2 l2 x7_2 (rd t221 x19_1) t221 (t221.length:Int) x19_1 l2 (l2.length:Int) (wrap64 (x25_2 + 1)) l0_0 l0_1))=some r:=H;have A19:=qK A190;clear A190;by_cases c20:t227=true
               ·subst c20;have H1:((spec_l7Put.f k2 x7_2 (rd t221 x19_1)).bind fun t228=>(spec_l11Shared.l1 k2 l2 t228 (rd t221 x19_1) t221 (t221.length:Int) x19_1 l2 (l2.length:Int) (wrap64 (x25_2 + 1)) l0_0 l0_1))=some r:=by rw [if_pos rfl] at H;exact H
                clear H;have H:=H1;clear H1;replace H:=Option.bind_eq_some_iff.mp H;obtain ⟨t228,A210,H⟩:=H;replace H:(spec_l11Shared.l1 k2 l2 t228 (rd t221 x19_1) t221 (t221.length:Int) x19_1 l2 (l2.length:Int) (wrap64 (x25_2 + 1)) l0_0 l0_1)=some r:=H;have A21:=qK A210;clear A210;have H':=qK H;clear H;have p225:0≤(x25_2:Int):=of_decide_eq_true (by first|(with_reducible assumption)|assumption);have q225:x25_2 < (l2.length:Int):=of_decide_eq_true (by first|(with_reducible assumption)|assumption);obtain ⟨ad225,e225,hx225_0⟩:=Kd.at_int HR2.out x25_2 p225 q225;cases e225
                replace hx225_0:=(HB.out.cell (World.block_lt_of_cell? w _ hx225_0)).trans hx225_0;replace p225:=eq_true p225;replace q225:=eq_true q225;have hcz22_0:wr.cell? ⟨gb219,0,none⟩=some (.slice A0_0 l0_0.length c0_0):=(qC BK219.out 0).trans rfl;have hcz22_1:wr.cell? ⟨gb219,1,none⟩=some (.slice (some ad220) l0_1.length c0_1):=(qC BK219.out 1).trans rfl;have hfz22_0:=qF BK219.out 0;have hfz22_1:=qF BK219.out 1;have p226:0≤((rd l2 x25_2):Int):=of_decide_eq_true (by first|(with_reducible assumption)|assumption);have q226:(rd l2 x25_2) < (l0_1.length:Int):=of_decide_eq_true (by first|(with_reducible assumption)|assumption);obtain ⟨ad226,A226_1,c226_1,e226,hx226_0,hx226_1,hl226_1,hi226_1⟩:=at_T97 HR0_1.out (rd l2 x25_2) p226 q226;obtain rfl:ad220=ad226:=(by injection e226);replace hx226_0:=(HB.out.cell (World.block_lt_of_cell? w _ hx226_0)).trans hx226_0;replace hx226_1:=(HB.out.cell (World.block_lt_of_cell? w _ hx226_1)).trans hx226_1;have HR226_1:=qK hi226_1;have HC226_1:=qK hl226_1;clear hi226_1 hl226_1;replace p226:=eq_true p226;replace q226:=eq_true q226;go_wp2_with (first|((with_reducible refine gate_callee (f:=82) rfl ?_);refine goesL_ (some 36) rfl rfl Try.func82 (by kernel_rfl) rfl #[.slice A226_1 ((rd_T97 l0_1 (rd l2 x25_2)).f1).length c226_1,.int .i64 (rd t221 x19_1)] rfl (by (try simp only [mT,mC,mN]);first|done|rfl|(simp only [lD,lT];rfl)) ?_;(with_reducible refine (spec_l1Has.calls k2 _ _ ((rd_T97 l0_1 (rd l2 x25_2)).f1) (rd t221 x19_1) true _ ?side1 ?side2 A19.out).mono ?_);(case side1=>repeat (first|exact (cB HR226_1.out HB.out)|(with_reducible first|refine cL ?_ _|refine cN ?_ _|refine cW ?_)));(case side2=>exact HC226_1.out);rintro e w' ⟨rfl,⟨nd,rfl⟩⟩;refine ⟨_,rfl,?_⟩;obtain ⟨Ao23,co23,eo23⟩:=Kd.V_slice HO_7.out;subst eo23)|((with_reducible refine gate_callee (f:=141) rfl ?_);refine goesL_ (some 39) rfl rfl Try.func141 (by kernel_rfl) rfl #[.slice Ao23 x7_2.length co23,.int .i64 (rd t221 x19_1)] rfl (by (try simp only [mT,mC,mN]);first|done|rfl|(simp only [lD,lT];rfl)) ?_;(with_reducible refine (spec_l7Put.calls k2 (fun k_=>((w.heap.size≤k_)∧k_ ≠ gb219)) _ _ x7_2 (rd t221 x19_1) t228 _ ?side1 A21.out).mono ?_);(case side1=>exact HO_7.out);rintro e w24 ⟨v229,rfl,ho0,hb⟩;refine ⟨_,rfl,?_⟩;have n0_:=qK (Kd.V_below (by (with_reducible repeat (first|apply Kd.V_alloc|apply Kd.V_drewN|apply Kd.V_drew));exact HO_7.out) hb);have n1_:=qK (Kd.V_below (by (with_reducible repeat (first|apply Kd.V_alloc|apply Kd.V_drewN|apply Kd.V_drew));exact HO_17.out) hb);have n2_:=qK (Kd.V_lower (Kd.V_mono (ok':=fun k_=>(w.heap.size≤k_)∧k_ ≠ gb219) ho0 (fun k_ hk_=>⟨Or.elim hk_ (fun hs_=>hs_.1) (fun hn_=>(Nat.le_trans (qZ (by repeat (with_reducible first|exact HB.out|apply qA|apply qD|apply qO|refine qS ?_ GE219.out))) hn_)),Or.elim hk_ (fun hs_=>hs_.2) (fun hn_=>(Kd.freshB (g:=gb219) (o:=_) (by (with_reducible repeat (first|refine qN ?_ _|refine qW ?_|refine qL ?_ _));exact BK219.out) k_ hn_))⟩)) (qZ (by repeat (with_reducible first|exact HB.out|apply qA|apply qD|apply qO|refine qS ?_ GE219.out))));have n3_:=qK (qB (g:=gb219) (o:=_) (by (with_reducible repeat (first|refine qN ?_ _|refine qW ?_|refine qL ?_ _));exact BK219.out) hb);have n4_:=qK (qT (by repeat (with_reducible first|exact HB.out|apply qA|apply qD|apply qO|refine qS ?_ GE219.out)) hb);clear HO_7;clear HO_17;clear BK219;clear HB;have HO_7:=n0_;have HO_17:=n1_;have HO230:=n2_;have BK219:=n3_;have HB:=n4_;clear n0_ n1_ n2_ n3_ n4_;(try clear hb);(try clear ho0)))
                go_roundg k2
                case measure=>have:=HK1.out;have:=HK2.out;omega
                case rel=>exact ⟨(t228),(wrap64 (x25_2 + 1)),(by first|rfl|(simp;done)|(simp [*];done)),H',⟨by have:=HK1.out;have:=HK2.out;omega⟩,⟨by (with_reducible repeat (first|apply Kd.V_alloc|apply Kd.V_drewN|apply Kd.V_drew));exact HO230.out⟩,⟨by (with_reducible repeat (first|apply Kd.V_alloc|apply Kd.V_drewN|apply Kd.V_drew));exact HO_17.out⟩,⟨by (with_reducible repeat (first|refine qN ?_ _|refine qW ?_|refine qL ?_ _));exact BK219.out⟩,⟨by repeat (first|(with_reducible first|exact HB.out|apply qA|apply qD|apply qO|refine qS ?_ GE219.out)|exact HB.out)⟩⟩
               ·replace c20:=Bool.eq_false_iff.mpr c20;subst c20;have H1:(spec_l11Shared.l1 k2 l2 x7_2 (rd t221 x19_1) t221 (t221.length:Int) x19_1 l2 (l2.length:Int) (wrap64 (x25_2 + 1)) l0_0 l0_1)=some r:=by rw [if_neg (show ¬ (false=true) by decide)] at H;exact H
                clear H;have H:=H1;clear H1;have H':=qK H;clear H;have p225:0≤(x25_2:Int):=of_decide_eq_true (by first|(with_reducible assumption)|assumption);have q225:x25_2 < (l2.length:Int):=of_decide_eq_true (by first|(with_reducible assumption)|assumption);obtain ⟨ad225,e225,hx225_0⟩:=Kd.at_int HR2.out x25_2 p225 q225;cases e225
                replace hx225_0:=(HB.out.cell (World.block_lt_of_cell? w _ hx225_0)).trans hx225_0;replace p225:=eq_true p225;replace q225:=eq_true q225;have hcz25_0:wr.cell? ⟨gb219,0,none⟩=some (.slice A0_0 l0_0.length c0_0):=(qC BK219.out 0).trans rfl;have hcz25_1:wr.cell? ⟨gb219,1,none⟩=some (.slice (some ad220) l0_1.length c0_1):=(qC BK219.out 1).trans rfl;have hfz25_0:=qF BK219.out 0;have hfz25_1:=qF BK219.out 1;have p226:0≤((rd l2 x25_2):Int):=of_decide_eq_true (by first|(with_reducible assumption)|assumption);have q226:(rd l2 x25_2) < (l0_1.length:Int):=of_decide_eq_true (by first|(with_reducible assumption)|assumption);obtain ⟨ad226,A226_1,c226_1,e226,hx226_0,hx226_1,hl226_1,hi226_1⟩:=at_T97 HR0_1.out (rd l2 x25_2) p226 q226;obtain rfl:ad220=ad226:=(by injection e226);replace hx226_0:=(HB.out.cell (World.block_lt_of_cell? w _ hx226_0)).trans hx226_0;replace hx226_1:=(HB.out.cell (World.block_lt_of_cell? w _ hx226_1)).trans hx226_1;have HR226_1:=qK hi226_1;have HC226_1:=qK hl226_1;clear hi226_1 hl226_1;replace p226:=eq_true p226;replace q226:=eq_true q226;go_wp2_with (first|((with_reducible refine gate_callee (f:=82) rfl ?_);refine goesL_ (some 36) rfl rfl Try.func82 (by kernel_rfl) rfl #[.slice A226_1 ((rd_T97 l0_1 (rd l2 x25_2)).f1).length c226_1,.int .i64 (rd t221 x19_1)] rfl (by (try simp only [mT,mC,mN]);first|done|rfl|(simp only [lD,lT];rfl)) ?_;(with_reducible refine (spec_l1Has.calls k2 _ _ ((rd_T97 l0_1 (rd l2 x25_2)).f1) (rd t221 x19_1) false _ ?side1 ?side2 A19.out).mono ?_);(case side1=>repeat (first|exact (cB HR226_1.out HB.out)|(with_reducible first|refine cL ?_ _|refine cN ?_ _|refine cW ?_)));(case side2=>exact HC226_1.out);rintro e w' ⟨rfl,⟨nd,rfl⟩⟩;refine ⟨_,rfl,?_⟩))
                go_roundg k2
                case measure=>have:=HK1.out;have:=HK2.out;omega
                case rel=>exact ⟨(x7_2),(wrap64 (x25_2 + 1)),(by first|rfl|(simp;done)|(simp [*];done)),H',⟨by have:=HK1.out;have:=HK2.out;omega⟩,⟨by (with_reducible repeat (first|apply Kd.V_alloc|apply Kd.V_drewN|apply Kd.V_drew));exact HO_7.out⟩,⟨by (with_reducible repeat (first|apply Kd.V_alloc|apply Kd.V_drewN|apply Kd.V_drew));exact HO_17.out⟩,⟨by (with_reducible repeat (first|refine qN ?_ _|refine qW ?_|refine qL ?_ _));exact BK219.out⟩,⟨by repeat (first|(with_reducible first|exact HB.out|apply qA|apply qD|apply qO|refine qS ?_ GE219.out)|exact HB.out)⟩⟩
              ·rw [if_neg c18] at H;exact absurd H (by simp)
             ·rw [if_neg c17] at H;exact absurd H (by simp)
            ·rw [if_neg c16] at H;exact absurd H (by simp)
           ·rw [if_neg c15] at H;exact absurd H (by simp)
          ·rw [if_neg c14] at H;have c14b0:decide (x25_2 < (l2.length:Int))=false:=decide_eq_false c14;clear c14;have H':=qK H;clear H;go_wp2
           go_roundg k2
           case measure=>have:=HK1.out;have:=HK2.out;omega
           case rel=>exact ⟨(x7_2),(wrap64 (x19_1 + 1)),(by first|rfl|(simp;done)|(simp [*];done)),H',⟨by have:=HK1.out;have:=HK2.out;omega⟩,⟨by (with_reducible repeat (first|apply Kd.V_alloc|apply Kd.V_drewN|apply Kd.V_drew));exact HO_7.out⟩,⟨by (with_reducible repeat (first|apply Kd.V_alloc|apply Kd.V_drewN|apply Kd.V_drew));exact HO_17.out⟩,⟨by (with_reducible repeat (first|refine qN ?_ _|refine qW ?_|refine qL ?_ _));exact BK219.out⟩,⟨by repeat (first|(with_reducible first|exact HB.out|apply qA|apply qD|apply qO|refine qS ?_ GE219.out)|exact HB.out)⟩⟩
       ·rw [if_neg c13] at H;exact absurd H (by simp)
      ·rw [if_neg c12] at H;exact absurd H (by simp)
     ·rw [if_neg c11] at H;have c11b0:decide (x19_1 < (t221.length:Int))=false:=decide_eq_false c11;clear c11;obtain rfl:=Option.some.inj H;go_wp2
      go_ret
      exact ⟨_,by first|rfl|(simp [errW_none,errW_some] <;> rfl)|(simp [*,errW_none,errW_some] <;> rfl),by (with_reducible repeat (first|apply Kd.V_alloc|apply Kd.V_drewN|apply Kd.V_drew));exact Kd.V_mono HO_7.out (fun _ hk=>hk.1),by repeat (first|(with_reducible first|exact HB.out|apply qA|apply qD|apply qO|refine qS ?_ GE219.out)|exact HB.out)⟩
  ·rw [if_neg c5] at H;exact absurd H (by simp)
 ·rw [if_neg c4] at H;exact absurd H (by simp)

/-! ### spec_IsTree: function 27 -/
mutual
def spec_IsTree.l0 : Nat→List (S106)→List Int→Int→List Int→List (S97)→Option (Bool × Bool)
 | 0,_,_,_,_,_=>none
 | k + 1,x1,x8,x9,x232000,x232001=>if x9 ≥ 0 then (if 0≤x9 then (if x9 < (x1.length:Int) then (if ((rd_T106 x1 x9).f0) < 0 then (spec_IsTree.j1 k x1 x8 x9 true x232000 x232001 ((rd_T106 x1 x9).f0) ((rd_T106 x1 x9).f1)) else (if ((rd_T106 x1 x9).f0) ≥ (x232001.length:Int) then (spec_IsTree.j1 k x1 x8 x9 true x232000 x232001 ((rd_T106 x1 x9).f0) ((rd_T106 x1 x9).f1)) else ((spec_l1Has.f k x8 ((rd_T106 x1 x9).f0)).bind fun t235=>(if t235=true then (spec_IsTree.j1 k x1 x8 x9 true x232000 x232001 ((rd_T106 x1 x9).f0) ((rd_T106 x1 x9).f1)) else (spec_IsTree.j1 k x1 x8 x9 ((((rd_T106 x1 x9).f1) == (-1)) != (x9 == (wrap64 ((x1.length:Int) - 1)))) x232000 x232001 ((rd_T106 x1 x9).f0) ((rd_T106 x1 x9).f1)))))) else (none)) else (none)) else (some (((x8.length:Int) == (x232001.length:Int)),true))
def spec_IsTree.j1 : Nat→List (S106)→List Int→Int→Bool→List Int→List (S97)→Int→Int→Option (Bool × Bool)
 | 0,_,_,_,_,_,_,_,_=>none
 | k + 1,x1,x8,x9,x53,x232000,x232001,x235000,x235001=>if x53=true then (some (false,true)) else (if x235001=(-1) then (if x8.length < 17592186044416 then (spec_IsTree.l0 k x1 (x8 ++ [x235000]) (wrap64 (x9 - 1)) x232000 x232001) else (none)) else ((spec_l1Has.f k x8 x235001).bind fun t239=>(if t239=true then (if 0≤x235001 then (if x235001 < (x232001.length:Int) then ((spec_l11Shared.f k x232000 x232001 x235000 x8).bind fun t241=>((spec_l7All.f k ((rd_T97 x232001 x235001).f1) t241).bind fun t244=>(if t244=true then (if x8.length < 17592186044416 then (spec_IsTree.l0 k x1 (x8 ++ [x235000]) (wrap64 (x9 - 1)) x232000 x232001) else (none)) else (some (false,true))))) else (none)) else (none)) else (some (false,true)))))
end
def spec_IsTree.f (k:Nat) (l0_0:List Int) (l0_1:List (S97)) (l1:List (S106)) (l2:List Int):Option (Bool × Bool):=(spec_GoodQuery.f k l0_0 l0_1 l2).bind fun t232=>(if t232=true then (spec_IsTree.l0 k l1 ([]:List Int) (wrap64 ((l1.length:Int) - 1)) l0_0 l0_1) else (some (false,false)))
theorem spec_IsTree.mono_l : ∀ k,(∀ y0 y1 y2 y3 y4,LeO (spec_IsTree.l0 k y0 y1 y2 y3 y4) (spec_IsTree.l0 (k + 1) y0 y1 y2 y3 y4))∧(∀ y0 y1 y2 y3 y4 y5 y6 y7,LeO (spec_IsTree.j1 k y0 y1 y2 y3 y4 y5 y6 y7) (spec_IsTree.j1 (k + 1) y0 y1 y2 y3 y4 y5 y6 y7))
 | 0=>⟨fun _ _ _ _ _ r h=>by simp [spec_IsTree.l0] at h,fun _ _ _ _ _ _ _ _ r h=>by simp [spec_IsTree.j1] at h⟩
 | k + 1=>by
  obtain ⟨ih0,ih1⟩:=spec_IsTree.mono_l k;refine ⟨?_,?_⟩
  ·intro y0 y1 y2 y3 y4;unfold spec_IsTree.l0
   repeat' first
   | (with_reducible exact ih0 _ _ _ _ _)
   | (with_reducible exact ih1 _ _ _ _ _ _ _ _)
   | (with_reducible exact spec_GoodQuery.mono _ _ _ _)
   | (with_reducible exact spec_l11Shared.mono _ _ _ _ _)
   | (with_reducible exact spec_l1Has.mono _ _ _)
   | (with_reducible exact spec_l7All.mono _ _ _)
   | (with_reducible exact LeO.refl _)
   | (with_reducible exact LeO.none _)
   | (with_reducible refine LeO.ite ?_ ?_)
   | (with_reducible refine LeO.bind ?_ (fun _=>?_))
   | exact ih0 _ _ _ _ _
   | exact ih1 _ _ _ _ _ _ _ _
   | exact spec_GoodQuery.mono _ _ _ _
   | exact spec_l11Shared.mono _ _ _ _ _
   | exact spec_l1Has.mono _ _ _
   | exact spec_l7All.mono _ _ _
   | exact LeO.none _
   | refine LeO.ite ?_ ?_
   | refine LeO.bind ?_ (fun _=>?_)
  ·intro y0 y1 y2 y3 y4 y5 y6 y7;unfold spec_IsTree.j1
   repeat' first
   | (with_reducible exact ih0 _ _ _ _ _)
   | (with_reducible exact ih1 _ _ _ _ _ _ _ _)
   | (with_reducible exact spec_GoodQuery.mono _ _ _ _)
   | (with_reducible exact spec_l11Shared.mono _ _ _ _ _)
   | (with_reducible exact spec_l1Has.mono _ _ _)
   | (with_reducible exact spec_l7All.mono _ _ _)
   | (with_reducible exact LeO.refl _)
   | (with_reducible exact LeO.none _)
   | (with_reducible refine LeO.ite ?_ ?_)
   | (with_reducible refine LeO.bind ?_ (fun _=>?_))
   | exact ih0 _ _ _ _ _
   | exact ih1 _ _ _ _ _ _ _ _
   | exact spec_GoodQuery.mono _ _ _ _
   | exact spec_l11Shared.mono _ _ _ _ _
   | exact spec_l1Has.mono _ _ _
   | exact spec_l7All.mono _ _ _
   | exact LeO.none _
   | refine LeO.ite ?_ ?_
   | refine LeO.bind ?_ (fun _=>?_)
theorem spec_IsTree.mono : ∀ a0 a1 a2 a3 k,LeO (spec_IsTree.f k a0 a1 a2 a3) (spec_IsTree.f (k + 1) a0 a1 a2 a3):=by
 intro a0 a1 a2 a3 k;obtain ⟨ih0,ih1⟩:=spec_IsTree.mono_l k;unfold spec_IsTree.f
 repeat' first
   | (with_reducible exact ih0 _ _ _ _ _)
   | (with_reducible exact ih1 _ _ _ _ _ _ _ _)
   | (with_reducible exact spec_GoodQuery.mono _ _ _ _)
   | (with_reducible exact spec_l11Shared.mono _ _ _ _ _)
   | (with_reducible exact spec_l1Has.mono _ _ _)
   | (with_reducible exact spec_l7All.mono _ _ _)
   | (with_reducible exact LeO.refl _)
   | (with_reducible exact LeO.none _)
   | (with_reducible refine LeO.ite ?_ ?_)
   | (with_reducible refine LeO.bind ?_ (fun _=>?_))
   | exact ih0 _ _ _ _ _
   | exact ih1 _ _ _ _ _ _ _ _
   | exact spec_GoodQuery.mono _ _ _ _
   | exact spec_l11Shared.mono _ _ _ _ _
   | exact spec_l1Has.mono _ _ _
   | exact spec_l7All.mono _ _ _
   | exact LeO.none _
   | refine LeO.ite ?_ ?_
   | refine LeO.bind ?_ (fun _=>?_)
def spec_IsTree.T10 : Bool × List (List Nat × List Nat):=(true,[([],[]),([0],[0]),([1],[1]),([2],[2]),([3],[3]),([3],[3]),([5,3],[3,5]),([4,6,3,3],[3,4,6]),([7,3],[3,7]),([8,7,3],[3,8]),([9],[9]),([10,9],[9,10]),([9],[9]),([12,9],[9,12]),([11,13,9],[9,11,13]),([14,9],[9,14]),([15,9],[9,15]),([9],[9]),([9],[9]),([18,9],[9,18]),([9],[9]),([17,19,20,9,9],[9,17,19,20]),([16,21,21,9],[9,16,21]),([22,9],[9,22]),([9,23,3],[3,9,23]),([3,24],[3,24])])
def spec_IsTree.B10 : List Nat:=[0,1,3,7,15,15,47,127,255,511,1023,2047,1023,5119,16383,32767,65535,1023,1023,263167,1023,1967103,4194303,8388607,16777215,33554431]
theorem spec_IsTree.tab10 : rtab .any (opsOf Try.f27 10)=spec_IsTree.T10:=by kernel_rfl
theorem spec_IsTree.bits10 : waitsOk spec_IsTree.T10.2 spec_IsTree.B10=true:=by kernel_rfl
set_option maxHeartbeats 8000000 in
set_option maxRecDepth 100000 in
theorem spec_IsTree.calls (k:Nat) (A0_0:Option Addr) (c0_0:Nat) (l0_0:List Int) (A0_1:Option Addr) (c0_1:Nat) (l0_1:List (S97)) (A1:Option Addr) (c1:Nat) (l1:List (S106)) (A2:Option Addr) (c2:Nat) (l2:List Int) (r1:Bool) (r2:Bool) (w:World) (hr0_0:Kd.C (Kd.int .i64) w A0_0 l0_0.length l0_0) (hc0_0:l0_0.length≤c0_0) (hr0_1:Kd.C k97 w A0_1 l0_1.length l0_1) (hc0_1:l0_1.length≤c0_1) (hr1:Kd.C k106 w A1 l1.length l1) (hc1:l1.length≤c1) (hr2:Kd.C (Kd.int .i64) w A2 l2.length l2) (hc2:l2.length≤c2) (h:spec_IsTree.f k l0_0 l0_1 l1 l2=some (r1,r2)) :
  Calls Try.prog 27 #[.agg #[.slice A0_0 l0_0.length c0_0,.slice A0_1 l0_1.length c0_1],.slice A1 l1.length c1,.slice A2 l2.length c2] w fun e w'=>e=.returned (.tuple #[.bool r1,.bool r2])∧Below w.heap.size w w':=by
 have hu32:=Try.underlying32;have hu106:=Try.underlying106;have HR0_0:=qK hr0_0;have HC0_0:=qK hc0_0;clear hr0_0 hc0_0;have HR0_1:=qK hr0_1;have HC0_1:=qK hc0_1;clear hr0_1 hc0_1;have HR1:=qK hr1;have HC1:=qK hc1;clear hr1 hc1;have HR2:=qK hr2;have HC2:=qK hc2;clear hr2 hc2;have HB:=qK (Below.refl w.heap.size w);have H:((spec_GoodQuery.f k l0_0 l0_1 l2).bind fun t232=>(if t232=true then (spec_IsTree.l0 k l1 ([]:List Int) (wrap64 ((l1.length:Int) - 1)) l0_0 l0_1) else (some (false,false))))=some (r1,r2):=h;clear h;replace H:=Option.bind_eq_some_iff.mp H;obtain ⟨t232,A40,H⟩:=H;replace H:(if t232=true then (spec_IsTree.l0 k l1 ([]:List Int) (wrap64 ((l1.length:Int) - 1)) l0_0 l0_1) else (some (false,false)))=some (r1,r2):=H;have A4:=qK A40;clear A40;by_cases c5:t232=true
 ·subst c5;have H1:(spec_IsTree.l0 k l1 ([]:List Int) (wrap64 ((l1.length:Int) - 1)) l0_0 l0_1)=some (r1,r2):=by rw [if_pos rfl] at H;exact H
  clear H;have H:=H1;clear H1;have H':=qK H;clear H;go_enter Try.func27,Try.ntmps27
  go_wp2_with (first|((with_reducible refine gate_dst (N:=3) rfl ?_);(try (refine gate_guard (by rfl) ?_;dsimp only));refine box_event ?hg (N:=3) ?hd (cs:=#[.slice A0_0 l0_0.length c0_0,.slice A0_1 l0_1.length c0_1]) (t:=32) ?hr ?_;(case hd=>rfl);(case hg=>rfl);(case hr=>(go_simp;try rfl));intro gb231 hg w6 hbox hb;have n0_:=qK (qT (by repeat (with_reducible first|exact HB.out|apply qA|apply qD|apply qO)) hb);have n1_:=qK (hbox);have n2_:=qK ((by rw [hg];exact (qZ (by repeat (with_reducible first|exact HB.out|apply qA|apply qD|apply qO))):w.heap.size≤gb231));have n3_:=qK ((by rw [hg];exact (qZ (by repeat (with_reducible first|exact HB.out|apply qA|apply qD|apply qO))):w.heap.size≤gb231));clear HB;have HB:=n0_;have BK231:=n1_;have GW231:=n2_;have GE231:=n3_;clear n0_ n1_ n2_ n3_;clear hb hbox hg;have hcz7_0:w6.cell? ⟨gb231,0,none⟩=some (.slice A0_0 l0_0.length c0_0):=(qC BK231.out 0).trans rfl;have hcz7_1:w6.cell? ⟨gb231,1,none⟩=some (.slice A0_1 l0_1.length c0_1):=(qC BK231.out 1).trans rfl;have hfz7_0:=qF BK231.out 0;have hfz7_1:=qF BK231.out 1)|((with_reducible refine gate_callee (f:=75) rfl ?_);refine goesL_ (some 13) rfl rfl Try.func75 (by kernel_rfl) rfl #[.agg #[.slice A0_0 l0_0.length c0_0,.slice A0_1 l0_1.length c0_1],.slice A2 l2.length c2] rfl (by (try simp only [mT,mC,mN]);first|done|rfl|(simp only [lD,lT];rfl)) ?_;(with_reducible refine (spec_GoodQuery.calls k _ _ l0_0 _ _ l0_1 _ _ l2 true _ ?side1 ?side2 ?side3 ?side4 ?side5 ?side6 A4.out).mono ?_);(case side1=>repeat (first|exact (cB HR0_0.out HB.out)|(with_reducible first|refine cL ?_ _|refine cN ?_ _|refine cW ?_)));(case side2=>exact HC0_0.out);(case side3=>repeat (first|exact (cB HR0_1.out HB.out)|(with_reducible first|refine cL ?_ _|refine cN ?_ _|refine cW ?_)));(case side4=>exact HC0_1.out);(case side5=>repeat (first|exact (cB HR2.out HB.out)|(with_reducible first|refine cL ?_ _|refine cN ?_ _|refine cW ?_)));(case side6=>exact HC2.out);rintro e w8 ⟨rfl,hb⟩;refine ⟨_,rfl,?_⟩;have n0_:=qK (qB (g:=gb231) (o:=_) (by (with_reducible repeat (first|refine qN ?_ _|refine qW ?_|refine qL ?_ _));exact BK231.out) hb);have n1_:=qK (qT (by repeat (with_reducible first|exact HB.out|apply qA|apply qD|apply qO|refine qS ?_ GE231.out)) hb);clear BK231;clear HB;have BK231:=n0_;have HB:=n1_;clear n0_ n1_;(try clear hb)))
  go_loopg [8,9] k (fun kq v8 v9 w'=>∃ (x8_1:List Int) (x9_1:Int),v9=.int .i64 x9_1∧Aside0 (spec_IsTree.l0 kq l1 x8_1 x9_1 l0_0 l0_1=some (r1,r2))∧Aside0 (kq≤k)∧Aside0 (Kd.R (Kd.int .i64) 3 w' w.heap.size (fun _=>True) v8 x8_1)∧Aside0 (w'.heap[gb231]?=some (.cells #[(.slice A0_0 l0_0.length c0_0),(.slice A0_1 l0_1.length c0_1)] 32 (0,0)))∧Aside0 (Below w.heap.size w w'))
  case atStart=>exact ⟨(([]:List Int)),(wrap64 ((l1.length:Int) - 1)),(by first|rfl|(simp;done)|(simp [*];done)),H',⟨Nat.le_refl _⟩,⟨by first|exact Kd.R_nil _ _ _ _ _|exact Kd.N_nil _ _ _ _ _|exact Kd.V_nil _ _ _ _ _|exact Kd.Q_nil _ _ _ _ _|exact Kd.S_nil _ _ _ _ _⟩,⟨by (with_reducible repeat (first|refine qN ?_ _|refine qW ?_|refine qL ?_ _));exact BK231.out⟩,⟨by repeat (first|(with_reducible first|exact HB.out|apply qA|apply qD|apply qO|refine qS ?_ GE231.out)|exact HB.out)⟩⟩
  case round =>
   clear H';try clear c1
   try clear c2
   try clear p2
   try clear c5
   try clear p6
   try clear c7
   try clear hcz7_0
   try clear hcz7_1
   try clear hfz7_0
   try clear hfz7_1
   obtain ⟨x8_1,x9_1,rfl,HA,HK1,HO_8,BK231,HB⟩:=hrel;cases gk with
   | zero=>exact absurd HA.out (by simp [spec_IsTree.l0])
   | succ k1 =>
    have H:=HA.out;clear HA;simp only [spec_IsTree.l0] at H;by_cases c9:x9_1 ≥ 0
    ·rw [if_pos c9] at H;have c9b0:decide (0≤x9_1)=true:=decide_eq_true c9;clear c9;by_cases c10:0≤x9_1
     ·rw [if_pos c10] at H;have c10b0:decide (0≤x9_1)=true:=decide_eq_true c10;clear c10;by_cases c11:x9_1 < (l1.length:Int)
      ·rw [if_pos c11] at H;have c11b0:decide (x9_1 < (l1.length:Int))=true:=decide_eq_true c11;clear c11;have HC12:=qK H;clear H;have p233:0≤(x9_1:Int):=of_decide_eq_true (by first|(with_reducible assumption)|assumption);have q233:x9_1 < (l1.length:Int):=of_decide_eq_true (by first|(with_reducible assumption)|assumption);obtain ⟨ad233,e233,hx233_0,hx233_1⟩:=at_T106 HR1.out x9_1 p233 q233;cases e233
       replace hx233_0:=(HB.out.cell (World.block_lt_of_cell? w _ hx233_0)).trans hx233_0;replace hx233_1:=(HB.out.cell (World.block_lt_of_cell? w _ hx233_1)).trans hx233_1;replace p233:=eq_true p233;replace q233:=eq_true q233;go_upto_region 8 with (first|((with_reducible refine gate_dst (N:=10) rfl ?_);(try (refine gate_guard (by rfl) ?_;dsimp only));refine box_event ?hg (N:=10) ?hd (cs:=#[.int .i64 0,.int .i64 0]) (t:=106) ?hr ?_;(case hd=>rfl);(case hg=>rfl);(case hr=>(go_simp;try rfl));intro gb234 hg w13 hbox hb;have n0_:=qK (rB (by (with_reducible repeat (first|apply rL|apply rN|apply rW));exact HO_8.out) hb);have n1_:=qK (qB (g:=gb231) (o:=_) (by (with_reducible repeat (first|refine qN ?_ _|refine qW ?_|refine qL ?_ _));exact BK231.out) hb);have n2_:=qK (qT (by repeat (with_reducible first|exact HB.out|apply qA|apply qD|apply qO|refine qS ?_ GE231.out)) hb);have n3_:=qK (hbox);have n4_:=qK ((by rw [hg];exact (qZ (by repeat (with_reducible first|exact HB.out|apply qA|apply qD|apply qO|refine qS ?_ GE231.out))):w.heap.size≤gb234));have n5_:=qK ((by rw [hg];exact (qZ (by repeat (with_reducible first|exact HB.out|apply qA|apply qD|apply qO|refine qS ?_ GE231.out))):w.heap.size≤gb234));have n6_:=qK ((by rw [hg];exact Nat.ne_of_lt (blk_lt (g:=gb231) (o:=_) (by (with_reducible repeat (first|refine qN ?_ _|refine qW ?_|refine qL ?_ _));exact BK231.out)):gb231 ≠ gb234));have n7_:=qK ((by rw [hg];exact Nat.ne_of_gt (blk_lt (g:=gb231) (o:=_) (by (with_reducible repeat (first|refine qN ?_ _|refine qW ?_|refine qL ?_ _));exact BK231.out)):gb234 ≠ gb231));clear HO_8;clear BK231;clear HB;have HO_8:=n0_;have BK231:=n1_;have HB:=n2_;have BK234:=n3_;have GW234:=n4_;have GE234:=n5_;have NB231_234:=n6_;have NB234_231:=n7_;clear n0_ n1_ n2_ n3_ n4_ n5_ n6_ n7_;clear hb hbox hg;have hnb14:=NB234_231.out;have hnc14:=NB231_234.out;have hcz15_0:w13.cell? ⟨gb234,0,none⟩=some (.int .i64 0):=(qC BK234.out 0).trans rfl;have hcz15_1:w13.cell? ⟨gb234,1,none⟩=some (.int .i64 0):=(qC BK234.out 1).trans rfl;have hfz15_0:=qF BK234.out 0;have hfz15_1:=qF BK234.out 1))
       (try simp only [Act.put,List.setIfInBounds_toArray,List.set_cons_zero,List.set_cons_succ]);go_cut [53] (fun v53 wc=>∃ (kq:Nat) (x53_11:Bool),v53=.bool x53_11∧Aside0 (spec_IsTree.j1 kq l1 x8_1 x9_1 x53_11 l0_0 l0_1 ((rd_T106 l1 x9_1).f0) ((rd_T106 l1 x9_1).f1)=some (r1,r2))∧Aside0 (kq≤k1)∧Aside0 (Kd.R (Kd.int .i64) 3 wc w.heap.size (fun _=>True) u8 x8_1)∧Aside0 (wc.heap[gb231]?=some (.cells #[(.slice A0_0 l0_0.length c0_0),(.slice A0_1 l0_1.length c0_1)] 32 (0,0)))∧Aside0 (wc.heap[gb234]?=some (.cells #[.int .i64 ((rd_T106 l1 x9_1).f0),.int .i64 ((rd_T106 l1 x9_1).f1)] 106 (0,0)))∧Aside0 (Below w.heap.size w wc))
       case first =>
        have H:=HC12.out;clear HC12;by_cases c16:((rd_T106 l1 x9_1).f0) < 0
        ·rw [if_pos c16] at H;have c16b0:decide (((rd_T106 l1 x9_1).f0) < 0)=true:=decide_eq_true c16;clear c16;(first|rw [c16b0]|(simp only [i64_w,i32_w];rw [c16b0])|skip);have H':=qK H;clear H;have hnb17:=NB234_231.out;have hnc17:=NB231_234.out;have hcz18_0:w13.cell? ⟨gb234,0,none⟩=some (.int .i64 0):=(qC BK234.out 0).trans rfl;have hcz18_1:w13.cell? ⟨gb234,1,none⟩=some (.int .i64 0):=(qC BK234.out 1).trans rfl;have hfz18_0:=qF BK234.out 0;have hfz18_1:=qF BK234.out 1;go_wp2
         go_meet
         case rel=>exact ⟨_,(true),(by first|rfl|(simp;done)|(simp [*];done)),H',⟨by have:=HK1.out;first|omega|exact Nat.le_refl _⟩,⟨by (with_reducible repeat (first|apply rL|apply rN|apply rW));exact Kd.R_mono (Kd.R_far (p:=⟨gb234,1,none⟩) (Kd.R_far (p:=⟨gb234,0,none⟩) (Kd.R_types HO_8.out BK234.out (by decide)) (fun _ hk=>hk.2) (.int .i64 ((rd_T106 l1 x9_1).f0))) (fun _ hk=>hk.2) (.int .i64 ((rd_T106 l1 x9_1).f1))) (fun _ hk=>trivial)⟩,⟨by (with_reducible repeat (first|refine qN ?_ _|refine qW ?_|refine qL ?_ _));refine qR ?_ NB231_234.out _;(with_reducible repeat (first|refine qN ?_ _|refine qW ?_|refine qL ?_ _));refine qR ?_ NB231_234.out _;(with_reducible repeat (first|refine qN ?_ _|refine qW ?_|refine qL ?_ _));exact BK231.out⟩,⟨by (with_reducible repeat (first|refine qN ?_ _|refine qW ?_|refine qL ?_ _));refine qP (cs:=#[.int .i64 ((rd_T106 l1 x9_1).f0),.int .i64 0]) ?_ 1 _ rfl;(with_reducible repeat (first|refine qN ?_ _|refine qW ?_|refine qL ?_ _));refine qP (cs:=#[.int .i64 0,.int .i64 0]) ?_ 0 _ rfl;(with_reducible repeat (first|refine qN ?_ _|refine qW ?_|refine qL ?_ _));exact BK234.out⟩,⟨by repeat (first|(with_reducible first|exact HB.out|apply qA|apply qD|apply qO|refine qS ?_ GE231.out|refine qS ?_ GE234.out)|exact HB.out)⟩⟩
        ·rw [if_neg c16] at H;have c16b0:decide (((rd_T106 l1 x9_1).f0) < 0)=false:=decide_eq_false c16;clear c16;(first|rw [c16b0]|(simp only [i64_w,i32_w];rw [c16b0])|skip);by_cases c19:((rd_T106 l1 x9_1).f0) ≥ (l0_1.length:Int)
         ·rw [if_pos c19] at H;have c19b0:decide ((l0_1.length:Int)≤((rd_T106 l1 x9_1).f0))=true:=decide_eq_true c19;clear c19;have H':=qK H;clear H;have hnb20:=NB234_231.out;have hnc20:=NB231_234.out;have hcz21_0:w13.cell? ⟨gb234,0,none⟩=some (.int .i64 0):=(qC BK234.out 0).trans rfl;have hcz21_1:w13.cell? ⟨gb234,1,none⟩=some (.int .i64 0):=(qC BK234.out 1).trans rfl;have hfz21_0:=qF BK234.out 0;have hfz21_1:=qF BK234.out 1;have hcz22_0:w13.cell? ⟨gb231,0,none⟩=some (.slice A0_0 l0_0.length c0_0):=(qC BK231.out 0).trans rfl;have hcz22_1:w13.cell? ⟨gb231,1,none⟩=some (.slice A0_1 l0_1.length c0_1):=(qC BK231.out 1).trans rfl;have hfz22_0:=qF BK231.out 0;have hfz22_1:=qF BK231.out 1;go_wp2
          go_meet
          case rel=>exact ⟨_,(true),(by first|rfl|(simp;done)|(simp [*];done)),H',⟨by have:=HK1.out;first|omega|exact Nat.le_refl _⟩,⟨by (with_reducible repeat (first|apply rL|apply rN|apply rW));exact Kd.R_mono (Kd.R_far (p:=⟨gb234,1,none⟩) (Kd.R_far (p:=⟨gb234,0,none⟩) (Kd.R_types HO_8.out BK234.out (by decide)) (fun _ hk=>hk.2) (.int .i64 ((rd_T106 l1 x9_1).f0))) (fun _ hk=>hk.2) (.int .i64 ((rd_T106 l1 x9_1).f1))) (fun _ hk=>trivial)⟩,⟨by (with_reducible repeat (first|refine qN ?_ _|refine qW ?_|refine qL ?_ _));refine qR ?_ NB231_234.out _;(with_reducible repeat (first|refine qN ?_ _|refine qW ?_|refine qL ?_ _));refine qR ?_ NB231_234.out _;(with_reducible repeat (first|refine qN ?_ _|refine qW ?_|refine qL ?_ _));exact BK231.out⟩,⟨by (with_reducible repeat (first|refine qN ?_ _|refine qW ?_|refine qL ?_ _));refine qP (cs:=#[.int .i64 ((rd_T106 l1 x9_1).f0),.int .i64 0]) ?_ 1 _ rfl;(with_reducible repeat (first|refine qN ?_ _|refine qW ?_|refine qL ?_ _));refine qP (cs:=#[.int .i64 0,.int .i64 0]) ?_ 0 _ rfl;(with_reducible repeat (first|refine qN ?_ _|refine qW ?_|refine qL ?_ _));exact BK234.out⟩,⟨by repeat (first|(with_reducible first|exact HB.out|apply qA|apply qD|apply qO|refine qS ?_ GE231.out|refine qS ?_ GE234.out)|exact HB.out)⟩⟩
         ·rw [if_neg c19] at H;have c19b0:decide ((l0_1.length:Int)≤((rd_T106 l1 x9_1).f0))=false:=decide_eq_false c19;clear c19;replace H:=Option.bind_eq_some_iff.mp H;obtain ⟨t235,A230,H⟩:=H;replace H:(if t235=true then (spec_IsTree.j1 k1 l1 x8_1 x9_1 true l0_0 l0_1 ((rd_T106 l1 x9_1).f0) ((rd_T106 l1 x9_1).f1)) else (spec_IsTree.j1 k1 l1 x8_1 x9_1 ((((rd_T106 l1 x9_1).f1) == (-1)) != (x9_1 == (wrap64 ((l1.length:Int) - 1)))) l0_0 l0_1 ((rd_T106 l1 x9_1).f0) ((rd_T106 l1 x9_1).f1)))=some (r1,r2):=H;have A23:=qK A230;clear A230;by_cases c24:t235=true
          ·subst c24;have H1:(spec_IsTree.j1 k1 l1 x8_1 x9_1 true l0_0 l0_1 ((rd_T106 l1 x9_1).f0) ((rd_T106 l1 x9_1).f1))=some (r1,r2):=by rw [if_pos rfl] at H;exact H
           clear H;have H:=H1;clear H1;have H':=qK H;clear H;have hnb25:=NB234_231.out;have hnc25:=NB231_234.out;have hcz26_0:w13.cell? ⟨gb234,0,none⟩=some (.int .i64 0):=(qC BK234.out 0).trans rfl;have hcz26_1:w13.cell? ⟨gb234,1,none⟩=some (.int .i64 0):=(qC BK234.out 1).trans rfl;have hfz26_0:=qF BK234.out 0;have hfz26_1:=qF BK234.out 1;have hcz27_0:w13.cell? ⟨gb231,0,none⟩=some (.slice A0_0 l0_0.length c0_0):=(qC BK231.out 0).trans rfl;have hcz27_1:w13.cell? ⟨gb231,1,none⟩=some (.slice A0_1 l0_1.length c0_1):=(qC BK231.out 1).trans rfl;have hfz27_0:=qF BK231.out 0;have hfz27_1:=qF BK231.out 1;obtain ⟨Ao28,co28,eo28⟩:=Kd.R_slice HO_8.out;subst eo28;go_wp2_with (first|(go_at_call 82;(with_reducible refine (spec_l1Has.calls k1 _ _ x8_1 ((rd_T106 l1 x9_1).f0) true _ ?side1 ?side2 A23.out).mono ?_);(case side1=>refine (Kd.R_reads' (e:=3) (base:=w.heap.size) (ok:=fun k_=>True) (n:=x8_1.length) (c:=co28) ?_).2.2;exact (by (with_reducible repeat (first|apply rL|apply rN|apply rW));exact (Kd.R_mono (Kd.R_far (p:=⟨gb234,1,none⟩) (Kd.R_far (p:=⟨gb234,0,none⟩) (Kd.R_types HO_8.out BK234.out (by decide)) (fun _ hk=>hk.2) (.int .i64 ((rd_T106 l1 x9_1).f0))) (fun _ hk=>hk.2) (.int .i64 ((rd_T106 l1 x9_1).f1))) (fun _ h_=>h_.1))));(case side2=>exact (Kd.R_reads' HO_8.out).2.1);rintro e w' ⟨rfl,⟨nd,rfl⟩⟩))
           go_meet
           case rel=>exact ⟨_,(true),(by first|rfl|(simp;done)|(simp [*];done)),H',⟨by have:=HK1.out;first|omega|exact Nat.le_refl _⟩,⟨by (with_reducible repeat (first|apply rL|apply rN|apply rW));exact Kd.R_mono (Kd.R_far (p:=⟨gb234,1,none⟩) (Kd.R_far (p:=⟨gb234,0,none⟩) (Kd.R_types HO_8.out BK234.out (by decide)) (fun _ hk=>hk.2) (.int .i64 ((rd_T106 l1 x9_1).f0))) (fun _ hk=>hk.2) (.int .i64 ((rd_T106 l1 x9_1).f1))) (fun _ hk=>trivial)⟩,⟨by (with_reducible repeat (first|refine qN ?_ _|refine qW ?_|refine qL ?_ _));refine qR ?_ NB231_234.out _;(with_reducible repeat (first|refine qN ?_ _|refine qW ?_|refine qL ?_ _));refine qR ?_ NB231_234.out _;(with_reducible repeat (first|refine qN ?_ _|refine qW ?_|refine qL ?_ _));exact BK231.out⟩,⟨by (with_reducible repeat (first|refine qN ?_ _|refine qW ?_|refine qL ?_ _));refine qP (cs:=#[.int .i64 ((rd_T106 l1 x9_1).f0),.int .i64 0]) ?_ 1 _ rfl;(with_reducible repeat (first|refine qN ?_ _|refine qW ?_|refine qL ?_ _));refine qP (cs:=#[.int .i64 0,.int .i64 0]) ?_ 0 _ rfl;(with_reducible repeat (first|refine qN ?_ _|refine qW ?_|refine qL ?_ _));exact BK234.out⟩,⟨by repeat (first|(with_reducible first|exact HB.out|apply qA|apply qD|apply qO|refine qS ?_ GE231.out|refine qS ?_ GE234.out)|exact HB.out)⟩⟩
          ·replace c24:=Bool.eq_false_iff.mpr c24;subst c24;have H1:(spec_IsTree.j1 k1 l1 x8_1 x9_1 ((((rd_T106 l1 x9_1).f1) == (-1)) != (x9_1 == (wrap64 ((l1.length:Int) - 1)))) l0_0 l0_1 ((rd_T106 l1 x9_1).f0) ((rd_T106 l1 x9_1).f1))=some (r1,r2):=by rw [if_neg (show ¬ (false=true) by decide)] at H;exact H
           clear H;have H:=H1;clear H1;have H':=qK H;clear H;have hnb29:=NB234_231.out;have hnc29:=NB231_234.out;have hcz30_0:w13.cell? ⟨gb234,0,none⟩=some (.int .i64 0):=(qC BK234.out 0).trans rfl;have hcz30_1:w13.cell? ⟨gb234,1,none⟩=some (.int .i64 0):=(qC BK234.out 1).trans rfl;have hfz30_0:=qF BK234.out 0;have hfz30_1:=qF BK234.out 1;have hcz31_0:w13.cell? ⟨gb231,0,none⟩=some (.slice A0_0 l0_0.length c0_0):=(qC BK231.out 0).trans rfl;have hcz31_1:w13.cell? ⟨gb231,1,none⟩=some (.slice A0_1 l0_1.length c0_1):=(qC BK231.out 1).trans rfl;have hfz31_0:=qF BK231.out 0;have hfz31_1:=qF BK231.out 1;obtain ⟨Ao32,co32,eo32⟩:=Kd.R_slice HO_8.out;subst eo32;go_wp2_with (first|(go_at_call 82;(with_reducible refine (spec_l1Has.calls k1 _ _ x8_1 ((rd_T106 l1 x9_1).f0) false _ ?side1 ?side2 A23.out).mono ?_);(case side1=>refine (Kd.R_reads' (e:=3) (base:=w.heap.size) (ok:=fun k_=>True) (n:=x8_1.length) (c:=co32) ?_).2.2;exact (by (with_reducible repeat (first|apply rL|apply rN|apply rW));exact (Kd.R_mono (Kd.R_far (p:=⟨gb234,1,none⟩) (Kd.R_far (p:=⟨gb234,0,none⟩) (Kd.R_types HO_8.out BK234.out (by decide)) (fun _ hk=>hk.2) (.int .i64 ((rd_T106 l1 x9_1).f0))) (fun _ hk=>hk.2) (.int .i64 ((rd_T106 l1 x9_1).f1))) (fun _ h_=>h_.1))));(case side2=>exact (Kd.R_reads' HO_8.out).2.1);rintro e w' ⟨rfl,⟨nd,rfl⟩⟩))
           go_meet
           case rel=>exact ⟨_,(((((rd_T106 l1 x9_1).f1) == (-1)) != (x9_1 == (wrap64 ((l1.length:Int) - 1))))),(by first|rfl|(simp;done)|(simp [*];done)),H',⟨by have:=HK1.out;first|omega|exact Nat.le_refl _⟩,⟨by (with_reducible repeat (first|apply rL|apply rN|apply rW));exact Kd.R_mono (Kd.R_far (p:=⟨gb234,1,none⟩) (Kd.R_far (p:=⟨gb234,0,none⟩) (Kd.R_types HO_8.out BK234.out (by decide)) (fun _ hk=>hk.2) (.int .i64 ((rd_T106 l1 x9_1).f0))) (fun _ hk=>hk.2) (.int .i64 ((rd_T106 l1 x9_1).f1))) (fun _ hk=>trivial)⟩,⟨by (with_reducible repeat (first|refine qN ?_ _|refine qW ?_|refine qL ?_ _));refine qR ?_ NB231_234.out _;(with_reducible repeat (first|refine qN ?_ _|refine qW ?_|refine qL ?_ _));refine qR ?_ NB231_234.out _;(with_reducible repeat (first|refine qN ?_ _|refine qW ?_|refine qL ?_ _));exact BK231.out⟩,⟨by (with_reducible repeat (first|refine qN ?_ _|refine qW ?_|refine qL ?_ _));refine qP (cs:=#[.int .i64 ((rd_T106 l1 x9_1).f0),.int .i64 0]) ?_ 1 _ rfl;(with_reducible repeat (first|refine qN ?_ _|refine qW ?_|refine qL ?_ _));refine qP (cs:=#[.int .i64 0,.int .i64 0]) ?_ 0 _ rfl;(with_reducible repeat (first|refine qN ?_ _|refine qW ?_|refine qL ?_ _));exact BK234.out⟩,⟨by repeat (first|(with_reducible first|exact HB.out|apply qA|apply qD|apply qO|refine qS ?_ GE231.out|refine qS ?_ GE234.out)|exact HB.out)⟩⟩
       case rest =>
        clear HC12;try clear c1
        try clear c2
        try clear p2
        try clear q2
        try clear hx2
        try clear c5
        try clear p6
        try clear c7
        try clear c9
        try clear c9b0
        try clear c10
        try clear c10b0
        try clear c11
        try clear c11b0
        try clear c14
        try clear c16
        try clear c16b0
        try clear c17
        try clear c19
        try clear c19b0
        try clear c20
        try clear p23
        try clear q23
        try clear hx23
        try clear c24
        try clear c25
        try clear c27
        try clear c29
        try clear hcz15_0
        try clear hcz15_1
        try clear hcz18_0
        try clear hcz18_1
        try clear hcz21_0
        try clear hcz21_1
        try clear hcz22_0
        try clear hcz22_1
        try clear hcz26_0
        try clear hcz26_1
        try clear hcz27_0
        try clear hcz27_1
        try clear hcz30_0
        try clear hcz30_1
        try clear hcz31_0
        try clear hcz31_1
        try clear hcz7_0
        try clear hcz7_1
        try clear hfz15_0
        try clear hfz15_1
        try clear hfz18_0
        try clear hfz18_1
        try clear hfz21_0
        try clear hfz21_1
        try clear hfz22_0
        try clear hfz22_1
        try clear hfz26_0
        try clear hfz26_1
        try clear hfz27_0
        try clear hfz27_1
        try clear hfz30_0
        try clear hfz30_1
        try clear hfz31_0
        try clear hfz31_1
        try clear hfz7_0
        try clear hfz7_1
        try clear hx233_0
        try clear hx233_1
        try clear p2
        try clear p233
        try clear p6
        try clear q233
        obtain ⟨kq,x53_11,rfl,HA,HJ11,HO_8,BK231,BK234,HB⟩:=hcut;cases kq with
        | zero=>exact absurd HA.out (by simp [spec_IsTree.j1])
        | succ kj11 =>
         have H:=HA.out;clear HA;simp only [spec_IsTree.j1] at H;by_cases c33:x53_11=true
         ·subst c33;have H1:(some (false,true))=some (r1,r2):=by rw [if_pos rfl] at H;exact H
          clear H;have H:=H1;clear H1;simp only [Option.some.injEq,Prod.mk.injEq] at H;obtain ⟨rfl,rfl⟩:=H;go_wp2
          go_ret2
          exact ⟨by first|rfl|(simp [errW_none,errW_some] <;> rfl)|(simp [*,errW_none,errW_some] <;> rfl),by repeat (first|(with_reducible first|exact HB.out|apply qA|apply qD|apply qO|refine qS ?_ GE231.out|refine qS ?_ GE234.out)|exact HB.out)⟩
         ·replace c33:=Bool.eq_false_iff.mpr c33;subst c33;have H1:(if ((rd_T106 l1 x9_1).f1)=(-1) then (if x8_1.length < 17592186044416 then (spec_IsTree.l0 kj11 l1 (x8_1 ++ [((rd_T106 l1 x9_1).f0)]) (wrap64 (x9_1 - 1)) l0_0 l0_1) else (none)) else ((spec_l1Has.f kj11 x8_1 ((rd_T106 l1 x9_1).f1)).bind fun t239=>(if t239=true then (if 0≤((rd_T106 l1 x9_1).f1) then (if ((rd_T106 l1 x9_1).f1) < (l0_1.length:Int) then ((spec_l11Shared.f kj11 l0_0 l0_1 ((rd_T106 l1 x9_1).f0) x8_1).bind fun t241=>((spec_l7All.f kj11 ((rd_T97 l0_1 ((rd_T106 l1 x9_1).f1)).f1) t241).bind fun t244=>(if t244=true then (if x8_1.length < 17592186044416 then (spec_IsTree.l0 kj11 l1 (x8_1 ++ [((rd_T106 l1 x9_1).f0)]) (wrap64 (x9_1 - 1)) l0_0 l0_1) else (none)) else (some (false,true))))) else (none)) else (none)) else (some (false,true)))))=some (r1,r2):=by rw [if_neg (show ¬ (false=true) by decide)] at H;exact H
          clear H;have H:=H1;clear H1;by_cases c34:((rd_T106 l1 x9_1).f1)=(-1)
          ·rw [if_pos c34] at H;have c34b0:(((rd_T106 l1 x9_1).f1) == (-1))=true:=beq_iff_eq.mpr c34;have c34b1:(((rd_T106 l1 x9_1).f1) != (-1))=false:=bne_eq_false_iff_eq.mpr c34;clear c34;by_cases c35:x8_1.length < 17592186044416
           ·rw [if_pos c35] at H;have LMc35:=qK c35;clear c35;obtain ⟨y236,hy236⟩:∃ y_:List Int,y_=(x8_1 ++ [((rd_T106 l1 x9_1).f0)]):=⟨_,rfl⟩;replace H:(spec_IsTree.l0 kj11 l1 y236 (wrap64 (x9_1 - 1)) l0_0 l0_1)=some (r1,r2):=by first|(rw [hy236];with_reducible exact H)|(have H2_:=(Option.bind_some _ _).symm.trans H;rw [hy236];with_reducible exact H2_)|(have H2_:=(Option.bind_some _ _).symm.trans H;with_reducible exact H2_)|with_reducible exact H|(rw [hy236];exact H)|exact H
            have Ny236:=qK hy236;clear hy236;have H':=qK H;clear H;try go_wp2
            (try (rw [drewN_self wc];generalize hq_:World.drewN wc _=wc;have n0_:Aside0 (Kd.R (Kd.int .i64) 3 wc w.heap.size (fun _=>True) u8 x8_1):=⟨by rw [← hq_];exact (by (with_reducible repeat (first|apply rL|apply rN|apply rW));exact HO_8.out)⟩;have n1_:Aside0 (wc.heap[gb231]?=some (.cells #[.slice A0_0 l0_0.length c0_0,.slice A0_1 l0_1.length c0_1] 32 (0,0))):=⟨by rw [← hq_];exact (by (with_reducible repeat (first|refine qN ?_ _|refine qW ?_|refine qL ?_ _));exact BK231.out)⟩;have n2_:Aside0 (wc.heap[gb234]?=some (.cells #[.int .i64 ((rd_T106 l1 x9_1).f0),.int .i64 ((rd_T106 l1 x9_1).f1)] 106 (0,0))):=⟨by rw [← hq_];exact (by (with_reducible repeat (first|refine qN ?_ _|refine qW ?_|refine qL ?_ _));exact BK234.out)⟩;have n3_:Aside0 (Below w.heap.size w wc):=⟨by rw [← hq_];exact (by repeat (with_reducible first|exact HB.out|apply qA|apply qD|apply qO|refine qS ?_ GE231.out|refine qS ?_ GE234.out))⟩;clear HO_8 BK231 BK234 HB hq_;have HO_8:=n0_;have BK231:=n1_;have BK234:=n2_;have HB:=n3_;clear n0_ n1_ n2_ n3_));have n0_:=qK (rW HO_8.out);have n1_:=qK (qW BK231.out);have n2_:=qK (qW BK234.out);have n3_:=qK (qO HB.out);clear HO_8;clear BK231;clear BK234;clear HB;have HO_8:=n0_;have BK231:=n1_;have BK234:=n2_;have HB:=n3_;clear n0_ n1_ n2_ n3_;refine start_ (n:=26) (S:=fun w'=>w'.cell? ⟨gb234,0,none⟩=some (.int .i64 ((rd_T106 l1 x9_1).f0))∧w'.cell? ⟨gb234,1,none⟩=some (.int .i64 ((rd_T106 l1 x9_1).f1))) (ds:=[]) #[Z,Z,Z,Z,Z,Z,Z,Z,Z,Z,Z,Z,Z,Z,Z,Z,Z,Z,Z,Z,Z,Z,Z,Z,Z,Z] (by kernel_rfl) rfl rfl ⟨(qC BK234.out 0).trans rfl,(qC BK234.out 1).trans rfl⟩ (fun hHeld=>?_);refine with_tabW spec_IsTree.tab10 spec_IsTree.bits10 (fun HT_ HW_=>?_);generalize wc.drew=w36 at HO_8 BK231 BK234 HB hHeld ⊢
            refine pure_ (i:=0) (N:=some 54) (v:=?_) (a':=?_) #[Y,Z,Z,Z,Z,Z,Z,Z,Z,Z,Z,Z,Z,Z,Z,Z,Z,Z,Z,Z,Z,Z,Z,Z,Z,Z] rfl rfl (any_of HT_.out (by kernel_rfl)) (fun _ _ _ h=>h) (Or.inl ⟨by rfl,?_⟩) ?_ ?_;rotate_left
            ·intro w';go_simp;with_reducible rfl
            rotate_left
            ·simp only [Act.put,sIb,sZ,sS,i64_w,i32_w];rfl
            refine take_ (i:=1) (N:=some 55) (v:=?_) (a':=?_) #[Y,Y,Z,Z,Z,Z,Z,Z,Z,Z,Z,Z,Z,Z,Z,Z,Z,Z,Z,Z,Z,Z,Z,Z,Z,Z] rfl rfl (take_ofW HT_.out HW_.out (by kernel_rfl)) (fun _ _ _ h=>h) (Or.inl ⟨by rfl,?_⟩) hHeld ?_ ?_;rotate_left
            ·rintro w' ⟨s0,s1⟩;go_simp;with_reducible rfl
            rotate_left
            ·simp only [Act.put,sIb,sZ,sS,i64_w,i32_w];rfl
            refine pure_ (i:=2) (N:=some 56) (v:=?_) (a':=?_) #[Y,Y,Y,Z,Z,Z,Z,Z,Z,Z,Z,Z,Z,Z,Z,Z,Z,Z,Z,Z,Z,Z,Z,Z,Z,Z] rfl rfl (any_of HT_.out (by kernel_rfl)) (fun _ _ _ h=>h) (Or.inl ⟨by rfl,?_⟩) ?_ ?_;rotate_left
            ·intro w';go_simp;with_reducible rfl
            rotate_left
            ·simp only [Act.put,sIb,sZ,sS,i64_w,i32_w];rfl
            refine pure_ (i:=3) (N:=some 57) (v:=?_) (a':=?_) #[Y,Y,Y,Y,Z,Z,Z,Z,Z,Z,Z,Z,Z,Z,Z,Z,Z,Z,Z,Z,Z,Z,Z,Z,Z,Z] rfl rfl (any_of HT_.out (by kernel_rfl)) (fun _ _ _ h=>h) (Or.inl ⟨by rfl,?_⟩) ?_ ?_;rotate_left
            ·intro w';go_simp;with_reducible rfl
            rotate_left
            ·simp only [Act.put,sIb,sZ,sS,i64_w,i32_w];rfl
            refine pure_ (i:=4) (N:=some 58) (v:=undef) (a':=?_) #[Y,Y,Y,Y,Y,Z,Z,Z,Z,Z,Z,Z,Z,Z,Z,Z,Z,Z,Z,Z,Z,Z,Z,Z,Z,Z] rfl rfl (any_of HT_.out (by kernel_rfl)) (fun _ _ _ h=>h) (Or.inr ⟨by rfl,rfl⟩) ?_ ?_;rotate_left
            ·simp only [Act.put,sIb,sZ,sS,i64_w,i32_w];rfl
            refine pure_ (i:=5) (N:=some 59) (v:=undef) (a':=?_) #[Y,Y,Y,Y,Y,Y,Z,Z,Z,Z,Z,Z,Z,Z,Z,Z,Z,Z,Z,Z,Z,Z,Z,Z,Z,Z] rfl rfl (any_of HT_.out (by kernel_rfl)) (fun _ _ _ h=>h) (Or.inr ⟨by rfl,rfl⟩) ?_ ?_;rotate_left
            ·simp only [Act.put,sIb,sZ,sS,i64_w,i32_w];rfl
            refine pure_ (i:=6) (N:=some 60) (v:=undef) (a':=?_) #[Y,Y,Y,Y,Y,Y,Y,Z,Z,Z,Z,Z,Z,Z,Z,Z,Z,Z,Z,Z,Z,Z,Z,Z,Z,Z] rfl rfl (any_of HT_.out (by kernel_rfl)) (fun _ _ _ h=>h) (Or.inr ⟨by rfl,rfl⟩) ?_ ?_;rotate_left
            ·simp only [Act.put,sIb,sZ,sS,i64_w,i32_w];rfl
            refine pure_ (i:=7) (N:=some 61) (v:=undef) (a':=?_) #[Y,Y,Y,Y,Y,Y,Y,Y,Z,Z,Z,Z,Z,Z,Z,Z,Z,Z,Z,Z,Z,Z,Z,Z,Z,Z] rfl rfl (any_of HT_.out (by kernel_rfl)) (fun _ _ _ h=>h) (Or.inr ⟨by rfl,rfl⟩) ?_ ?_;rotate_left
            ·simp only [Act.put,sIb,sZ,sS,i64_w,i32_w];rfl
            refine pure_ (i:=8) (N:=some 62) (v:=undef) (a':=?_) #[Y,Y,Y,Y,Y,Y,Y,Y,Y,Z,Z,Z,Z,Z,Z,Z,Z,Z,Z,Z,Z,Z,Z,Z,Z,Z] rfl rfl (any_of HT_.out (by kernel_rfl)) (fun _ _ _ h=>h) (Or.inr ⟨by rfl,rfl⟩) ?_ ?_;rotate_left
            ·simp only [Act.put,sIb,sZ,sS,i64_w,i32_w];rfl
            refine pure_ (i:=9) (N:=some 63) (v:=undef) (a':=?_) #[Y,Y,Y,Y,Y,Y,Y,Y,Y,Y,Z,Z,Z,Z,Z,Z,Z,Z,Z,Z,Z,Z,Z,Z,Z,Z] rfl rfl (any_of HT_.out (by kernel_rfl)) (fun _ _ _ h=>h) (Or.inr ⟨by rfl,rfl⟩) ?_ ?_;rotate_left
            ·simp only [Act.put,sIb,sZ,sS,i64_w,i32_w];rfl
            refine pure_ (i:=10) (N:=some 64) (v:=undef) (a':=?_) #[Y,Y,Y,Y,Y,Y,Y,Y,Y,Y,Y,Z,Z,Z,Z,Z,Z,Z,Z,Z,Z,Z,Z,Z,Z,Z] rfl rfl (any_of HT_.out (by kernel_rfl)) (fun _ _ _ h=>h) (Or.inr ⟨by rfl,rfl⟩) ?_ ?_;rotate_left
            ·simp only [Act.put,sIb,sZ,sS,i64_w,i32_w];rfl
            refine pure_ (i:=11) (N:=some 65) (v:=undef) (a':=?_) #[Y,Y,Y,Y,Y,Y,Y,Y,Y,Y,Y,Y,Z,Z,Z,Z,Z,Z,Z,Z,Z,Z,Z,Z,Z,Z] rfl rfl (any_of HT_.out (by kernel_rfl)) (fun _ _ _ h=>h) (Or.inr ⟨by rfl,rfl⟩) ?_ ?_;rotate_left
            ·simp only [Act.put,sIb,sZ,sS,i64_w,i32_w];rfl
            refine pure_ (i:=12) (N:=some 66) (v:=undef) (a':=?_) #[Y,Y,Y,Y,Y,Y,Y,Y,Y,Y,Y,Y,Y,Z,Z,Z,Z,Z,Z,Z,Z,Z,Z,Z,Z,Z] rfl rfl (any_of HT_.out (by kernel_rfl)) (fun _ _ _ h=>h) (Or.inr ⟨by rfl,rfl⟩) ?_ ?_;rotate_left
            ·simp only [Act.put,sIb,sZ,sS,i64_w,i32_w];rfl
            refine pure_ (i:=13) (N:=some 67) (v:=undef) (a':=?_) #[Y,Y,Y,Y,Y,Y,Y,Y,Y,Y,Y,Y,Y,Y,Z,Z,Z,Z,Z,Z,Z,Z,Z,Z,Z,Z] rfl rfl (any_of HT_.out (by kernel_rfl)) (fun _ _ _ h=>h) (Or.inr ⟨by rfl,rfl⟩) ?_ ?_;rotate_left
            ·simp only [Act.put,sIb,sZ,sS,i64_w,i32_w];rfl
            refine pure_ (i:=14) (N:=some 68) (v:=undef) (a':=?_) #[Y,Y,Y,Y,Y,Y,Y,Y,Y,Y,Y,Y,Y,Y,Y,Z,Z,Z,Z,Z,Z,Z,Z,Z,Z,Z] rfl rfl (any_of HT_.out (by kernel_rfl)) (fun _ _ _ h=>h) (Or.inr ⟨by rfl,rfl⟩) ?_ ?_;rotate_left
            ·simp only [Act.put,sIb,sZ,sS,i64_w,i32_w];rfl
            refine pure_ (i:=15) (N:=some 69) (v:=undef) (a':=?_) #[Y,Y,Y,Y,Y,Y,Y,Y,Y,Y,Y,Y,Y,Y,Y,Y,Z,Z,Z,Z,Z,Z,Z,Z,Z,Z] rfl rfl (any_of HT_.out (by kernel_rfl)) (fun _ _ _ h=>h) (Or.inr ⟨by rfl,rfl⟩) ?_ ?_;rotate_left
            ·simp only [Act.put,sIb,sZ,sS,i64_w,i32_w];rfl
            refine pure_ (i:=16) (N:=some 70) (v:=undef) (a':=?_) #[Y,Y,Y,Y,Y,Y,Y,Y,Y,Y,Y,Y,Y,Y,Y,Y,Y,Z,Z,Z,Z,Z,Z,Z,Z,Z] rfl rfl (any_of HT_.out (by kernel_rfl)) (fun _ _ _ h=>h) (Or.inr ⟨by rfl,rfl⟩) ?_ ?_;rotate_left
            ·simp only [Act.put,sIb,sZ,sS,i64_w,i32_w];rfl
            refine pure_ (i:=17) (N:=some 71) (v:=undef) (a':=?_) #[Y,Y,Y,Y,Y,Y,Y,Y,Y,Y,Y,Y,Y,Y,Y,Y,Y,Y,Z,Z,Z,Z,Z,Z,Z,Z] rfl rfl (any_of HT_.out (by kernel_rfl)) (fun _ _ _ h=>h) (Or.inr ⟨by rfl,rfl⟩) ?_ ?_;rotate_left
            ·simp only [Act.put,sIb,sZ,sS,i64_w,i32_w];rfl
            refine pure_ (i:=18) (N:=some 72) (v:=undef) (a':=?_) #[Y,Y,Y,Y,Y,Y,Y,Y,Y,Y,Y,Y,Y,Y,Y,Y,Y,Y,Y,Z,Z,Z,Z,Z,Z,Z] rfl rfl (any_of HT_.out (by kernel_rfl)) (fun _ _ _ h=>h) (Or.inr ⟨by rfl,rfl⟩) ?_ ?_;rotate_left
            ·simp only [Act.put,sIb,sZ,sS,i64_w,i32_w];rfl
            refine pure_ (i:=19) (N:=some 73) (v:=undef) (a':=?_) #[Y,Y,Y,Y,Y,Y,Y,Y,Y,Y,Y,Y,Y,Y,Y,Y,Y,Y,Y,Y,Z,Z,Z,Z,Z,Z] rfl rfl (any_of HT_.out (by kernel_rfl)) (fun _ _ _ h=>h) (Or.inr ⟨by rfl,rfl⟩) ?_ ?_;rotate_left
            ·simp only [Act.put,sIb,sZ,sS,i64_w,i32_w];rfl
            refine pure_ (i:=20) (N:=some 74) (v:=undef) (a':=?_) #[Y,Y,Y,Y,Y,Y,Y,Y,Y,Y,Y,Y,Y,Y,Y,Y,Y,Y,Y,Y,Y,Z,Z,Z,Z,Z] rfl rfl (any_of HT_.out (by kernel_rfl)) (fun _ _ _ h=>h) (Or.inr ⟨by rfl,rfl⟩) ?_ ?_;rotate_left
            ·simp only [Act.put,sIb,sZ,sS,i64_w,i32_w];rfl
            refine pure_ (i:=21) (N:=some 75) (v:=undef) (a':=?_) #[Y,Y,Y,Y,Y,Y,Y,Y,Y,Y,Y,Y,Y,Y,Y,Y,Y,Y,Y,Y,Y,Y,Z,Z,Z,Z] rfl rfl (any_of HT_.out (by kernel_rfl)) (fun _ _ _ h=>h) (Or.inr ⟨by rfl,rfl⟩) ?_ ?_;rotate_left
            ·simp only [Act.put,sIb,sZ,sS,i64_w,i32_w];rfl
            refine pure_ (i:=22) (N:=some 76) (v:=undef) (a':=?_) #[Y,Y,Y,Y,Y,Y,Y,Y,Y,Y,Y,Y,Y,Y,Y,Y,Y,Y,Y,Y,Y,Y,Y,Z,Z,Z] rfl rfl (any_of HT_.out (by kernel_rfl)) (fun _ _ _ h=>h) (Or.inr ⟨by rfl,rfl⟩) ?_ ?_;rotate_left
            ·simp only [Act.put,sIb,sZ,sS,i64_w,i32_w];rfl
            refine pure_ (i:=23) (N:=some 77) (v:=undef) (a':=?_) #[Y,Y,Y,Y,Y,Y,Y,Y,Y,Y,Y,Y,Y,Y,Y,Y,Y,Y,Y,Y,Y,Y,Y,Y,Z,Z] rfl rfl (any_of HT_.out (by kernel_rfl)) (fun _ _ _ h=>h) (Or.inr ⟨by rfl,rfl⟩) ?_ ?_;rotate_left
            ·simp only [Act.put,sIb,sZ,sS,i64_w,i32_w];rfl
            refine pure_ (i:=24) (N:=some 78) (v:=undef) (a':=?_) #[Y,Y,Y,Y,Y,Y,Y,Y,Y,Y,Y,Y,Y,Y,Y,Y,Y,Y,Y,Y,Y,Y,Y,Y,Y,Z] rfl rfl (any_of HT_.out (by kernel_rfl)) (fun _ _ _ h=>h) (Or.inr ⟨by rfl,rfl⟩) ?_ ?_;rotate_left
            ·simp only [Act.put,sIb,sZ,sS,i64_w,i32_w];rfl
            refine pure_ (i:=25) (N:=some 79) (v:=?_) (a':=?_) #[Y,Y,Y,Y,Y,Y,Y,Y,Y,Y,Y,Y,Y,Y,Y,Y,Y,Y,Y,Y,Y,Y,Y,Y,Y,Y] rfl rfl (any_of HT_.out (by kernel_rfl)) (fun _ _ _ h=>h) (Or.inl ⟨by rfl,?_⟩) ?_ ?_;rotate_left
            ·intro w';go_simp;with_reducible rfl
            rotate_left
            ·simp only [Act.put,sIb,sZ,sS,i64_w,i32_w];rfl
            refine done_ (done_of HT_.out (by kernel_rfl)) ?_;have hnb37:=NB234_231.out;have hnc37:=NB231_234.out;have hcz38_0:w36.cell? ⟨gb234,0,none⟩=some (.int .i64 ((rd_T106 l1 x9_1).f0)):=(qC BK234.out 0).trans rfl;have hcz38_1:w36.cell? ⟨gb234,1,none⟩=some (.int .i64 ((rd_T106 l1 x9_1).f1)):=(qC BK234.out 1).trans rfl;have hfz38_0:=qF BK234.out 0;have hfz38_1:=qF BK234.out 1;try go_wp2_with (first|((with_reducible refine gate_builtin (b:=.append) (xs:=#[.tmp 80,.tmp 83]) rfl ?_);(try (refine gate_guard (by rfl) ?_;dsimp only));at_builtin;refine Kd.R_append (Kd.int .i64) (w0:=w) w.heap.size rfl (.tmp 80) (.tmp 83) 22 3 (.int .i64 0) 8 rfl Try.underlying22 info3 rfl (by decide) (by omega) u8 x8_1 ((rd_T106 l1 x9_1).f0) [.int .i64 ((rd_T106 l1 x9_1).f0)] (fun _=>True) (fun _=>False) rfl rfl ?aP (fun _ hk=>hk.elim) ?aF ?aO ?aB ?aS ?aL ?_;(case aP=>exact rfl);(case aB=>exact (by repeat (with_reducible first|exact HB.out|apply qA|apply qD|apply qO|refine qS ?_ GE231.out|refine qS ?_ GE234.out)));(case aF=>exact (fun _ _=>trivial));(case aO=>exact (by (with_reducible repeat (first|apply rL|apply rN|apply rW));exact HO_8.out));(case aS=>exact (qZ (by repeat (with_reducible first|exact HB.out|apply qA|apply qD|apply qO|refine qS ?_ GE231.out|refine qS ?_ GE234.out))));(case aL=>have:=LMc35.out;omega);intro v237 w39 ho hb hg hat;rw [← Ny236.out] at ho;have n0_:=qK (blk_grown (g:=gb231) (o:=_) (by (with_reducible repeat (first|refine qN ?_ _|refine qW ?_|refine qL ?_ _));exact BK231.out) hg (Kd.R_ne HO_8.out BK231.out (by decide)));have n1_:=qK (blk_grown (g:=gb234) (o:=_) (by (with_reducible repeat (first|refine qN ?_ _|refine qW ?_|refine qL ?_ _));exact BK234.out) hg (Kd.R_ne HO_8.out BK234.out (by decide)));have n2_:=qK (hb);have n3_:=qK (ho);clear BK231;clear BK234;clear HB;clear HO_8;have BK231:=n0_;have BK234:=n1_;have HB:=n2_;have HO238:=n3_;clear n0_ n1_ n2_ n3_;clear ho hb hg hat))
            go_roundg kj11
            case measure=>have:=HK1.out;have:=HJ11.out;omega
            case rel=>exact ⟨(y236),(wrap64 (x9_1 - 1)),(by first|rfl|(simp;done)|(simp [*];done)),H',⟨by have:=HK1.out;have:=HJ11.out;omega⟩,⟨by (with_reducible repeat (first|apply rL|apply rN|apply rW));exact HO238.out⟩,⟨by (with_reducible repeat (first|refine qN ?_ _|refine qW ?_|refine qL ?_ _));exact BK231.out⟩,⟨by repeat (first|(with_reducible first|exact HB.out|apply qA|apply qD|apply qO|refine qS ?_ GE231.out|refine qS ?_ GE234.out)|exact HB.out)⟩⟩
           ·rw [if_neg c35] at H;exact absurd H (by simp)
          ·rw [if_neg c34] at H;have c34b0:(((rd_T106 l1 x9_1).f1) == (-1))=false:=beq_eq_false_iff_ne.mpr c34;have c34b1:(((rd_T106 l1 x9_1).f1) != (-1))=true:=bne_iff_ne.mpr c34;replace H:=Option.bind_eq_some_iff.mp H;obtain ⟨t239,A400,H⟩:=H;replace H:(if t239=true then (if 0≤((rd_T106 l1 x9_1).f1) then (if ((rd_T106 l1 x9_1).f1) < (l0_1.length:Int) then ((spec_l11Shared.f kj11 l0_0 l0_1 ((rd_T106 l1 x9_1).f0) x8_1).bind fun t241=>((spec_l7All.f kj11 ((rd_T97 l0_1 ((rd_T106 l1 x9_1).f1)).f1) t241).bind fun t244=>(if t244=true then (if x8_1.length < 17592186044416 then (spec_IsTree.l0 kj11 l1 (x8_1 ++ [((rd_T106 l1 x9_1).f0)]) (wrap64 (x9_1 - 1)) l0_0 l0_1) else (none)) else (some (false,true))))) else (none)) else (none)) else (some (false,true)))=some (r1,r2):=H;have A40:=qK A400;clear A400;by_cases c41:t239=true
           ·subst c41;have H1:(if 0≤((rd_T106 l1 x9_1).f1) then (if ((rd_T106 l1 x9_1).f1) < (l0_1.length:Int) then ((spec_l11Shared.f kj11 l0_0 l0_1 ((rd_T106 l1 x9_1).f0) x8_1).bind fun t241=>((spec_l7All.f kj11 ((rd_T97 l0_1 ((rd_T106 l1 x9_1).f1)).f1) t241).bind fun t244=>(if t244=true then (if x8_1.length < 17592186044416 then (spec_IsTree.l0 kj11 l1 (x8_1 ++ [((rd_T106 l1 x9_1).f0)]) (wrap64 (x9_1 - 1)) l0_0 l0_1) else (none)) else (some (false,true))))) else (none)) else (none))=some (r1,r2):=by rw [if_pos rfl] at H;exact H
            clear H;have H:=H1;clear H1;by_cases c42:0≤((rd_T106 l1 x9_1).f1)
            ·rw [if_pos c42] at H;have c42b0:decide (0≤((rd_T106 l1 x9_1).f1))=true:=decide_eq_true c42;clear c42;by_cases c43:((rd_T106 l1 x9_1).f1) < (l0_1.length:Int)
             ·rw [if_pos c43] at H;have c43b0:decide (((rd_T106 l1 x9_1).f1) < (l0_1.length:Int))=true:=decide_eq_true c43;clear c43;replace H:=Option.bind_eq_some_iff.mp H;obtain ⟨t241,A440,H⟩:=H;replace H:((spec_l7All.f kj11 ((rd_T97 l0_1 ((rd_T106 l1 x9_1).f1)).f1) t241).bind fun t244=>(if t244=true then (if x8_1.length < 17592186044416 then (spec_IsTree.l0 kj11 l1 (x8_1 ++ [((rd_T106 l1 x9_1).f0)]) (wrap64 (x9_1 - 1)) l0_0 l0_1) else (none)) else (some (false,true))))=some (r1,r2):=H;have A44:=qK A440;clear A440;replace H:=Option.bind_eq_some_iff.mp H;obtain ⟨t244,A450,H⟩:=H;replace H:(if t244=true then (if x8_1.length < 17592186044416 then (spec_IsTree.l0 kj11 l1 (x8_1 ++ [((rd_T106 l1 x9_1).f0)]) (wrap64 (x9_1 - 1)) l0_0 l0_1) else (none)) else (some (false,true)))=some (r1,r2):=H;have A45:=qK A450;clear A450;by_cases c46:t244=true
              ·subst c46;have H1:(if x8_1.length < 17592186044416 then (spec_IsTree.l0 kj11 l1 (x8_1 ++ [((rd_T106 l1 x9_1).f0)]) (wrap64 (x9_1 - 1)) l0_0 l0_1) else (none))=some (r1,r2):=by rw [if_pos rfl] at H;exact H
               clear H;have H:=H1;clear H1;by_cases c47:x8_1.length < 17592186044416
               ·rw [if_pos c47] at H;have LMc47:=qK c47;clear c47;obtain ⟨y245,hy245⟩:∃ y_:List Int,y_=(x8_1 ++ [((rd_T106 l1 x9_1).f0)]):=⟨_,rfl⟩;replace H:(spec_IsTree.l0 kj11 l1 y245 (wrap64 (x9_1 - 1)) l0_0 l0_1)=some (r1,r2):=by first|(rw [hy245];with_reducible exact H)|(have H2_:=(Option.bind_some _ _).symm.trans H;rw [hy245];with_reducible exact H2_)|(have H2_:=(Option.bind_some _ _).symm.trans H;with_reducible exact H2_)|with_reducible exact H|(rw [hy245];exact H)|exact H
                have Ny245:=qK hy245;clear hy245;have H':=qK H;clear H;try go_wp2
                (try (rw [drewN_self wc];generalize hq_:World.drewN wc _=wc;have n0_:Aside0 (Kd.R (Kd.int .i64) 3 wc w.heap.size (fun _=>True) u8 x8_1):=⟨by rw [← hq_];exact (by (with_reducible repeat (first|apply rL|apply rN|apply rW));exact HO_8.out)⟩;have n1_:Aside0 (wc.heap[gb231]?=some (.cells #[.slice A0_0 l0_0.length c0_0,.slice A0_1 l0_1.length c0_1] 32 (0,0))):=⟨by rw [← hq_];exact (by (with_reducible repeat (first|refine qN ?_ _|refine qW ?_|refine qL ?_ _));exact BK231.out)⟩;have n2_:Aside0 (wc.heap[gb234]?=some (.cells #[.int .i64 ((rd_T106 l1 x9_1).f0),.int .i64 ((rd_T106 l1 x9_1).f1)] 106 (0,0))):=⟨by rw [← hq_];exact (by (with_reducible repeat (first|refine qN ?_ _|refine qW ?_|refine qL ?_ _));exact BK234.out)⟩;have n3_:Aside0 (Below w.heap.size w wc):=⟨by rw [← hq_];exact (by repeat (with_reducible first|exact HB.out|apply qA|apply qD|apply qO|refine qS ?_ GE231.out|refine qS ?_ GE234.out))⟩;clear HO_8 BK231 BK234 HB hq_;have HO_8:=n0_;have BK231:=n1_;have BK234:=n2_;have HB:=n3_;clear n0_ n1_ n2_ n3_));have n0_:=qK (rW HO_8.out);have n1_:=qK (qW BK231.out);have n2_:=qK (qW BK234.out);have n3_:=qK (qO HB.out);clear HO_8;clear BK231;clear BK234;clear HB;have HO_8:=n0_;have BK231:=n1_;have BK234:=n2_;have HB:=n3_;clear n0_ n1_ n2_ n3_;obtain ⟨Ao49,co49,eo49⟩:=Kd.R_slice HO_8.out;(first|subst eo49|(injection eo49 with f1_ f2_ f3_;have f4_:=f1_.symm;have f5_:=f3_.symm;clear f1_ f2_ f3_;subst f4_;subst f5_));have p240:0≤(((rd_T106 l1 x9_1).f1):Int):=of_decide_eq_true (by first|(with_reducible assumption)|assumption);have q240:((rd_T106 l1 x9_1).f1) < (l0_1.length:Int):=of_decide_eq_true (by first|(with_reducible assumption)|assumption);obtain ⟨ad240,A240_1,c240_1,e240,hx240_0,hx240_1,hl240_1,hi240_1⟩:=at_T97 HR0_1.out ((rd_T106 l1 x9_1).f1) p240 q240;have hw240_1:=hx240_1;have hw240_0:=hx240_0;cases e240
                replace hx240_0:=(HB.out.cell (World.block_lt_of_cell? w _ hx240_0)).trans hx240_0;replace hx240_1:=(HB.out.cell (World.block_lt_of_cell? w _ hx240_1)).trans hx240_1;have HR240_1:=qK hi240_1;have HC240_1:=qK hl240_1;clear hi240_1 hl240_1;replace p240:=eq_true p240;replace q240:=eq_true q240;refine start_ (n:=26) (S:=fun w'=>w'.cell? ⟨gb234,0,none⟩=some (.int .i64 ((rd_T106 l1 x9_1).f0))∧w'.cell? ⟨gb234,1,none⟩=some (.int .i64 ((rd_T106 l1 x9_1).f1))∧w'.cell? ⟨gb231,0,none⟩=some (.slice A0_0 l0_0.length c0_0)∧w'.cell? ⟨gb231,1,none⟩=some (.slice (some ad240) l0_1.length c0_1)∧w'.cell? (ad240.add ((((rd_T106 l1 x9_1).f1)).toNat * 2))=some (.int .i64 ((rd_T97 l0_1 ((rd_T106 l1 x9_1).f1)).f0))∧w'.cell? ⟨(ad240.add ((((rd_T106 l1 x9_1).f1)).toNat * 2)).block,(ad240.add ((((rd_T106 l1 x9_1).f1)).toNat * 2)).off + 1,none⟩=some (.slice A240_1 ((rd_T97 l0_1 ((rd_T106 l1 x9_1).f1)).f1).length c240_1)) (ds:=[]) #[Z,Z,Z,Z,Z,Z,Z,Z,Z,Z,Z,Z,Z,Z,Z,Z,Z,Z,Z,Z,Z,Z,Z,Z,Z,Z] (by kernel_rfl) rfl rfl ⟨(qC BK234.out 0).trans rfl,(qC BK234.out 1).trans rfl,(qC BK231.out 0).trans rfl,(qC BK231.out 1).trans rfl,((HB.out.cell (World.block_lt_of_cell? w _ hw240_0)).trans hw240_0),((HB.out.cell (World.block_lt_of_cell? w _ hw240_1)).trans hw240_1)⟩ (fun hHeld=>?_);refine with_tabW spec_IsTree.tab10 spec_IsTree.bits10 (fun HT_ HW_=>?_);generalize wc.drew=w48 at HO_8 BK231 BK234 HB HR240_1 hx240_0 hx240_1 hHeld ⊢
                refine pure_ (i:=0) (N:=some 54) (v:=?_) (a':=?_) #[Y,Z,Z,Z,Z,Z,Z,Z,Z,Z,Z,Z,Z,Z,Z,Z,Z,Z,Z,Z,Z,Z,Z,Z,Z,Z] rfl rfl (any_of HT_.out (by kernel_rfl)) (fun _ _ _ h=>h) (Or.inl ⟨by rfl,?_⟩) ?_ ?_;rotate_left
                ·intro w';go_simp;with_reducible rfl
                rotate_left
                ·simp only [Act.put,sIb,sZ,sS,i64_w,i32_w];rfl
                refine take_ (i:=1) (N:=some 55) (v:=?_) (a':=?_) #[Y,Y,Z,Z,Z,Z,Z,Z,Z,Z,Z,Z,Z,Z,Z,Z,Z,Z,Z,Z,Z,Z,Z,Z,Z,Z] rfl rfl (take_ofW HT_.out HW_.out (by kernel_rfl)) (fun _ _ _ h=>h) (Or.inl ⟨by rfl,?_⟩) hHeld ?_ ?_;rotate_left
                ·rintro w' ⟨s0,s1,s2,s3,s4,s5⟩;go_simp;with_reducible rfl
                rotate_left
                ·simp only [Act.put,sIb,sZ,sS,i64_w,i32_w];rfl
                refine pure_ (i:=2) (N:=some 56) (v:=?_) (a':=?_) #[Y,Y,Y,Z,Z,Z,Z,Z,Z,Z,Z,Z,Z,Z,Z,Z,Z,Z,Z,Z,Z,Z,Z,Z,Z,Z] rfl rfl (any_of HT_.out (by kernel_rfl)) (fun _ _ _ h=>h) (Or.inl ⟨by rfl,?_⟩) ?_ ?_;rotate_left
                ·intro w';go_simp;with_reducible rfl
                rotate_left
                ·simp only [Act.put,sIb,sZ,sS,i64_w,i32_w];rfl
                refine pure_ (i:=3) (N:=some 57) (v:=?_) (a':=?_) #[Y,Y,Y,Y,Z,Z,Z,Z,Z,Z,Z,Z,Z,Z,Z,Z,Z,Z,Z,Z,Z,Z,Z,Z,Z,Z] rfl rfl (any_of HT_.out (by kernel_rfl)) (fun _ _ _ h=>h) (Or.inl ⟨by rfl,?_⟩) ?_ ?_;rotate_left
                ·intro w';go_simp;with_reducible rfl
                rotate_left
                ·simp only [Act.put,sIb,sZ,sS,i64_w,i32_w];rfl
                refine pure_ (i:=4) (N:=some 58) (v:=?_) (a':=?_) #[Y,Y,Y,Y,Y,Z,Z,Z,Z,Z,Z,Z,Z,Z,Z,Z,Z,Z,Z,Z,Z,Z,Z,Z,Z,Z] rfl rfl (any_of HT_.out (by kernel_rfl)) (fun _ _ _ h=>h) (Or.inl ⟨by rfl,?_⟩) ?_ ?_;rotate_left
                ·intro w';go_simp;with_reducible rfl
                rotate_left
                ·simp only [Act.put,sIb,sZ,sS,i64_w,i32_w];rfl
                refine pure_ (i:=5) (N:=some 59) (v:=?_) (a':=?_) #[Y,Y,Y,Y,Y,Y,Z,Z,Z,Z,Z,Z,Z,Z,Z,Z,Z,Z,Z,Z,Z,Z,Z,Z,Z,Z] rfl rfl (any_of HT_.out (by kernel_rfl)) (fun _ _ _ h=>h) (Or.inl ⟨by rfl,?_⟩) ?_ ?_;rotate_left
                ·intro w';go_simp;with_reducible rfl
                rotate_left
                ·simp only [Act.put,sIb,sZ,sS,i64_w,i32_w];rfl
                refine take_ (i:=6) (N:=some 60) (v:=?_) (a':=?_) #[Y,Y,Y,Y,Y,Y,Y,Z,Z,Z,Z,Z,Z,Z,Z,Z,Z,Z,Z,Z,Z,Z,Z,Z,Z,Z] rfl rfl (take_ofW HT_.out HW_.out (by kernel_rfl)) (fun _ _ _ h=>h) (Or.inl ⟨by rfl,?_⟩) hHeld ?_ ?_;rotate_left
                ·rintro w' ⟨s0,s1,s2,s3,s4,s5⟩;go_simp;with_reducible rfl
                rotate_left
                ·simp only [Act.put,sIb,sZ,sS,i64_w,i32_w];rfl
                refine one_ (i:=7) (N:=some 61) #[Y,Y,Y,Y,Y,Y,Y,Y,Z,Z,Z,Z,Z,Z,Z,Z,Z,Z,Z,Z,Z,Z,Z,Z,Z,Z] rfl rfl (one_of HT_.out (by kernel_rfl)) (by decide) (fun K hK=>?_);refine goes_ Try.func82 (by kernel_rfl) rfl #[.slice Ao49 x8_1.length co49,.int .i64 ((rd_T106 l1 x9_1).f1)] (by rfl) rfl rfl (by (try simp only [mT,mC,mN]);first|done|rfl|(simp only [lD,lT];rfl)) ?_;with_reducible refine (spec_l1Has.calls kj11 _ _ x8_1 ((rd_T106 l1 x9_1).f1) true _ ?side1 ?side2 A40.out).mono ?_
                (case side1=>repeat (first|exact (Kd.R_reads' HO_8.out).2.2|(with_reducible first|refine cL ?_ _|refine cN ?_ _|refine cW ?_)));(case side2=>exact (Kd.R_reads' HO_8.out).2.1);rintro e w' ⟨rfl,⟨nd,rfl⟩⟩;refine ⟨_,rfl,?_⟩;refine hK.out _ _ ⟨(qC BK234.out 0).trans rfl,(qC BK234.out 1).trans rfl,(qC BK231.out 0).trans rfl,(qC BK231.out 1).trans rfl,((HB.out.cell (World.block_lt_of_cell? w _ hw240_0)).trans hw240_0),((HB.out.cell (World.block_lt_of_cell? w _ hw240_1)).trans hw240_1)⟩ (fun hHeld=>?_);clear hK K;refine norm_ (a':=?_) ?_ ?_;rotate_left
                ·show Act.put _ (some 61) _=_
                 simp only [Act.put,sIb,sZ,sS,i64_w,i32_w];rfl
                refine pure_ (i:=8) (N:=some 62) (v:=?_) (a':=?_) #[Y,Y,Y,Y,Y,Y,Y,Y,Y,Z,Z,Z,Z,Z,Z,Z,Z,Z,Z,Z,Z,Z,Z,Z,Z,Z] rfl rfl (any_of HT_.out (by kernel_rfl)) (fun _ _ _ h=>h) (Or.inl ⟨by rfl,?_⟩) ?_ ?_;rotate_left
                ·intro w';go_simp;with_reducible rfl
                rotate_left
                ·simp only [Act.put,sIb,sZ,sS,i64_w,i32_w];rfl
                refine pure_ (i:=9) (N:=some 63) (v:=?_) (a':=?_) #[Y,Y,Y,Y,Y,Y,Y,Y,Y,Y,Z,Z,Z,Z,Z,Z,Z,Z,Z,Z,Z,Z,Z,Z,Z,Z] rfl rfl (any_of HT_.out (by kernel_rfl)) (fun _ _ _ h=>h) (Or.inl ⟨by rfl,?_⟩) ?_ ?_;rotate_left
                ·intro w';go_simp;with_reducible rfl
                rotate_left
                ·simp only [Act.put,sIb,sZ,sS,i64_w,i32_w];rfl
                refine pure_ (i:=10) (N:=some 64) (v:=?_) (a':=?_) #[Y,Y,Y,Y,Y,Y,Y,Y,Y,Y,Y,Z,Z,Z,Z,Z,Z,Z,Z,Z,Z,Z,Z,Z,Z,Z] rfl rfl (any_of HT_.out (by kernel_rfl)) (fun _ _ _ h=>h) (Or.inl ⟨by rfl,?_⟩) ?_ ?_;rotate_left
                ·intro w';go_simp;with_reducible rfl
                rotate_left
                ·simp only [Act.put,sIb,sZ,sS,i64_w,i32_w];rfl
                refine pure_ (i:=12) (N:=some 66) (v:=?_) (a':=?_) #[Y,Y,Y,Y,Y,Y,Y,Y,Y,Y,Y,Z,Y,Z,Z,Z,Z,Z,Z,Z,Z,Z,Z,Z,Z,Z] rfl rfl (any_of HT_.out (by kernel_rfl)) (fun _ _ _ h=>h) (Or.inl ⟨by rfl,?_⟩) ?_ ?_;rotate_left
                ·intro w';go_simp;with_reducible rfl
                rotate_left
                ·simp only [Act.put,sIb,sZ,sS,i64_w,i32_w];rfl
                refine pure_ (i:=18) (N:=some 72) (v:=?_) (a':=?_) #[Y,Y,Y,Y,Y,Y,Y,Y,Y,Y,Y,Z,Y,Z,Z,Z,Z,Z,Y,Z,Z,Z,Z,Z,Z,Z] rfl rfl (any_of HT_.out (by kernel_rfl)) (fun _ _ _ h=>h) (Or.inl ⟨by rfl,?_⟩) ?_ ?_;rotate_left
                ·intro w';go_simp;with_reducible rfl
                rotate_left
                ·simp only [Act.put,sIb,sZ,sS,i64_w,i32_w];rfl
                refine pure_ (i:=20) (N:=some 74) (v:=?_) (a':=?_) #[Y,Y,Y,Y,Y,Y,Y,Y,Y,Y,Y,Z,Y,Z,Z,Z,Z,Z,Y,Z,Y,Z,Z,Z,Z,Z] rfl rfl (any_of HT_.out (by kernel_rfl)) (fun _ _ _ h=>h) (Or.inl ⟨by rfl,?_⟩) ?_ ?_;rotate_left
                ·intro w';go_simp;with_reducible rfl
                rotate_left
                ·simp only [Act.put,sIb,sZ,sS,i64_w,i32_w];rfl
                refine take_ (i:=11) (N:=some 65) (v:=?_) (a':=?_) #[Y,Y,Y,Y,Y,Y,Y,Y,Y,Y,Y,Y,Y,Z,Z,Z,Z,Z,Y,Z,Y,Z,Z,Z,Z,Z] rfl rfl (take_ofW HT_.out HW_.out (by kernel_rfl)) (fun _ _ _ h=>h) (Or.inl ⟨by rfl,?_⟩) hHeld ?_ ?_;rotate_left
                ·rintro w' ⟨s0,s1,s2,s3,s4,s5⟩;go_simp;with_reducible rfl
                rotate_left
                ·simp only [Act.put,sIb,sZ,sS,i64_w,i32_w];rfl
                refine take_ (i:=13) (N:=some 67) (v:=?_) (a':=?_) #[Y,Y,Y,Y,Y,Y,Y,Y,Y,Y,Y,Y,Y,Y,Z,Z,Z,Z,Y,Z,Y,Z,Z,Z,Z,Z] rfl rfl (take_ofW HT_.out HW_.out (by kernel_rfl)) (fun _ _ _ h=>h) (Or.inl ⟨by rfl,?_⟩) hHeld ?_ ?_;rotate_left
                ·rintro w' ⟨s0,s1,s2,s3,s4,s5⟩;go_simp;with_reducible rfl
                rotate_left
                ·simp only [Act.put,sIb,sZ,sS,i64_w,i32_w];rfl
                refine pure_ (i:=14) (N:=some 68) (v:=?_) (a':=?_) #[Y,Y,Y,Y,Y,Y,Y,Y,Y,Y,Y,Y,Y,Y,Y,Z,Z,Z,Y,Z,Y,Z,Z,Z,Z,Z] rfl rfl (any_of HT_.out (by kernel_rfl)) (fun _ _ _ h=>h) (Or.inl ⟨by rfl,?_⟩) ?_ ?_;rotate_left
                ·intro w';go_simp;with_reducible rfl
                rotate_left
                ·simp only [Act.put,sIb,sZ,sS,i64_w,i32_w];rfl
                refine pure_ (i:=15) (N:=some 69) (v:=?_) (a':=?_) #[Y,Y,Y,Y,Y,Y,Y,Y,Y,Y,Y,Y,Y,Y,Y,Y,Z,Z,Y,Z,Y,Z,Z,Z,Z,Z] rfl rfl (any_of HT_.out (by kernel_rfl)) (fun _ _ _ h=>h) (Or.inl ⟨by rfl,?_⟩) ?_ ?_;rotate_left
                ·intro w';go_simp;with_reducible rfl
                rotate_left
                ·simp only [Act.put,sIb,sZ,sS,i64_w,i32_w];rfl
                refine take_ (i:=16) (N:=some 70) (v:=?_) (a':=?_) #[Y,Y,Y,Y,Y,Y,Y,Y,Y,Y,Y,Y,Y,Y,Y,Y,Y,Z,Y,Z,Y,Z,Z,Z,Z,Z] rfl rfl (take_ofW HT_.out HW_.out (by kernel_rfl)) (fun _ _ _ h=>h) (Or.inl ⟨by rfl,?_⟩) hHeld ?_ ?_;rotate_left
                ·rintro w' ⟨s0,s1,s2,s3,s4,s5⟩;go_simp;with_reducible rfl
                rotate_left
                ·simp only [Act.put,sIb,sZ,sS,i64_w,i32_w];rfl
                refine take_ (i:=17) (N:=some 71) (v:=?_) (a':=?_) #[Y,Y,Y,Y,Y,Y,Y,Y,Y,Y,Y,Y,Y,Y,Y,Y,Y,Y,Y,Z,Y,Z,Z,Z,Z,Z] rfl rfl (take_ofW HT_.out HW_.out (by kernel_rfl)) (fun _ _ _ h=>h) (Or.inl ⟨by rfl,?_⟩) hHeld ?_ ?_;rotate_left
                ·rintro w' ⟨s0,s1,s2,s3,s4,s5⟩;go_simp;with_reducible rfl
                rotate_left
                ·simp only [Act.put,sIb,sZ,sS,i64_w,i32_w];rfl
                refine take_ (i:=19) (N:=some 73) (v:=?_) (a':=?_) #[Y,Y,Y,Y,Y,Y,Y,Y,Y,Y,Y,Y,Y,Y,Y,Y,Y,Y,Y,Y,Y,Z,Z,Z,Z,Z] rfl rfl (take_ofW HT_.out HW_.out (by kernel_rfl)) (fun _ _ _ h=>h) (Or.inl ⟨by rfl,?_⟩) hHeld ?_ ?_;rotate_left
                ·rintro w' ⟨s0,s1,s2,s3,s4,s5⟩;go_simp;with_reducible rfl
                rotate_left
                ·simp only [Act.put,sIb,sZ,sS,i64_w,i32_w];rfl
                refine one_ (i:=21) (N:=some 75) #[Y,Y,Y,Y,Y,Y,Y,Y,Y,Y,Y,Y,Y,Y,Y,Y,Y,Y,Y,Y,Y,Y,Z,Z,Z,Z] rfl rfl (one_of HT_.out (by kernel_rfl)) (by decide) (fun K hK=>?_);refine goes_ Try.func84 (by kernel_rfl) rfl #[.agg #[.slice A0_0 l0_0.length c0_0,.slice (some ad240) l0_1.length c0_1],.int .i64 ((rd_T106 l1 x9_1).f0),.slice Ao49 x8_1.length co49] (by rfl) rfl rfl (by (try simp only [mT,mC,mN]);first|done|rfl|(simp only [lD,lT];rfl)) ?_;with_reducible refine (spec_l11Shared.calls kj11 _ _ l0_0 _ _ l0_1 ((rd_T106 l1 x9_1).f0) _ _ x8_1 t241 _ ?side1 ?side2 ?side3 ?side4 ?side5 ?side6 A44.out).mono ?_
                (case side1=>repeat (first|exact (cB HR0_0.out (by repeat (with_reducible first|exact HB.out|apply qA|apply qD|apply qO|refine qS ?_ GE231.out|refine qS ?_ GE234.out)))|(with_reducible first|refine cL ?_ _|refine cN ?_ _|refine cW ?_)));(case side2=>exact HC0_0.out);(case side3=>repeat (first|exact (cB HR0_1.out (by repeat (with_reducible first|exact HB.out|apply qA|apply qD|apply qO|refine qS ?_ GE231.out|refine qS ?_ GE234.out)))|(with_reducible first|refine cL ?_ _|refine cN ?_ _|refine cW ?_)));(case side4=>exact HC0_1.out);(case side5=>repeat (first|exact (Kd.R_reads' HO_8.out).2.2|(with_reducible first|refine cL ?_ _|refine cN ?_ _|refine cW ?_)));(case side6=>exact (Kd.R_reads' HO_8.out).2.1);rintro e w50 ⟨v242,rfl,ho0,hb⟩;refine ⟨_,rfl,?_⟩;have n0_:=qK (rB (by (with_reducible repeat (first|apply rL|apply rN|apply rW));exact HO_8.out) hb);have n1_:=qK (Kd.V_lower (Kd.V_mono (ok':=fun k_=>some k_ ≠ (.slice Ao49 x8_1.length co49:Value).ownBlock∧k_ ≠ gb231∧k_ ≠ gb234) ho0 (fun k_ hk_=>⟨(Kd.fresh' (Kd.R_lt (by (with_reducible repeat (first|apply rL|apply rN|apply rW));exact HO_8.out)) k_ hk_),(Kd.freshB (g:=gb231) (o:=_) (by (with_reducible repeat (first|refine qN ?_ _|refine qW ?_|refine qL ?_ _));exact BK231.out) k_ hk_),(Kd.freshB (g:=gb234) (o:=_) (by (with_reducible repeat (first|refine qN ?_ _|refine qW ?_|refine qL ?_ _));exact BK234.out) k_ hk_)⟩)) (qZ (by repeat (with_reducible first|exact HB.out|apply qA|apply qD|apply qO|refine qS ?_ GE231.out|refine qS ?_ GE234.out))));have n2_:=qK (qB (g:=gb231) (o:=_) (by (with_reducible repeat (first|refine qN ?_ _|refine qW ?_|refine qL ?_ _));exact BK231.out) hb);have n3_:=qK (qB (g:=gb234) (o:=_) (by (with_reducible repeat (first|refine qN ?_ _|refine qW ?_|refine qL ?_ _));exact BK234.out) hb);have n4_:=qK (qT (by repeat (with_reducible first|exact HB.out|apply qA|apply qD|apply qO|refine qS ?_ GE231.out|refine qS ?_ GE234.out)) hb);clear HO_8;clear BK231;clear BK234;clear HB;have HO_8:=n0_;have HO243:=n1_;have BK231:=n2_;have BK234:=n3_;have HB:=n4_;clear n0_ n1_ n2_ n3_ n4_;(try clear hb);(try clear ho0);obtain ⟨Ao51,co51,eo51⟩:=Kd.V_slice HO243.out;(first|subst eo51|(injection eo51 with f1_ f2_ f3_;have f4_:=f1_.symm;have f5_:=f3_.symm;clear f1_ f2_ f3_;subst f4_;subst f5_));refine hK.out _ _ ⟨(qC BK234.out 0).trans rfl,(qC BK234.out 1).trans rfl,(qC BK231.out 0).trans rfl,(qC BK231.out 1).trans rfl,((HB.out.cell (World.block_lt_of_cell? w _ hw240_0)).trans hw240_0),((HB.out.cell (World.block_lt_of_cell? w _ hw240_1)).trans hw240_1)⟩ (fun hHeld=>?_);clear hK K;refine norm_ (a':=?_) ?_ ?_;rotate_left
                ·show Act.put _ (some 75) _=_
                 simp only [Act.put,sIb,sZ,sS,i64_w,i32_w];rfl
                refine one_ (i:=22) (N:=some 76) #[Y,Y,Y,Y,Y,Y,Y,Y,Y,Y,Y,Y,Y,Y,Y,Y,Y,Y,Y,Y,Y,Y,Y,Z,Z,Z] rfl rfl (one_of HT_.out (by kernel_rfl)) (by decide) (fun K hK=>?_);refine goes_ Try.func83 (by kernel_rfl) rfl #[.slice A240_1 ((rd_T97 l0_1 ((rd_T106 l1 x9_1).f1)).f1).length c240_1,.slice Ao51 t241.length co51] (by rfl) rfl rfl (by (try simp only [mT,mC,mN]);first|done|rfl|(simp only [lD,lT];rfl)) ?_;with_reducible refine (spec_l7All.calls kj11 _ _ ((rd_T97 l0_1 ((rd_T106 l1 x9_1).f1)).f1) _ _ t241 true _ ?side1 ?side2 ?side3 ?side4 A45.out).mono ?_
                (case side1=>repeat (first|exact (cB HR240_1.out HB.out)|(with_reducible first|refine cL ?_ _|refine cN ?_ _|refine cW ?_)));(case side2=>exact HC240_1.out);(case side3=>repeat (first|exact (Kd.V_reads' HO243.out).2.2|(with_reducible first|refine cL ?_ _|refine cN ?_ _|refine cW ?_)));(case side4=>exact (Kd.V_reads' HO243.out).2.1);rintro e w' ⟨rfl,⟨nd,rfl⟩⟩;refine ⟨_,rfl,?_⟩;refine hK.out _ _ ⟨(qC BK234.out 0).trans rfl,(qC BK234.out 1).trans rfl,(qC BK231.out 0).trans rfl,(qC BK231.out 1).trans rfl,((HB.out.cell (World.block_lt_of_cell? w _ hw240_0)).trans hw240_0),((HB.out.cell (World.block_lt_of_cell? w _ hw240_1)).trans hw240_1)⟩ (fun hHeld=>?_);clear hK K;refine norm_ (a':=?_) ?_ ?_;rotate_left
                ·show Act.put _ (some 76) _=_
                 simp only [Act.put,sIb,sZ,sS,i64_w,i32_w];rfl
                refine pure_ (i:=23) (N:=some 77) (v:=?_) (a':=?_) #[Y,Y,Y,Y,Y,Y,Y,Y,Y,Y,Y,Y,Y,Y,Y,Y,Y,Y,Y,Y,Y,Y,Y,Y,Z,Z] rfl rfl (any_of HT_.out (by kernel_rfl)) (fun _ _ _ h=>h) (Or.inl ⟨by rfl,?_⟩) ?_ ?_;rotate_left
                ·intro w';go_simp;with_reducible rfl
                rotate_left
                ·simp only [Act.put,sIb,sZ,sS,i64_w,i32_w];rfl
                refine pure_ (i:=24) (N:=some 78) (v:=?_) (a':=?_) #[Y,Y,Y,Y,Y,Y,Y,Y,Y,Y,Y,Y,Y,Y,Y,Y,Y,Y,Y,Y,Y,Y,Y,Y,Y,Z] rfl rfl (any_of HT_.out (by kernel_rfl)) (fun _ _ _ h=>h) (Or.inl ⟨by rfl,?_⟩) ?_ ?_;rotate_left
                ·intro w';go_simp;with_reducible rfl
                rotate_left
                ·simp only [Act.put,sIb,sZ,sS,i64_w,i32_w];rfl
                refine pure_ (i:=25) (N:=some 79) (v:=?_) (a':=?_) #[Y,Y,Y,Y,Y,Y,Y,Y,Y,Y,Y,Y,Y,Y,Y,Y,Y,Y,Y,Y,Y,Y,Y,Y,Y,Y] rfl rfl (any_of HT_.out (by kernel_rfl)) (fun _ _ _ h=>h) (Or.inl ⟨by rfl,?_⟩) ?_ ?_;rotate_left
                ·intro w';go_simp;with_reducible rfl
                rotate_left
                ·simp only [Act.put,sIb,sZ,sS,i64_w,i32_w];rfl
                refine done_ (done_of HT_.out (by kernel_rfl)) ?_;have hnb52:=NB234_231.out;have hnc52:=NB231_234.out;have hcz53_0:w50.cell? ⟨gb234,0,none⟩=some (.int .i64 ((rd_T106 l1 x9_1).f0)):=(qC BK234.out 0).trans rfl;have hcz53_1:w50.cell? ⟨gb234,1,none⟩=some (.int .i64 ((rd_T106 l1 x9_1).f1)):=(qC BK234.out 1).trans rfl;have hfz53_0:=qF BK234.out 0;have hfz53_1:=qF BK234.out 1;try go_wp2_with (first|((with_reducible refine gate_builtin (b:=.append) (xs:=#[.tmp 80,.tmp 83]) rfl ?_);(try (refine gate_guard (by rfl) ?_;dsimp only));at_builtin;refine Kd.R_append (Kd.int .i64) (w0:=w) w.heap.size rfl (.tmp 80) (.tmp 83) 22 3 (.int .i64 0) 8 rfl Try.underlying22 info3 rfl (by decide) (by omega) (.slice Ao49 x8_1.length co49) x8_1 ((rd_T106 l1 x9_1).f0) [.int .i64 ((rd_T106 l1 x9_1).f0)] (fun _=>True) (fun _=>False) rfl rfl ?aP (fun _ hk=>hk.elim) ?aF ?aO ?aB ?aS ?aL ?_;(case aP=>exact rfl);(case aB=>exact (by repeat (with_reducible first|exact HB.out|apply qA|apply qD|apply qO|refine qS ?_ GE231.out|refine qS ?_ GE234.out)));(case aF=>exact (fun _ _=>trivial));(case aO=>exact (by (with_reducible repeat (first|apply rL|apply rN|apply rW));exact HO_8.out));(case aS=>exact (qZ (by repeat (with_reducible first|exact HB.out|apply qA|apply qD|apply qO|refine qS ?_ GE231.out|refine qS ?_ GE234.out))));(case aL=>have:=LMc47.out;omega);intro v246 w54 ho hb hg hat;rw [← Ny245.out] at ho;have n0_:=qK (blk_grown (g:=gb231) (o:=_) (by (with_reducible repeat (first|refine qN ?_ _|refine qW ?_|refine qL ?_ _));exact BK231.out) hg (Kd.R_ne HO_8.out BK231.out (by decide)));have n1_:=qK (blk_grown (g:=gb234) (o:=_) (by (with_reducible repeat (first|refine qN ?_ _|refine qW ?_|refine qL ?_ _));exact BK234.out) hg (Kd.R_ne HO_8.out BK234.out (by decide)));have n2_:=qK (Kd.V_afterv (ok:=(fun k_=>k_ ≠ gb231∧k_ ≠ gb234)) (by (with_reducible repeat (first|apply Kd.V_alloc|apply Kd.V_drewN|apply Kd.V_drew));exact Kd.V_mono HO243.out (fun _ hk=>⟨⟨hk.2.1,hk.2.2⟩,hk.1⟩)) hg hat);have n3_:=qK (hb);have n4_:=qK (ho);clear BK231;clear BK234;clear HO243;clear HB;clear HO_8;have BK231:=n0_;have BK234:=n1_;have HO243:=n2_;have HB:=n3_;have HO247:=n4_;clear n0_ n1_ n2_ n3_ n4_;clear ho hb hg hat))
                go_roundg kj11
                case measure=>have:=HK1.out;have:=HJ11.out;omega
                case rel=>exact ⟨(y245),(wrap64 (x9_1 - 1)),(by first|rfl|(simp;done)|(simp [*];done)),H',⟨by have:=HK1.out;have:=HJ11.out;omega⟩,⟨by (with_reducible repeat (first|apply rL|apply rN|apply rW));exact HO247.out⟩,⟨by (with_reducible repeat (first|refine qN ?_ _|refine qW ?_|refine qL ?_ _));exact BK231.out⟩,⟨by repeat (first|(with_reducible first|exact HB.out|apply qA|apply qD|apply qO|refine qS ?_ GE231.out|refine qS ?_ GE234.out)|exact HB.out)⟩⟩
               ·rw [if_neg c47] at H;exact absurd H (by simp)
              ·replace c46:=Bool.eq_false_iff.mpr c46;subst c46;have H1:(some (false,true))=some (r1,r2):=by rw [if_neg (show ¬ (false=true) by decide)] at H;exact H
               clear H;have H:=H1;clear H1;simp only [Option.some.injEq,Prod.mk.injEq] at H;obtain ⟨rfl,rfl⟩:=H;try go_wp2
               (try (rw [drewN_self wc];generalize hq_:World.drewN wc _=wc;have n0_:Aside0 (Kd.R (Kd.int .i64) 3 wc w.heap.size (fun _=>True) u8 x8_1):=⟨by rw [← hq_];exact (by (with_reducible repeat (first|apply rL|apply rN|apply rW));exact HO_8.out)⟩;have n1_:Aside0 (wc.heap[gb231]?=some (.cells #[.slice A0_0 l0_0.length c0_0,.slice A0_1 l0_1.length c0_1] 32 (0,0))):=⟨by rw [← hq_];exact (by (with_reducible repeat (first|refine qN ?_ _|refine qW ?_|refine qL ?_ _));exact BK231.out)⟩;have n2_:Aside0 (wc.heap[gb234]?=some (.cells #[.int .i64 ((rd_T106 l1 x9_1).f0),.int .i64 ((rd_T106 l1 x9_1).f1)] 106 (0,0))):=⟨by rw [← hq_];exact (by (with_reducible repeat (first|refine qN ?_ _|refine qW ?_|refine qL ?_ _));exact BK234.out)⟩;have n3_:Aside0 (Below w.heap.size w wc):=⟨by rw [← hq_];exact (by repeat (with_reducible first|exact HB.out|apply qA|apply qD|apply qO|refine qS ?_ GE231.out|refine qS ?_ GE234.out))⟩;clear HO_8 BK231 BK234 HB hq_;have HO_8:=n0_;have BK231:=n1_;have BK234:=n2_;have HB:=n3_;clear n0_ n1_ n2_ n3_));have n0_:=qK (rW HO_8.out);have n1_:=qK (qW BK231.out);have n2_:=qK (qW BK234.out);have n3_:=qK (qO HB.out);clear HO_8;clear BK231;clear BK234;clear HB;have HO_8:=n0_;have BK231:=n1_;have BK234:=n2_;have HB:=n3_;clear n0_ n1_ n2_ n3_;obtain ⟨Ao56,co56,eo56⟩:=Kd.R_slice HO_8.out;(first|subst eo56|(injection eo56 with f1_ f2_ f3_;have f4_:=f1_.symm;have f5_:=f3_.symm;clear f1_ f2_ f3_;subst f4_;subst f5_));have p240:0≤(((rd_T106 l1 x9_1).f1):Int):=of_decide_eq_true (by first|(with_reducible assumption)|assumption);have q240:((rd_T106 l1 x9_1).f1) < (l0_1.length:Int):=of_decide_eq_true (by first|(with_reducible assumption)|assumption);obtain ⟨ad240,A240_1,c240_1,e240,hx240_0,hx240_1,hl240_1,hi240_1⟩:=at_T97 HR0_1.out ((rd_T106 l1 x9_1).f1) p240 q240;have hw240_1:=hx240_1;have hw240_0:=hx240_0;cases e240
               replace hx240_0:=(HB.out.cell (World.block_lt_of_cell? w _ hx240_0)).trans hx240_0;replace hx240_1:=(HB.out.cell (World.block_lt_of_cell? w _ hx240_1)).trans hx240_1;have HR240_1:=qK hi240_1;have HC240_1:=qK hl240_1;clear hi240_1 hl240_1;replace p240:=eq_true p240;replace q240:=eq_true q240;refine start_ (n:=26) (S:=fun w'=>w'.cell? ⟨gb234,0,none⟩=some (.int .i64 ((rd_T106 l1 x9_1).f0))∧w'.cell? ⟨gb234,1,none⟩=some (.int .i64 ((rd_T106 l1 x9_1).f1))∧w'.cell? ⟨gb231,0,none⟩=some (.slice A0_0 l0_0.length c0_0)∧w'.cell? ⟨gb231,1,none⟩=some (.slice (some ad240) l0_1.length c0_1)∧w'.cell? (ad240.add ((((rd_T106 l1 x9_1).f1)).toNat * 2))=some (.int .i64 ((rd_T97 l0_1 ((rd_T106 l1 x9_1).f1)).f0))∧w'.cell? ⟨(ad240.add ((((rd_T106 l1 x9_1).f1)).toNat * 2)).block,(ad240.add ((((rd_T106 l1 x9_1).f1)).toNat * 2)).off + 1,none⟩=some (.slice A240_1 ((rd_T97 l0_1 ((rd_T106 l1 x9_1).f1)).f1).length c240_1)) (ds:=[]) #[Z,Z,Z,Z,Z,Z,Z,Z,Z,Z,Z,Z,Z,Z,Z,Z,Z,Z,Z,Z,Z,Z,Z,Z,Z,Z] (by kernel_rfl) rfl rfl ⟨(qC BK234.out 0).trans rfl,(qC BK234.out 1).trans rfl,(qC BK231.out 0).trans rfl,(qC BK231.out 1).trans rfl,((HB.out.cell (World.block_lt_of_cell? w _ hw240_0)).trans hw240_0),((HB.out.cell (World.block_lt_of_cell? w _ hw240_1)).trans hw240_1)⟩ (fun hHeld=>?_);refine with_tabW spec_IsTree.tab10 spec_IsTree.bits10 (fun HT_ HW_=>?_);generalize wc.drew=w55 at HO_8 BK231 BK234 HB HR240_1 hx240_0 hx240_1 hHeld ⊢
               refine pure_ (i:=0) (N:=some 54) (v:=?_) (a':=?_) #[Y,Z,Z,Z,Z,Z,Z,Z,Z,Z,Z,Z,Z,Z,Z,Z,Z,Z,Z,Z,Z,Z,Z,Z,Z,Z] rfl rfl (any_of HT_.out (by kernel_rfl)) (fun _ _ _ h=>h) (Or.inl ⟨by rfl,?_⟩) ?_ ?_;rotate_left
               ·intro w';go_simp;with_reducible rfl
               rotate_left
               ·simp only [Act.put,sIb,sZ,sS,i64_w,i32_w];rfl
               refine take_ (i:=1) (N:=some 55) (v:=?_) (a':=?_) #[Y,Y,Z,Z,Z,Z,Z,Z,Z,Z,Z,Z,Z,Z,Z,Z,Z,Z,Z,Z,Z,Z,Z,Z,Z,Z] rfl rfl (take_ofW HT_.out HW_.out (by kernel_rfl)) (fun _ _ _ h=>h) (Or.inl ⟨by rfl,?_⟩) hHeld ?_ ?_;rotate_left
               ·rintro w' ⟨s0,s1,s2,s3,s4,s5⟩;go_simp;with_reducible rfl
               rotate_left
               ·simp only [Act.put,sIb,sZ,sS,i64_w,i32_w];rfl
               refine pure_ (i:=2) (N:=some 56) (v:=?_) (a':=?_) #[Y,Y,Y,Z,Z,Z,Z,Z,Z,Z,Z,Z,Z,Z,Z,Z,Z,Z,Z,Z,Z,Z,Z,Z,Z,Z] rfl rfl (any_of HT_.out (by kernel_rfl)) (fun _ _ _ h=>h) (Or.inl ⟨by rfl,?_⟩) ?_ ?_;rotate_left
               ·intro w';go_simp;with_reducible rfl
               rotate_left
               ·simp only [Act.put,sIb,sZ,sS,i64_w,i32_w];rfl
               refine pure_ (i:=3) (N:=some 57) (v:=?_) (a':=?_) #[Y,Y,Y,Y,Z,Z,Z,Z,Z,Z,Z,Z,Z,Z,Z,Z,Z,Z,Z,Z,Z,Z,Z,Z,Z,Z] rfl rfl (any_of HT_.out (by kernel_rfl)) (fun _ _ _ h=>h) (Or.inl ⟨by rfl,?_⟩) ?_ ?_;rotate_left
               ·intro w';go_simp;with_reducible rfl
               rotate_left
               ·simp only [Act.put,sIb,sZ,sS,i64_w,i32_w];rfl
               refine pure_ (i:=4) (N:=some 58) (v:=?_) (a':=?_) #[Y,Y,Y,Y,Y,Z,Z,Z,Z,Z,Z,Z,Z,Z,Z,Z,Z,Z,Z,Z,Z,Z,Z,Z,Z,Z] rfl rfl (any_of HT_.out (by kernel_rfl)) (fun _ _ _ h=>h) (Or.inl ⟨by rfl,?_⟩) ?_ ?_;rotate_left
               ·intro w';go_simp;with_reducible rfl
               rotate_left
               ·simp only [Act.put,sIb,sZ,sS,i64_w,i32_w];rfl
               refine pure_ (i:=5) (N:=some 59) (v:=?_) (a':=?_) #[Y,Y,Y,Y,Y,Y,Z,Z,Z,Z,Z,Z,Z,Z,Z,Z,Z,Z,Z,Z,Z,Z,Z,Z,Z,Z] rfl rfl (any_of HT_.out (by kernel_rfl)) (fun _ _ _ h=>h) (Or.inl ⟨by rfl,?_⟩) ?_ ?_;rotate_left
               ·intro w';go_simp;with_reducible rfl
               rotate_left
               ·simp only [Act.put,sIb,sZ,sS,i64_w,i32_w];rfl
               refine take_ (i:=6) (N:=some 60) (v:=?_) (a':=?_) #[Y,Y,Y,Y,Y,Y,Y,Z,Z,Z,Z,Z,Z,Z,Z,Z,Z,Z,Z,Z,Z,Z,Z,Z,Z,Z] rfl rfl (take_ofW HT_.out HW_.out (by kernel_rfl)) (fun _ _ _ h=>h) (Or.inl ⟨by rfl,?_⟩) hHeld ?_ ?_;rotate_left
               ·rintro w' ⟨s0,s1,s2,s3,s4,s5⟩;go_simp;with_reducible rfl
               rotate_left
               ·simp only [Act.put,sIb,sZ,sS,i64_w,i32_w];rfl
               refine one_ (i:=7) (N:=some 61) #[Y,Y,Y,Y,Y,Y,Y,Y,Z,Z,Z,Z,Z,Z,Z,Z,Z,Z,Z,Z,Z,Z,Z,Z,Z,Z] rfl rfl (one_of HT_.out (by kernel_rfl)) (by decide) (fun K hK=>?_);refine goes_ Try.func82 (by kernel_rfl) rfl #[.slice Ao56 x8_1.length co56,.int .i64 ((rd_T106 l1 x9_1).f1)] (by rfl) rfl rfl (by (try simp only [mT,mC,mN]);first|done|rfl|(simp only [lD,lT];rfl)) ?_;with_reducible refine (spec_l1Has.calls kj11 _ _ x8_1 ((rd_T106 l1 x9_1).f1) true _ ?side1 ?side2 A40.out).mono ?_
               (case side1=>repeat (first|exact (Kd.R_reads' HO_8.out).2.2|(with_reducible first|refine cL ?_ _|refine cN ?_ _|refine cW ?_)));(case side2=>exact (Kd.R_reads' HO_8.out).2.1);rintro e w' ⟨rfl,⟨nd,rfl⟩⟩;refine ⟨_,rfl,?_⟩;refine hK.out _ _ ⟨(qC BK234.out 0).trans rfl,(qC BK234.out 1).trans rfl,(qC BK231.out 0).trans rfl,(qC BK231.out 1).trans rfl,((HB.out.cell (World.block_lt_of_cell? w _ hw240_0)).trans hw240_0),((HB.out.cell (World.block_lt_of_cell? w _ hw240_1)).trans hw240_1)⟩ (fun hHeld=>?_);clear hK K;refine norm_ (a':=?_) ?_ ?_;rotate_left
               ·show Act.put _ (some 61) _=_
                simp only [Act.put,sIb,sZ,sS,i64_w,i32_w];rfl
               refine pure_ (i:=8) (N:=some 62) (v:=?_) (a':=?_) #[Y,Y,Y,Y,Y,Y,Y,Y,Y,Z,Z,Z,Z,Z,Z,Z,Z,Z,Z,Z,Z,Z,Z,Z,Z,Z] rfl rfl (any_of HT_.out (by kernel_rfl)) (fun _ _ _ h=>h) (Or.inl ⟨by rfl,?_⟩) ?_ ?_;rotate_left
               ·intro w';go_simp;with_reducible rfl
               rotate_left
               ·simp only [Act.put,sIb,sZ,sS,i64_w,i32_w];rfl
               refine pure_ (i:=9) (N:=some 63) (v:=?_) (a':=?_) #[Y,Y,Y,Y,Y,Y,Y,Y,Y,Y,Z,Z,Z,Z,Z,Z,Z,Z,Z,Z,Z,Z,Z,Z,Z,Z] rfl rfl (any_of HT_.out (by kernel_rfl)) (fun _ _ _ h=>h) (Or.inl ⟨by rfl,?_⟩) ?_ ?_;rotate_left
               ·intro w';go_simp;with_reducible rfl
               rotate_left
               ·simp only [Act.put,sIb,sZ,sS,i64_w,i32_w];rfl
               refine pure_ (i:=10) (N:=some 64) (v:=?_) (a':=?_) #[Y,Y,Y,Y,Y,Y,Y,Y,Y,Y,Y,Z,Z,Z,Z,Z,Z,Z,Z,Z,Z,Z,Z,Z,Z,Z] rfl rfl (any_of HT_.out (by kernel_rfl)) (fun _ _ _ h=>h) (Or.inl ⟨by rfl,?_⟩) ?_ ?_;rotate_left
               ·intro w';go_simp;with_reducible rfl
               rotate_left
               ·simp only [Act.put,sIb,sZ,sS,i64_w,i32_w];rfl
               refine pure_ (i:=12) (N:=some 66) (v:=?_) (a':=?_) #[Y,Y,Y,Y,Y,Y,Y,Y,Y,Y,Y,Z,Y,Z,Z,Z,Z,Z,Z,Z,Z,Z,Z,Z,Z,Z] rfl rfl (any_of HT_.out (by kernel_rfl)) (fun _ _ _ h=>h) (Or.inl ⟨by rfl,?_⟩) ?_ ?_;rotate_left
               ·intro w';go_simp;with_reducible rfl
               rotate_left
               ·simp only [Act.put,sIb,sZ,sS,i64_w,i32_w];rfl
               refine pure_ (i:=18) (N:=some 72) (v:=?_) (a':=?_) #[Y,Y,Y,Y,Y,Y,Y,Y,Y,Y,Y,Z,Y,Z,Z,Z,Z,Z,Y,Z,Z,Z,Z,Z,Z,Z] rfl rfl (any_of HT_.out (by kernel_rfl)) (fun _ _ _ h=>h) (Or.inl ⟨by rfl,?_⟩) ?_ ?_;rotate_left
               ·intro w';go_simp;with_reducible rfl
               rotate_left
               ·simp only [Act.put,sIb,sZ,sS,i64_w,i32_w];rfl
               refine pure_ (i:=20) (N:=some 74) (v:=?_) (a':=?_) #[Y,Y,Y,Y,Y,Y,Y,Y,Y,Y,Y,Z,Y,Z,Z,Z,Z,Z,Y,Z,Y,Z,Z,Z,Z,Z] rfl rfl (any_of HT_.out (by kernel_rfl)) (fun _ _ _ h=>h) (Or.inl ⟨by rfl,?_⟩) ?_ ?_;rotate_left
               ·intro w';go_simp;with_reducible rfl
               rotate_left
               ·simp only [Act.put,sIb,sZ,sS,i64_w,i32_w];rfl
               refine take_ (i:=11) (N:=some 65) (v:=?_) (a':=?_) #[Y,Y,Y,Y,Y,Y,Y,Y,Y,Y,Y,Y,Y,Z,Z,Z,Z,Z,Y,Z,Y,Z,Z,Z,Z,Z] rfl rfl (take_ofW HT_.out HW_.out (by kernel_rfl)) (fun _ _ _ h=>h) (Or.inl ⟨by rfl,?_⟩) hHeld ?_ ?_;rotate_left
               ·rintro w' ⟨s0,s1,s2,s3,s4,s5⟩;go_simp;with_reducible rfl
               rotate_left
               ·simp only [Act.put,sIb,sZ,sS,i64_w,i32_w];rfl
               refine take_ (i:=13) (N:=some 67) (v:=?_) (a':=?_) #[Y,Y,Y,Y,Y,Y,Y,Y,Y,Y,Y,Y,Y,Y,Z,Z,Z,Z,Y,Z,Y,Z,Z,Z,Z,Z] rfl rfl (take_ofW HT_.out HW_.out (by kernel_rfl)) (fun _ _ _ h=>h) (Or.inl ⟨by rfl,?_⟩) hHeld ?_ ?_;rotate_left
               ·rintro w' ⟨s0,s1,s2,s3,s4,s5⟩;go_simp;with_reducible rfl
               rotate_left
               ·simp only [Act.put,sIb,sZ,sS,i64_w,i32_w];rfl
               refine pure_ (i:=14) (N:=some 68) (v:=?_) (a':=?_) #[Y,Y,Y,Y,Y,Y,Y,Y,Y,Y,Y,Y,Y,Y,Y,Z,Z,Z,Y,Z,Y,Z,Z,Z,Z,Z] rfl rfl (any_of HT_.out (by kernel_rfl)) (fun _ _ _ h=>h) (Or.inl ⟨by rfl,?_⟩) ?_ ?_;rotate_left
               ·intro w';go_simp;with_reducible rfl
               rotate_left
               ·simp only [Act.put,sIb,sZ,sS,i64_w,i32_w];rfl
               refine pure_ (i:=15) (N:=some 69) (v:=?_) (a':=?_) #[Y,Y,Y,Y,Y,Y,Y,Y,Y,Y,Y,Y,Y,Y,Y,Y,Z,Z,Y,Z,Y,Z,Z,Z,Z,Z] rfl rfl (any_of HT_.out (by kernel_rfl)) (fun _ _ _ h=>h) (Or.inl ⟨by rfl,?_⟩) ?_ ?_;rotate_left
               ·intro w';go_simp;with_reducible rfl
               rotate_left
               ·simp only [Act.put,sIb,sZ,sS,i64_w,i32_w];rfl
               refine take_ (i:=16) (N:=some 70) (v:=?_) (a':=?_) #[Y,Y,Y,Y,Y,Y,Y,Y,Y,Y,Y,Y,Y,Y,Y,Y,Y,Z,Y,Z,Y,Z,Z,Z,Z,Z] rfl rfl (take_ofW HT_.out HW_.out (by kernel_rfl)) (fun _ _ _ h=>h) (Or.inl ⟨by rfl,?_⟩) hHeld ?_ ?_;rotate_left
               ·rintro w' ⟨s0,s1,s2,s3,s4,s5⟩;go_simp;with_reducible rfl
               rotate_left
               ·simp only [Act.put,sIb,sZ,sS,i64_w,i32_w];rfl
               refine take_ (i:=17) (N:=some 71) (v:=?_) (a':=?_) #[Y,Y,Y,Y,Y,Y,Y,Y,Y,Y,Y,Y,Y,Y,Y,Y,Y,Y,Y,Z,Y,Z,Z,Z,Z,Z] rfl rfl (take_ofW HT_.out HW_.out (by kernel_rfl)) (fun _ _ _ h=>h) (Or.inl ⟨by rfl,?_⟩) hHeld ?_ ?_;rotate_left
               ·rintro w' ⟨s0,s1,s2,s3,s4,s5⟩;go_simp;with_reducible rfl
               rotate_left
               ·simp only [Act.put,sIb,sZ,sS,i64_w,i32_w];rfl
               refine take_ (i:=19) (N:=some 73) (v:=?_) (a':=?_) #[Y,Y,Y,Y,Y,Y,Y,Y,Y,Y,Y,Y,Y,Y,Y,Y,Y,Y,Y,Y,Y,Z,Z,Z,Z,Z] rfl rfl (take_ofW HT_.out HW_.out (by kernel_rfl)) (fun _ _ _ h=>h) (Or.inl ⟨by rfl,?_⟩) hHeld ?_ ?_;rotate_left
               ·rintro w' ⟨s0,s1,s2,s3,s4,s5⟩;go_simp;with_reducible rfl
               rotate_left
               ·simp only [Act.put,sIb,sZ,sS,i64_w,i32_w];rfl
               refine one_ (i:=21) (N:=some 75) #[Y,Y,Y,Y,Y,Y,Y,Y,Y,Y,Y,Y,Y,Y,Y,Y,Y,Y,Y,Y,Y,Y,Z,Z,Z,Z] rfl rfl (one_of HT_.out (by kernel_rfl)) (by decide) (fun K hK=>?_);refine goes_ Try.func84 (by kernel_rfl) rfl #[.agg #[.slice A0_0 l0_0.length c0_0,.slice (some ad240) l0_1.length c0_1],.int .i64 ((rd_T106 l1 x9_1).f0),.slice Ao56 x8_1.length co56] (by rfl) rfl rfl (by (try simp only [mT,mC,mN]);first|done|rfl|(simp only [lD,lT];rfl)) ?_;with_reducible refine (spec_l11Shared.calls kj11 _ _ l0_0 _ _ l0_1 ((rd_T106 l1 x9_1).f0) _ _ x8_1 t241 _ ?side1 ?side2 ?side3 ?side4 ?side5 ?side6 A44.out).mono ?_
               (case side1=>repeat (first|exact (cB HR0_0.out (by repeat (with_reducible first|exact HB.out|apply qA|apply qD|apply qO|refine qS ?_ GE231.out|refine qS ?_ GE234.out)))|(with_reducible first|refine cL ?_ _|refine cN ?_ _|refine cW ?_)));(case side2=>exact HC0_0.out);(case side3=>repeat (first|exact (cB HR0_1.out (by repeat (with_reducible first|exact HB.out|apply qA|apply qD|apply qO|refine qS ?_ GE231.out|refine qS ?_ GE234.out)))|(with_reducible first|refine cL ?_ _|refine cN ?_ _|refine cW ?_)));(case side4=>exact HC0_1.out);(case side5=>repeat (first|exact (Kd.R_reads' HO_8.out).2.2|(with_reducible first|refine cL ?_ _|refine cN ?_ _|refine cW ?_)));(case side6=>exact (Kd.R_reads' HO_8.out).2.1);rintro e w57 ⟨v242,rfl,ho0,hb⟩;refine ⟨_,rfl,?_⟩;have n0_:=qK (rB (by (with_reducible repeat (first|apply rL|apply rN|apply rW));exact HO_8.out) hb);have n1_:=qK (Kd.V_lower (Kd.V_mono (ok':=fun k_=>some k_ ≠ (.slice Ao56 x8_1.length co56:Value).ownBlock∧k_ ≠ gb231∧k_ ≠ gb234) ho0 (fun k_ hk_=>⟨(Kd.fresh' (Kd.R_lt (by (with_reducible repeat (first|apply rL|apply rN|apply rW));exact HO_8.out)) k_ hk_),(Kd.freshB (g:=gb231) (o:=_) (by (with_reducible repeat (first|refine qN ?_ _|refine qW ?_|refine qL ?_ _));exact BK231.out) k_ hk_),(Kd.freshB (g:=gb234) (o:=_) (by (with_reducible repeat (first|refine qN ?_ _|refine qW ?_|refine qL ?_ _));exact BK234.out) k_ hk_)⟩)) (qZ (by repeat (with_reducible first|exact HB.out|apply qA|apply qD|apply qO|refine qS ?_ GE231.out|refine qS ?_ GE234.out))));have n2_:=qK (qB (g:=gb231) (o:=_) (by (with_reducible repeat (first|refine qN ?_ _|refine qW ?_|refine qL ?_ _));exact BK231.out) hb);have n3_:=qK (qB (g:=gb234) (o:=_) (by (with_reducible repeat (first|refine qN ?_ _|refine qW ?_|refine qL ?_ _));exact BK234.out) hb);have n4_:=qK (qT (by repeat (with_reducible first|exact HB.out|apply qA|apply qD|apply qO|refine qS ?_ GE231.out|refine qS ?_ GE234.out)) hb);clear HO_8;clear BK231;clear BK234;clear HB;have HO_8:=n0_;have HO243:=n1_;have BK231:=n2_;have BK234:=n3_;have HB:=n4_;clear n0_ n1_ n2_ n3_ n4_;(try clear hb);(try clear ho0);obtain ⟨Ao58,co58,eo58⟩:=Kd.V_slice HO243.out;(first|subst eo58|(injection eo58 with f1_ f2_ f3_;have f4_:=f1_.symm;have f5_:=f3_.symm;clear f1_ f2_ f3_;subst f4_;subst f5_));refine hK.out _ _ ⟨(qC BK234.out 0).trans rfl,(qC BK234.out 1).trans rfl,(qC BK231.out 0).trans rfl,(qC BK231.out 1).trans rfl,((HB.out.cell (World.block_lt_of_cell? w _ hw240_0)).trans hw240_0),((HB.out.cell (World.block_lt_of_cell? w _ hw240_1)).trans hw240_1)⟩ (fun hHeld=>?_);clear hK K;refine norm_ (a':=?_) ?_ ?_;rotate_left
               ·show Act.put _ (some 75) _=_
                simp only [Act.put,sIb,sZ,sS,i64_w,i32_w];rfl
               refine one_ (i:=22) (N:=some 76) #[Y,Y,Y,Y,Y,Y,Y,Y,Y,Y,Y,Y,Y,Y,Y,Y,Y,Y,Y,Y,Y,Y,Y,Z,Z,Z] rfl rfl (one_of HT_.out (by kernel_rfl)) (by decide) (fun K hK=>?_);refine goes_ Try.func83 (by kernel_rfl) rfl #[.slice A240_1 ((rd_T97 l0_1 ((rd_T106 l1 x9_1).f1)).f1).length c240_1,.slice Ao58 t241.length co58] (by rfl) rfl rfl (by (try simp only [mT,mC,mN]);first|done|rfl|(simp only [lD,lT];rfl)) ?_;with_reducible refine (spec_l7All.calls kj11 _ _ ((rd_T97 l0_1 ((rd_T106 l1 x9_1).f1)).f1) _ _ t241 false _ ?side1 ?side2 ?side3 ?side4 A45.out).mono ?_
               (case side1=>repeat (first|exact (cB HR240_1.out HB.out)|(with_reducible first|refine cL ?_ _|refine cN ?_ _|refine cW ?_)));(case side2=>exact HC240_1.out);(case side3=>repeat (first|exact (Kd.V_reads' HO243.out).2.2|(with_reducible first|refine cL ?_ _|refine cN ?_ _|refine cW ?_)));(case side4=>exact (Kd.V_reads' HO243.out).2.1);rintro e w' ⟨rfl,⟨nd,rfl⟩⟩;refine ⟨_,rfl,?_⟩;refine hK.out _ _ ⟨(qC BK234.out 0).trans rfl,(qC BK234.out 1).trans rfl,(qC BK231.out 0).trans rfl,(qC BK231.out 1).trans rfl,((HB.out.cell (World.block_lt_of_cell? w _ hw240_0)).trans hw240_0),((HB.out.cell (World.block_lt_of_cell? w _ hw240_1)).trans hw240_1)⟩ (fun hHeld=>?_);clear hK K;refine norm_ (a':=?_) ?_ ?_;rotate_left
               ·show Act.put _ (some 76) _=_
                simp only [Act.put,sIb,sZ,sS,i64_w,i32_w];rfl
               refine pure_ (i:=23) (N:=some 77) (v:=?_) (a':=?_) #[Y,Y,Y,Y,Y,Y,Y,Y,Y,Y,Y,Y,Y,Y,Y,Y,Y,Y,Y,Y,Y,Y,Y,Y,Z,Z] rfl rfl (any_of HT_.out (by kernel_rfl)) (fun _ _ _ h=>h) (Or.inl ⟨by rfl,?_⟩) ?_ ?_;rotate_left
               ·intro w';go_simp;with_reducible rfl
               rotate_left
               ·simp only [Act.put,sIb,sZ,sS,i64_w,i32_w];rfl
               refine pure_ (i:=24) (N:=some 78) (v:=?_) (a':=?_) #[Y,Y,Y,Y,Y,Y,Y,Y,Y,Y,Y,Y,Y,Y,Y,Y,Y,Y,Y,Y,Y,Y,Y,Y,Y,Z] rfl rfl (any_of HT_.out (by kernel_rfl)) (fun _ _ _ h=>h) (Or.inl ⟨by rfl,?_⟩) ?_ ?_;rotate_left
               ·intro w';go_simp;with_reducible rfl
               rotate_left
               ·simp only [Act.put,sIb,sZ,sS,i64_w,i32_w];rfl
               refine pure_ (i:=25) (N:=some 79) (v:=?_) (a':=?_) #[Y,Y,Y,Y,Y,Y,Y,Y,Y,Y,Y,Y,Y,Y,Y,Y,Y,Y,Y,Y,Y,Y,Y,Y,Y,Y] rfl rfl (any_of HT_.out (by kernel_rfl)) (fun _ _ _ h=>h) (Or.inl ⟨by rfl,?_⟩) ?_ ?_;rotate_left
               ·intro w';go_simp;with_reducible rfl
               rotate_left
               ·simp only [Act.put,sIb,sZ,sS,i64_w,i32_w];rfl
               refine done_ (done_of HT_.out (by kernel_rfl)) ?_;try go_wp2
               go_ret2
               exact ⟨by first|rfl|(simp [errW_none,errW_some] <;> rfl)|(simp [*,errW_none,errW_some] <;> rfl),by repeat (first|(with_reducible first|exact HB.out|apply qA|apply qD|apply qO|refine qS ?_ GE231.out|refine qS ?_ GE234.out)|exact HB.out)⟩
             ·rw [if_neg c43] at H;exact absurd H (by simp)
            ·rw [if_neg c42] at H;exact absurd H (by simp)
           ·replace c41:=Bool.eq_false_iff.mpr c41;subst c41;have H1:(some (false,true))=some (r1,r2):=by rw [if_neg (show ¬ (false=true) by decide)] at H;exact H
            clear H;have H:=H1;clear H1;simp only [Option.some.injEq,Prod.mk.injEq] at H;obtain ⟨rfl,rfl⟩:=H;try go_wp2
            (try (rw [drewN_self wc];generalize hq_:World.drewN wc _=wc;have n0_:Aside0 (Kd.R (Kd.int .i64) 3 wc w.heap.size (fun _=>True) u8 x8_1):=⟨by rw [← hq_];exact (by (with_reducible repeat (first|apply rL|apply rN|apply rW));exact HO_8.out)⟩;have n1_:Aside0 (wc.heap[gb231]?=some (.cells #[.slice A0_0 l0_0.length c0_0,.slice A0_1 l0_1.length c0_1] 32 (0,0))):=⟨by rw [← hq_];exact (by (with_reducible repeat (first|refine qN ?_ _|refine qW ?_|refine qL ?_ _));exact BK231.out)⟩;have n2_:Aside0 (wc.heap[gb234]?=some (.cells #[.int .i64 ((rd_T106 l1 x9_1).f0),.int .i64 ((rd_T106 l1 x9_1).f1)] 106 (0,0))):=⟨by rw [← hq_];exact (by (with_reducible repeat (first|refine qN ?_ _|refine qW ?_|refine qL ?_ _));exact BK234.out)⟩;have n3_:Aside0 (Below w.heap.size w wc):=⟨by rw [← hq_];exact (by repeat (with_reducible first|exact HB.out|apply qA|apply qD|apply qO|refine qS ?_ GE231.out|refine qS ?_ GE234.out))⟩;clear HO_8 BK231 BK234 HB hq_;have HO_8:=n0_;have BK231:=n1_;have BK234:=n2_;have HB:=n3_;clear n0_ n1_ n2_ n3_));have n0_:=qK (rW HO_8.out);have n1_:=qK (qW BK231.out);have n2_:=qK (qW BK234.out);have n3_:=qK (qO HB.out);clear HO_8;clear BK231;clear BK234;clear HB;have HO_8:=n0_;have BK231:=n1_;have BK234:=n2_;have HB:=n3_;clear n0_ n1_ n2_ n3_;obtain ⟨Ao60,co60,eo60⟩:=Kd.R_slice HO_8.out;(first|subst eo60|(injection eo60 with f1_ f2_ f3_;have f4_:=f1_.symm;have f5_:=f3_.symm;clear f1_ f2_ f3_;subst f4_;subst f5_));refine start_ (n:=26) (S:=fun w'=>w'.cell? ⟨gb234,0,none⟩=some (.int .i64 ((rd_T106 l1 x9_1).f0))∧w'.cell? ⟨gb234,1,none⟩=some (.int .i64 ((rd_T106 l1 x9_1).f1))) (ds:=[]) #[Z,Z,Z,Z,Z,Z,Z,Z,Z,Z,Z,Z,Z,Z,Z,Z,Z,Z,Z,Z,Z,Z,Z,Z,Z,Z] (by kernel_rfl) rfl rfl ⟨(qC BK234.out 0).trans rfl,(qC BK234.out 1).trans rfl⟩ (fun hHeld=>?_);refine with_tabW spec_IsTree.tab10 spec_IsTree.bits10 (fun HT_ HW_=>?_);generalize wc.drew=w59 at HO_8 BK231 BK234 HB hHeld ⊢
            refine pure_ (i:=0) (N:=some 54) (v:=?_) (a':=?_) #[Y,Z,Z,Z,Z,Z,Z,Z,Z,Z,Z,Z,Z,Z,Z,Z,Z,Z,Z,Z,Z,Z,Z,Z,Z,Z] rfl rfl (any_of HT_.out (by kernel_rfl)) (fun _ _ _ h=>h) (Or.inl ⟨by rfl,?_⟩) ?_ ?_;rotate_left
            ·intro w';go_simp;with_reducible rfl
            rotate_left
            ·simp only [Act.put,sIb,sZ,sS,i64_w,i32_w];rfl
            refine take_ (i:=1) (N:=some 55) (v:=?_) (a':=?_) #[Y,Y,Z,Z,Z,Z,Z,Z,Z,Z,Z,Z,Z,Z,Z,Z,Z,Z,Z,Z,Z,Z,Z,Z,Z,Z] rfl rfl (take_ofW HT_.out HW_.out (by kernel_rfl)) (fun _ _ _ h=>h) (Or.inl ⟨by rfl,?_⟩) hHeld ?_ ?_;rotate_left
            ·rintro w' ⟨s0,s1⟩;go_simp;with_reducible rfl
            rotate_left
            ·simp only [Act.put,sIb,sZ,sS,i64_w,i32_w];rfl
            refine pure_ (i:=2) (N:=some 56) (v:=?_) (a':=?_) #[Y,Y,Y,Z,Z,Z,Z,Z,Z,Z,Z,Z,Z,Z,Z,Z,Z,Z,Z,Z,Z,Z,Z,Z,Z,Z] rfl rfl (any_of HT_.out (by kernel_rfl)) (fun _ _ _ h=>h) (Or.inl ⟨by rfl,?_⟩) ?_ ?_;rotate_left
            ·intro w';go_simp;with_reducible rfl
            rotate_left
            ·simp only [Act.put,sIb,sZ,sS,i64_w,i32_w];rfl
            refine pure_ (i:=3) (N:=some 57) (v:=?_) (a':=?_) #[Y,Y,Y,Y,Z,Z,Z,Z,Z,Z,Z,Z,Z,Z,Z,Z,Z,Z,Z,Z,Z,Z,Z,Z,Z,Z] rfl rfl (any_of HT_.out (by kernel_rfl)) (fun _ _ _ h=>h) (Or.inl ⟨by rfl,?_⟩) ?_ ?_;rotate_left
            ·intro w';go_simp;with_reducible rfl
            rotate_left
            ·simp only [Act.put,sIb,sZ,sS,i64_w,i32_w];rfl
            refine pure_ (i:=4) (N:=some 58) (v:=?_) (a':=?_) #[Y,Y,Y,Y,Y,Z,Z,Z,Z,Z,Z,Z,Z,Z,Z,Z,Z,Z,Z,Z,Z,Z,Z,Z,Z,Z] rfl rfl (any_of HT_.out (by kernel_rfl)) (fun _ _ _ h=>h) (Or.inl ⟨by rfl,?_⟩) ?_ ?_;rotate_left
            ·intro w';go_simp;with_reducible rfl
            rotate_left
            ·simp only [Act.put,sIb,sZ,sS,i64_w,i32_w];rfl
            refine pure_ (i:=5) (N:=some 59) (v:=?_) (a':=?_) #[Y,Y,Y,Y,Y,Y,Z,Z,Z,Z,Z,Z,Z,Z,Z,Z,Z,Z,Z,Z,Z,Z,Z,Z,Z,Z] rfl rfl (any_of HT_.out (by kernel_rfl)) (fun _ _ _ h=>h) (Or.inl ⟨by rfl,?_⟩) ?_ ?_;rotate_left
            ·intro w';go_simp;with_reducible rfl
            rotate_left
            ·simp only [Act.put,sIb,sZ,sS,i64_w,i32_w];rfl
            refine take_ (i:=6) (N:=some 60) (v:=?_) (a':=?_) #[Y,Y,Y,Y,Y,Y,Y,Z,Z,Z,Z,Z,Z,Z,Z,Z,Z,Z,Z,Z,Z,Z,Z,Z,Z,Z] rfl rfl (take_ofW HT_.out HW_.out (by kernel_rfl)) (fun _ _ _ h=>h) (Or.inl ⟨by rfl,?_⟩) hHeld ?_ ?_;rotate_left
            ·rintro w' ⟨s0,s1⟩;go_simp;with_reducible rfl
            rotate_left
            ·simp only [Act.put,sIb,sZ,sS,i64_w,i32_w];rfl
            refine one_ (i:=7) (N:=some 61) #[Y,Y,Y,Y,Y,Y,Y,Y,Z,Z,Z,Z,Z,Z,Z,Z,Z,Z,Z,Z,Z,Z,Z,Z,Z,Z] rfl rfl (one_of HT_.out (by kernel_rfl)) (by decide) (fun K hK=>?_);refine goes_ Try.func82 (by kernel_rfl) rfl #[.slice Ao60 x8_1.length co60,.int .i64 ((rd_T106 l1 x9_1).f1)] (by rfl) rfl rfl (by (try simp only [mT,mC,mN]);first|done|rfl|(simp only [lD,lT];rfl)) ?_;with_reducible refine (spec_l1Has.calls kj11 _ _ x8_1 ((rd_T106 l1 x9_1).f1) false _ ?side1 ?side2 A40.out).mono ?_
            (case side1=>repeat (first|exact (Kd.R_reads' HO_8.out).2.2|(with_reducible first|refine cL ?_ _|refine cN ?_ _|refine cW ?_)));(case side2=>exact (Kd.R_reads' HO_8.out).2.1);rintro e w' ⟨rfl,⟨nd,rfl⟩⟩;refine ⟨_,rfl,?_⟩;refine hK.out _ _ ⟨(qC BK234.out 0).trans rfl,(qC BK234.out 1).trans rfl⟩ (fun hHeld=>?_);clear hK K;refine norm_ (a':=?_) ?_ ?_;rotate_left
            ·show Act.put _ (some 61) _=_
             simp only [Act.put,sIb,sZ,sS,i64_w,i32_w];rfl
            refine pure_ (i:=8) (N:=some 62) (v:=?_) (a':=?_) #[Y,Y,Y,Y,Y,Y,Y,Y,Y,Z,Z,Z,Z,Z,Z,Z,Z,Z,Z,Z,Z,Z,Z,Z,Z,Z] rfl rfl (any_of HT_.out (by kernel_rfl)) (fun _ _ _ h=>h) (Or.inl ⟨by rfl,?_⟩) ?_ ?_;rotate_left
            ·intro w';go_simp;with_reducible rfl
            rotate_left
            ·simp only [Act.put,sIb,sZ,sS,i64_w,i32_w];rfl
            refine pure_ (i:=9) (N:=some 63) (v:=?_) (a':=?_) #[Y,Y,Y,Y,Y,Y,Y,Y,Y,Y,Z,Z,Z,Z,Z,Z,Z,Z,Z,Z,Z,Z,Z,Z,Z,Z] rfl rfl (any_of HT_.out (by kernel_rfl)) (fun _ _ _ h=>h) (Or.inl ⟨by rfl,?_⟩) ?_ ?_;rotate_left
            ·intro w';go_simp;with_reducible rfl
            rotate_left
            ·simp only [Act.put,sIb,sZ,sS,i64_w,i32_w];rfl
            refine pure_ (i:=10) (N:=some 64) (v:=undef) (a':=?_) #[Y,Y,Y,Y,Y,Y,Y,Y,Y,Y,Y,Z,Z,Z,Z,Z,Z,Z,Z,Z,Z,Z,Z,Z,Z,Z] rfl rfl (any_of HT_.out (by kernel_rfl)) (fun _ _ _ h=>h) (Or.inr ⟨by rfl,rfl⟩) ?_ ?_;rotate_left
            ·simp only [Act.put,sIb,sZ,sS,i64_w,i32_w];rfl
            refine pure_ (i:=11) (N:=some 65) (v:=undef) (a':=?_) #[Y,Y,Y,Y,Y,Y,Y,Y,Y,Y,Y,Y,Z,Z,Z,Z,Z,Z,Z,Z,Z,Z,Z,Z,Z,Z] rfl rfl (any_of HT_.out (by kernel_rfl)) (fun _ _ _ h=>h) (Or.inr ⟨by rfl,rfl⟩) ?_ ?_;rotate_left
            ·simp only [Act.put,sIb,sZ,sS,i64_w,i32_w];rfl
            refine pure_ (i:=12) (N:=some 66) (v:=undef) (a':=?_) #[Y,Y,Y,Y,Y,Y,Y,Y,Y,Y,Y,Y,Y,Z,Z,Z,Z,Z,Z,Z,Z,Z,Z,Z,Z,Z] rfl rfl (any_of HT_.out (by kernel_rfl)) (fun _ _ _ h=>h) (Or.inr ⟨by rfl,rfl⟩) ?_ ?_;rotate_left
            ·simp only [Act.put,sIb,sZ,sS,i64_w,i32_w];rfl
            refine pure_ (i:=13) (N:=some 67) (v:=undef) (a':=?_) #[Y,Y,Y,Y,Y,Y,Y,Y,Y,Y,Y,Y,Y,Y,Z,Z,Z,Z,Z,Z,Z,Z,Z,Z,Z,Z] rfl rfl (any_of HT_.out (by kernel_rfl)) (fun _ _ _ h=>h) (Or.inr ⟨by rfl,rfl⟩) ?_ ?_;rotate_left
            ·simp only [Act.put,sIb,sZ,sS,i64_w,i32_w];rfl
            refine pure_ (i:=14) (N:=some 68) (v:=undef) (a':=?_) #[Y,Y,Y,Y,Y,Y,Y,Y,Y,Y,Y,Y,Y,Y,Y,Z,Z,Z,Z,Z,Z,Z,Z,Z,Z,Z] rfl rfl (any_of HT_.out (by kernel_rfl)) (fun _ _ _ h=>h) (Or.inr ⟨by rfl,rfl⟩) ?_ ?_;rotate_left
            ·simp only [Act.put,sIb,sZ,sS,i64_w,i32_w];rfl
            refine pure_ (i:=15) (N:=some 69) (v:=undef) (a':=?_) #[Y,Y,Y,Y,Y,Y,Y,Y,Y,Y,Y,Y,Y,Y,Y,Y,Z,Z,Z,Z,Z,Z,Z,Z,Z,Z] rfl rfl (any_of HT_.out (by kernel_rfl)) (fun _ _ _ h=>h) (Or.inr ⟨by rfl,rfl⟩) ?_ ?_;rotate_left
            ·simp only [Act.put,sIb,sZ,sS,i64_w,i32_w];rfl
            refine pure_ (i:=16) (N:=some 70) (v:=undef) (a':=?_) #[Y,Y,Y,Y,Y,Y,Y,Y,Y,Y,Y,Y,Y,Y,Y,Y,Y,Z,Z,Z,Z,Z,Z,Z,Z,Z] rfl rfl (any_of HT_.out (by kernel_rfl)) (fun _ _ _ h=>h) (Or.inr ⟨by rfl,rfl⟩) ?_ ?_;rotate_left
            ·simp only [Act.put,sIb,sZ,sS,i64_w,i32_w];rfl
            refine pure_ (i:=17) (N:=some 71) (v:=undef) (a':=?_) #[Y,Y,Y,Y,Y,Y,Y,Y,Y,Y,Y,Y,Y,Y,Y,Y,Y,Y,Z,Z,Z,Z,Z,Z,Z,Z] rfl rfl (any_of HT_.out (by kernel_rfl)) (fun _ _ _ h=>h) (Or.inr ⟨by rfl,rfl⟩) ?_ ?_;rotate_left
            ·simp only [Act.put,sIb,sZ,sS,i64_w,i32_w];rfl
            refine pure_ (i:=18) (N:=some 72) (v:=undef) (a':=?_) #[Y,Y,Y,Y,Y,Y,Y,Y,Y,Y,Y,Y,Y,Y,Y,Y,Y,Y,Y,Z,Z,Z,Z,Z,Z,Z] rfl rfl (any_of HT_.out (by kernel_rfl)) (fun _ _ _ h=>h) (Or.inr ⟨by rfl,rfl⟩) ?_ ?_;rotate_left
            ·simp only [Act.put,sIb,sZ,sS,i64_w,i32_w];rfl
            refine pure_ (i:=19) (N:=some 73) (v:=undef) (a':=?_) #[Y,Y,Y,Y,Y,Y,Y,Y,Y,Y,Y,Y,Y,Y,Y,Y,Y,Y,Y,Y,Z,Z,Z,Z,Z,Z] rfl rfl (any_of HT_.out (by kernel_rfl)) (fun _ _ _ h=>h) (Or.inr ⟨by rfl,rfl⟩) ?_ ?_;rotate_left
            ·simp only [Act.put,sIb,sZ,sS,i64_w,i32_w];rfl
            refine pure_ (i:=20) (N:=some 74) (v:=undef) (a':=?_) #[Y,Y,Y,Y,Y,Y,Y,Y,Y,Y,Y,Y,Y,Y,Y,Y,Y,Y,Y,Y,Y,Z,Z,Z,Z,Z] rfl rfl (any_of HT_.out (by kernel_rfl)) (fun _ _ _ h=>h) (Or.inr ⟨by rfl,rfl⟩) ?_ ?_;rotate_left
            ·simp only [Act.put,sIb,sZ,sS,i64_w,i32_w];rfl
            refine pure_ (i:=21) (N:=some 75) (v:=undef) (a':=?_) #[Y,Y,Y,Y,Y,Y,Y,Y,Y,Y,Y,Y,Y,Y,Y,Y,Y,Y,Y,Y,Y,Y,Z,Z,Z,Z] rfl rfl (any_of HT_.out (by kernel_rfl)) (fun _ _ _ h=>h) (Or.inr ⟨by rfl,rfl⟩) ?_ ?_;rotate_left
            ·simp only [Act.put,sIb,sZ,sS,i64_w,i32_w];rfl
            refine pure_ (i:=22) (N:=some 76) (v:=undef) (a':=?_) #[Y,Y,Y,Y,Y,Y,Y,Y,Y,Y,Y,Y,Y,Y,Y,Y,Y,Y,Y,Y,Y,Y,Y,Z,Z,Z] rfl rfl (any_of HT_.out (by kernel_rfl)) (fun _ _ _ h=>h) (Or.inr ⟨by rfl,rfl⟩) ?_ ?_;rotate_left
            ·simp only [Act.put,sIb,sZ,sS,i64_w,i32_w];rfl
            refine pure_ (i:=23) (N:=some 77) (v:=undef) (a':=?_) #[Y,Y,Y,Y,Y,Y,Y,Y,Y,Y,Y,Y,Y,Y,Y,Y,Y,Y,Y,Y,Y,Y,Y,Y,Z,Z] rfl rfl (any_of HT_.out (by kernel_rfl)) (fun _ _ _ h=>h) (Or.inr ⟨by rfl,rfl⟩) ?_ ?_;rotate_left
            ·simp only [Act.put,sIb,sZ,sS,i64_w,i32_w];rfl
            refine pure_ (i:=24) (N:=some 78) (v:=?_) (a':=?_) #[Y,Y,Y,Y,Y,Y,Y,Y,Y,Y,Y,Y,Y,Y,Y,Y,Y,Y,Y,Y,Y,Y,Y,Y,Y,Z] rfl rfl (any_of HT_.out (by kernel_rfl)) (fun _ _ _ h=>h) (Or.inl ⟨by rfl,?_⟩) ?_ ?_;rotate_left
            ·intro w';go_simp;with_reducible rfl
            rotate_left
            ·simp only [Act.put,sIb,sZ,sS,i64_w,i32_w];rfl
            refine pure_ (i:=25) (N:=some 79) (v:=?_) (a':=?_) #[Y,Y,Y,Y,Y,Y,Y,Y,Y,Y,Y,Y,Y,Y,Y,Y,Y,Y,Y,Y,Y,Y,Y,Y,Y,Y] rfl rfl (any_of HT_.out (by kernel_rfl)) (fun _ _ _ h=>h) (Or.inl ⟨by rfl,?_⟩) ?_ ?_;rotate_left
            ·intro w';go_simp;with_reducible rfl
            rotate_left
            ·simp only [Act.put,sIb,sZ,sS,i64_w,i32_w];rfl
            refine done_ (done_of HT_.out (by kernel_rfl)) ?_;try go_wp2
            go_ret2
            exact ⟨by first|rfl|(simp [errW_none,errW_some] <;> rfl)|(simp [*,errW_none,errW_some] <;> rfl),by repeat (first|(with_reducible first|exact HB.out|apply qA|apply qD|apply qO|refine qS ?_ GE231.out|refine qS ?_ GE234.out)|exact HB.out)⟩
      ·rw [if_neg c11] at H;exact absurd H (by simp)
     ·rw [if_neg c10] at H;exact absurd H (by simp)
    ·rw [if_neg c9] at H;have c9b0:decide (0≤x9_1)=false:=decide_eq_false c9;clear c9;simp only [Option.some.injEq,Prod.mk.injEq] at H;obtain ⟨rfl,rfl⟩:=H;obtain ⟨Ao61,co61,eo61⟩:=Kd.R_slice HO_8.out;subst eo61;have hcz62_0:wr.cell? ⟨gb231,0,none⟩=some (.slice A0_0 l0_0.length c0_0):=(qC BK231.out 0).trans rfl;have hcz62_1:wr.cell? ⟨gb231,1,none⟩=some (.slice A0_1 l0_1.length c0_1):=(qC BK231.out 1).trans rfl;have hfz62_0:=qF BK231.out 0;have hfz62_1:=qF BK231.out 1;go_wp2
     go_ret2
     exact ⟨by first|rfl|(simp [errW_none,errW_some] <;> rfl)|(simp [*,errW_none,errW_some] <;> rfl),by repeat (first|(with_reducible first|exact HB.out|apply qA|apply qD|apply qO|refine qS ?_ GE231.out)|exact HB.out)⟩
 ·replace c5:=Bool.eq_false_iff.mpr c5;subst c5;have H1:(some (false,false))=some (r1,r2):=by rw [if_neg (show ¬ (false=true) by decide)] at H;exact H
  clear H;have H:=H1;clear H1;simp only [Option.some.injEq,Prod.mk.injEq] at H;obtain ⟨rfl,rfl⟩:=H;go_enter Try.func27,Try.ntmps27
  go_wp2_with (first|((with_reducible refine gate_dst (N:=3) rfl ?_);(try (refine gate_guard (by rfl) ?_;dsimp only));refine box_event ?hg (N:=3) ?hd (cs:=#[.slice A0_0 l0_0.length c0_0,.slice A0_1 l0_1.length c0_1]) (t:=32) ?hr ?_;(case hd=>rfl);(case hg=>rfl);(case hr=>(go_simp;try rfl));intro gb231 hg w63 hbox hb;have n0_:=qK (qT (by repeat (with_reducible first|exact HB.out|apply qA|apply qD|apply qO)) hb);have n1_:=qK (hbox);have n2_:=qK ((by rw [hg];exact (qZ (by repeat (with_reducible first|exact HB.out|apply qA|apply qD|apply qO))):w.heap.size≤gb231));have n3_:=qK ((by rw [hg];exact (qZ (by repeat (with_reducible first|exact HB.out|apply qA|apply qD|apply qO))):w.heap.size≤gb231));clear HB;have HB:=n0_;have BK231:=n1_;have GW231:=n2_;have GE231:=n3_;clear n0_ n1_ n2_ n3_;clear hb hbox hg;have hcz64_0:w63.cell? ⟨gb231,0,none⟩=some (.slice A0_0 l0_0.length c0_0):=(qC BK231.out 0).trans rfl;have hcz64_1:w63.cell? ⟨gb231,1,none⟩=some (.slice A0_1 l0_1.length c0_1):=(qC BK231.out 1).trans rfl;have hfz64_0:=qF BK231.out 0;have hfz64_1:=qF BK231.out 1)|((with_reducible refine gate_callee (f:=75) rfl ?_);refine goesL_ (some 13) rfl rfl Try.func75 (by kernel_rfl) rfl #[.agg #[.slice A0_0 l0_0.length c0_0,.slice A0_1 l0_1.length c0_1],.slice A2 l2.length c2] rfl (by (try simp only [mT,mC,mN]);first|done|rfl|(simp only [lD,lT];rfl)) ?_;(with_reducible refine (spec_GoodQuery.calls k _ _ l0_0 _ _ l0_1 _ _ l2 false _ ?side1 ?side2 ?side3 ?side4 ?side5 ?side6 A4.out).mono ?_);(case side1=>repeat (first|exact (cB HR0_0.out HB.out)|(with_reducible first|refine cL ?_ _|refine cN ?_ _|refine cW ?_)));(case side2=>exact HC0_0.out);(case side3=>repeat (first|exact (cB HR0_1.out HB.out)|(with_reducible first|refine cL ?_ _|refine cN ?_ _|refine cW ?_)));(case side4=>exact HC0_1.out);(case side5=>repeat (first|exact (cB HR2.out HB.out)|(with_reducible first|refine cL ?_ _|refine cN ?_ _|refine cW ?_)));(case side6=>exact HC2.out);rintro e w65 ⟨rfl,hb⟩;refine ⟨_,rfl,?_⟩;have n0_:=qK (qB (g:=gb231) (o:=_) (by (with_reducible repeat (first|refine qN ?_ _|refine qW ?_|refine qL ?_ _));exact BK231.out) hb);have n1_:=qK (qT (by repeat (with_reducible first|exact HB.out|apply qA|apply qD|apply qO|refine qS ?_ GE231.out)) hb);clear BK231;clear HB;have BK231:=n0_;have HB:=n1_;clear n0_ n1_;(try clear hb)))
  go_ret2
  exact ⟨by first|rfl|(simp [errW_none,errW_some] <;> rfl)|(simp [*,errW_none,errW_some] <;> rfl),by repeat (first|(with_reducible first|exact HB.out|apply qA|apply qD|apply qO|refine qS ?_ GE231.out)|exact HB.out)⟩

/-! ### laws_toEar: function 85 -/
def laws_toEar.f (a0_0:Int) (a0_1:Int):Option (Int × Int):=some (a0_0,a0_1)
set_option maxHeartbeats 8000000 in
set_option maxRecDepth 100000 in
theorem laws_toEar.calls (a0_0:Int) (a0_1:Int) (r1:Int) (r2:Int) (w:World) (h:laws_toEar.f a0_0 a0_1=some (r1,r2)) :
  Calls Try.prog 85 #[.agg #[.int .i64 a0_0,.int .i64 a0_1]] w fun e w'=>e=.returned (.agg #[.int .i64 r1,.int .i64 r2])∧Below w.heap.size w w':=by
 have hu110:=Try.underlying110;have hu106:=Try.underlying106;have HB:=qK (Below.refl w.heap.size w);have H:(some (a0_0,a0_1))=some (r1,r2):=h;clear h;simp only [Option.some.injEq,Prod.mk.injEq] at H;obtain ⟨rfl,rfl⟩:=H;go_enter Try.func85,Try.ntmps85
 go_wp2_with (first|((with_reducible refine gate_dst (N:=1) rfl ?_);refine box_event ?hg (N:=1) ?hd (cs:=#[.int .i64 a0_0,.int .i64 a0_1]) (t:=110) ?hr ?_;(case hd=>rfl);(case hg=>rfl);(case hr=>(go_simp;try rfl));intro gb248 hg w2 hbox hb;have n0_:=qK (qT (by repeat (with_reducible first|exact HB.out|apply qA|apply qD|apply qO)) hb);have n1_:=qK (hbox);have n2_:=qK ((by rw [hg];exact (qZ (by repeat (with_reducible first|exact HB.out|apply qA|apply qD|apply qO))):w.heap.size≤gb248));have n3_:=qK ((by rw [hg];exact (qZ (by repeat (with_reducible first|exact HB.out|apply qA|apply qD|apply qO))):w.heap.size≤gb248));clear HB;have HB:=n0_;have BK248:=n1_;have GW248:=n2_;have GE248:=n3_;clear n0_ n1_ n2_ n3_;clear hb hbox hg)|((with_reducible refine gate_dst (N:=2) rfl ?_);refine box_event ?hg (N:=2) ?hd (cs:=#[.int .i64 0,.int .i64 0]) (t:=106) ?hr ?_;(case hd=>rfl);(case hg=>rfl);(case hr=>(go_simp;try rfl));intro gb249 hg w3 hbox hb;have n0_:=qK (qB (g:=gb248) (o:=_) (by (with_reducible repeat (first|refine qN ?_ _|refine qW ?_|refine qL ?_ _));exact BK248.out) hb);have n1_:=qK (qT (by repeat (with_reducible first|exact HB.out|apply qA|apply qD|apply qO|refine qS ?_ GE248.out)) hb);have n2_:=qK (hbox);have n3_:=qK ((by rw [hg];exact (qZ (by repeat (with_reducible first|exact HB.out|apply qA|apply qD|apply qO|refine qS ?_ GE248.out))):w.heap.size≤gb249));have n4_:=qK ((by rw [hg];exact (qZ (by repeat (with_reducible first|exact HB.out|apply qA|apply qD|apply qO|refine qS ?_ GE248.out))):w.heap.size≤gb249));have n5_:=qK ((by rw [hg];exact Nat.ne_of_lt (blk_lt (g:=gb248) (o:=_) (by (with_reducible repeat (first|refine qN ?_ _|refine qW ?_|refine qL ?_ _));exact BK248.out)):gb248 ≠ gb249));have n6_:=qK ((by rw [hg];exact Nat.ne_of_gt (blk_lt (g:=gb248) (o:=_) (by (with_reducible repeat (first|refine qN ?_ _|refine qW ?_|refine qL ?_ _));exact BK248.out)):gb249 ≠ gb248));clear BK248;clear HB;have BK248:=n0_;have HB:=n1_;have BK249:=n2_;have GW249:=n3_;have GE249:=n4_;have NB248_249:=n5_;have NB249_248:=n6_;clear n0_ n1_ n2_ n3_ n4_ n5_ n6_;clear hb hbox hg)|((with_reducible refine gate_dst (N:=3) rfl ?_);refine box_event ?hg (N:=3) ?hd (cs:=#[.int .i64 0,.int .i64 0]) (t:=106) ?hr ?_;(case hd=>rfl);(case hg=>rfl);(case hr=>(go_simp;try rfl));intro gb250 hg w4 hbox hb;have n0_:=qK (qB (g:=gb248) (o:=_) (by (with_reducible repeat (first|refine qN ?_ _|refine qW ?_|refine qL ?_ _));exact BK248.out) hb);have n1_:=qK (qB (g:=gb249) (o:=_) (by (with_reducible repeat (first|refine qN ?_ _|refine qW ?_|refine qL ?_ _));exact BK249.out) hb);have n2_:=qK (qT (by repeat (with_reducible first|exact HB.out|apply qA|apply qD|apply qO|refine qS ?_ GE248.out|refine qS ?_ GE249.out)) hb);have n3_:=qK (hbox);have n4_:=qK ((by rw [hg];exact (qZ (by repeat (with_reducible first|exact HB.out|apply qA|apply qD|apply qO|refine qS ?_ GE248.out|refine qS ?_ GE249.out))):w.heap.size≤gb250));have n5_:=qK ((by rw [hg];exact (qZ (by repeat (with_reducible first|exact HB.out|apply qA|apply qD|apply qO|refine qS ?_ GE248.out|refine qS ?_ GE249.out))):w.heap.size≤gb250));have n6_:=qK ((by rw [hg];exact Nat.ne_of_lt (blk_lt (g:=gb248) (o:=_) (by (with_reducible repeat (first|refine qN ?_ _|refine qW ?_|refine qL ?_ _));exact BK248.out)):gb248 ≠ gb250));have n7_:=qK ((by rw [hg];exact Nat.ne_of_gt (blk_lt (g:=gb248) (o:=_) (by (with_reducible repeat (first|refine qN ?_ _|refine qW ?_|refine qL ?_ _));exact BK248.out)):gb250 ≠ gb248));have n8_:=qK ((by rw [hg];exact Nat.ne_of_lt (blk_lt (g:=gb249) (o:=_) (by (with_reducible repeat (first|refine qN ?_ _|refine qW ?_|refine qL ?_ _));exact BK249.out)):gb249 ≠ gb250));have n9_:=qK ((by rw [hg];exact Nat.ne_of_gt (blk_lt (g:=gb249) (o:=_) (by (with_reducible repeat (first|refine qN ?_ _|refine qW ?_|refine qL ?_ _));exact BK249.out)):gb250 ≠ gb249));clear BK248;clear BK249;clear HB;have BK248:=n0_;have BK249:=n1_;have HB:=n2_;have BK250:=n3_;have GW250:=n4_;have GE250:=n5_;have NB248_250:=n6_;have NB250_248:=n7_;have NB249_250:=n8_;have NB250_249:=n9_;clear n0_ n1_ n2_ n3_ n4_ n5_ n6_ n7_ n8_ n9_;clear hb hbox hg;have hnb5:=NB248_249.out;have hnc5:=NB249_248.out;have hnb6:=NB248_250.out;have hnc6:=NB250_248.out;have hcz7_0:w4.cell? ⟨gb248,0,none⟩=some (.int .i64 a0_0):=(qC BK248.out 0).trans rfl;have hcz7_1:w4.cell? ⟨gb248,1,none⟩=some (.int .i64 a0_1):=(qC BK248.out 1).trans rfl;have hfz7_0:=qF BK248.out 0;have hfz7_1:=qF BK248.out 1;have hnb8:=NB250_249.out;have hnc8:=NB249_250.out;have hcz9_0:w4.cell? ⟨gb250,0,none⟩=some (.int .i64 0):=(qC BK250.out 0).trans rfl;have hcz9_1:w4.cell? ⟨gb250,1,none⟩=some (.int .i64 0):=(qC BK250.out 1).trans rfl;have hfz9_0:=qF BK250.out 0;have hfz9_1:=qF BK250.out 1;have hcz10_0:w4.cell? ⟨gb249,0,none⟩=some (.int .i64 0):=(qC BK249.out 0).trans rfl;have hcz10_1:w4.cell? ⟨gb249,1,none⟩=some (.int .i64 0):=(qC BK249.out 1).trans rfl;have hfz10_0:=qF BK249.out 0;have hfz10_1:=qF BK249.out 1))
 refine bodyPost_ret (results_cell_row rfl _ _ gb249 106 #[.int .i64 a0_0,.int .i64 a0_1] (0,0) _ rfl (by (with_reducible repeat (first|refine qN ?_ _|refine qW ?_|refine qL ?_ _));refine qP (cs:=#[.int .i64 a0_0,.int .i64 0]) ?_ 1 _ rfl;(with_reducible repeat (first|refine qN ?_ _|refine qW ?_|refine qL ?_ _));refine qP (cs:=#[.int .i64 0,.int .i64 0]) ?_ 0 _ rfl;(with_reducible repeat (first|refine qN ?_ _|refine qW ?_|refine qL ?_ _));refine qR ?_ NB249_250.out _;(with_reducible repeat (first|refine qN ?_ _|refine qW ?_|refine qL ?_ _));refine qR ?_ NB249_250.out _;(with_reducible repeat (first|refine qN ?_ _|refine qW ?_|refine qL ?_ _));exact BK249.out) Try.underlying106 rfl (by kernel_rfl)) rfl ?_;exact ⟨by first|rfl|(simp [errW_none,errW_some] <;> rfl)|(simp [*,errW_none,errW_some] <;> rfl),by repeat (first|(with_reducible first|exact HB.out|apply qA|apply qD|apply qO|refine qS ?_ GE248.out|refine qS ?_ GE249.out|refine qS ?_ GE250.out)|exact HB.out)⟩

end Go.Proofs.Ytboligpcbndkjaa.PFnExactIsTree
