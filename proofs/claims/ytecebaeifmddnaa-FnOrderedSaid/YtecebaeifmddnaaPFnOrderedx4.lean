/-
  A text of this claim's own, printed by a program of the session (wip/tools/xprint.py): functions of the program as Lean functions, each with what its call comes to.
-/
import Derived.Test.YtecebaeifmddnaaPFnOrderedx0
import Derived.Test.YtecebaeifmddnaaPFnOrderedx1
import Derived.Test.YtecebaeifmddnaaPFnOrderedx3
namespace Go.Proofs.Ytecebaeifmddnaa.PFnOrdered
open Go.Proofs.YtecebaeifmddnaaW.PrintWords renaming pw_below_drewN → qD, blk_cell → qC, below_drew1 → qO, below_alloc → qA, blk_frozen → qF, below_set → qS, blk_drewN → qN, blk_alloc → qL, blk_drew → qW, below_size → qZ, below_step → qT, blk_below → qB, blk_far → qR, blk_put → qP
open Go.Proofs.YtecebaeifmddnaaW.PrintWords.Aside0 renaming mk → qK
open Bool renaming true → Y, false → Z
open List renaming setIfInBounds_toArray → sIb, set_cons_zero → sZ, set_cons_succ → sS, map_toArray → mT, map_cons → mC, map_nil → mN, length_drop → lD, length_take → lT
open Go.Proofs.YtecebaeifmddnaaW.PrintWords.Kd renaming C_alloc → cL, C_drewN → cN, C_drew → cW, C_below → cB, R_alloc → rL, R_drewN → rN, R_drew → rW, R_below → rB
open Go.RowKit Go.Proofs.YtecebaeifmddnaaW.PrintWords Go.Proofs.YtecebaeifmddnaaW.PrintLast Go.Proofs.YtecebaeifmddnaaW.PrintMore
attribute [local go_sem] max2_int min2_int max_two min_two max_three min_three max_four min_four   -- for this text's walks alone
set_option linter.unusedVariables false
set_option linter.unusedSimpArgs false

/-! ### spec_BestOf: function 7 -/
def spec_BestOf.j0 : Nat→List Int→Bool→List Int→List (List Int)→Option (List Int × Int × Bool)
 | 0,_,_,_,_=>none
 | k + 1,x1,x23,x199000,x199001=>if x23=true then (some (([]:List Int),0,false)) else ((spec_l12Best.f k x199000 x199001 x1).bind fun t201=>((spec_l12Cost.f k x199000 x199001 t201).bind fun t204=>(some (t201,t204,true))))
def spec_BestOf.f (k:Nat) (l0_0:List Int) (l0_1:List (List Int)) (l1:List Int):Option (List Int × Int × Bool):=(spec_GoodStats.f k l0_0 l0_1).bind fun t199=>(if t199=true then ((spec_l1Some.f k l1 (l0_0.length:Int)).bind fun t200=>(if t200=true then (spec_BestOf.j0 k l1 ((l1.length:Int) == 0) l0_0 l0_1) else (spec_BestOf.j0 k l1 true l0_0 l0_1))) else (spec_BestOf.j0 k l1 true l0_0 l0_1))
theorem spec_BestOf.mono_l : ∀ k,(∀ y0 y1 y2 y3,LeO (spec_BestOf.j0 k y0 y1 y2 y3) (spec_BestOf.j0 (k + 1) y0 y1 y2 y3))
 | 0=>fun _ _ _ _ r h=>by simp [spec_BestOf.j0] at h
 | k + 1=>by
  have aa:=spec_BestOf.mono_l k
  ·intro y0 y1 y2 y3;unfold spec_BestOf.j0
   repeat' first
   | (with_reducible exact aa _ _ _ _)
   | (with_reducible exact spec_GoodStats.mono _ _ _)
   | (with_reducible exact spec_l12Best.mono _ _ _ _)
   | (with_reducible exact spec_l12Cost.mono _ _ _ _)
   | (with_reducible exact spec_l1Some.mono _ _ _)
   | (with_reducible exact LeO.refl _)
   | (with_reducible exact LeO.none _)
   | (with_reducible refine LeO.ite ?_ ?_)
   | (with_reducible refine LeO.bind ?_ (fun _=>?_))
   | exact aa _ _ _ _
   | exact spec_GoodStats.mono _ _ _
   | exact spec_l12Best.mono _ _ _ _
   | exact spec_l12Cost.mono _ _ _ _
   | exact spec_l1Some.mono _ _ _
   | exact LeO.none _
   | refine LeO.ite ?_ ?_
   | refine LeO.bind ?_ (fun _=>?_)
theorem spec_BestOf.mono : ∀ a0 a1 a2 k,LeO (spec_BestOf.f k a0 a1 a2) (spec_BestOf.f (k + 1) a0 a1 a2):=by
 intro a0 a1 a2 k;have aa:=spec_BestOf.mono_l k;unfold spec_BestOf.f
 repeat' first
   | (with_reducible exact aa _ _ _ _)
   | (with_reducible exact spec_GoodStats.mono _ _ _)
   | (with_reducible exact spec_l12Best.mono _ _ _ _)
   | (with_reducible exact spec_l12Cost.mono _ _ _ _)
   | (with_reducible exact spec_l1Some.mono _ _ _)
   | (with_reducible exact LeO.refl _)
   | (with_reducible exact LeO.none _)
   | (with_reducible refine LeO.ite ?_ ?_)
   | (with_reducible refine LeO.bind ?_ (fun _=>?_))
   | exact aa _ _ _ _
   | exact spec_GoodStats.mono _ _ _
   | exact spec_l12Best.mono _ _ _ _
   | exact spec_l12Cost.mono _ _ _ _
   | exact spec_l1Some.mono _ _ _
   | exact LeO.none _
   | refine LeO.ite ?_ ?_
   | refine LeO.bind ?_ (fun _=>?_)
set_option maxHeartbeats 8000000 in
set_option maxRecDepth 100000 in
theorem spec_BestOf.calls (k:Nat) (af:Option Addr) (ag:Nat) (ab:List Int) (ah:Option Addr) (ai:Nat) (ac:List (List Int)) (A1:Option Addr) (c1:Nat) (l1:List Int) (r1:List Int) (r2:Int) (r3:Bool) (w:World) (aU:Kd.C (Kd.int .i64) w af ab.length ab) (aV:ab.length≤ag) (aW:Kd.C (Kd.slice 3 (Kd.int .i64)) w ah ac.length ac) (aX:ac.length≤ai) (bt:Kd.C (Kd.int .i64) w A1 l1.length l1) (bu:l1.length≤c1) (h:spec_BestOf.f k ab ac l1=some (r1,r2,r3)) :
  Calls Try.prog 7 #[.agg #[.slice af ab.length ag,.slice ah ac.length ai],.slice A1 l1.length c1] w fun e w'=>∃ bv:Value,e=.returned (.tuple #[bv,.int .i64 r2,.bool r3])∧Kd.R (Kd.int .i64) 3 w' w.heap.size (fun _=>True) bv r1∧Below w.heap.size w w':=by
 have bF:=Try.underlying29;have al:=qK aU;have am:=qK aV;clear aU aV;have an:=qK aW;have ao:=qK aX;clear aW aX;have bn:=qK bt;have bo:=qK bu;clear bt bu;have HB:=qK (Below.refl w.heap.size w);have H:((spec_GoodStats.f k ab ac).bind fun aw=>(if aw=true then ((spec_l1Some.f k l1 (ab.length:Int)).bind fun ap=>(if ap=true then (spec_BestOf.j0 k l1 ((l1.length:Int) == 0) ab ac) else (spec_BestOf.j0 k l1 true ab ac))) else (spec_BestOf.j0 k l1 true ab ac)))=some (r1,r2,r3):=h;clear h;have bp:=qK H;clear H;go_enter Try.func7,Try.ntmps7
 go_upto_region 1 with (first|((with_reducible refine gate_dst (N:=2) rfl ?_);(try (refine gate_guard (by rfl) ?_;dsimp only));refine box_event ?hg (N:=2) ?hd (cs:=#[.slice af ab.length ag,.slice ah ac.length ai]) (t:=29) ?hr ?_;(case hd=>rfl);(case hg=>rfl);(case hr=>(go_simp;try rfl));intro ae hg w4 hbox hb;have aq:=qK (qT HB.out hb);have ar:=qK (hbox);have ax:=qK ((by rw [hg];exact (qZ HB.out):w.heap.size≤ae));have bw:=ax;clear HB;have HB:=aq;have aa:=ar;have bx:=ax;have aY:=bw;clear aq ar ax bw;clear hb hbox hg))
 (try simp only [Act.put,List.setIfInBounds_toArray,List.set_cons_zero,List.set_cons_succ]);go_cut [23] (fun bG wc=>∃ (kq:Nat) (au:Bool),bG=.bool au∧Aside0 (spec_BestOf.j0 kq l1 au ab ac=some (r1,r2,r3))∧Aside0 (kq≤k)∧Aside0 (wc.heap[ae]?=some (.cells #[(.slice af ab.length ag),(.slice ah ac.length ai)] 29 (0,0)))∧Aside0 (Below w.heap.size w wc))
 case first =>
  have H:=bp.out;clear bp;replace H:=Option.bind_eq_some_iff.mp H;obtain ⟨aw,bz,H⟩:=H;replace H:(if aw=true then ((spec_l1Some.f k l1 (ab.length:Int)).bind fun ap=>(if ap=true then (spec_BestOf.j0 k l1 ((l1.length:Int) == 0) ab ac) else (spec_BestOf.j0 k l1 true ab ac))) else (spec_BestOf.j0 k l1 true ab ac))=some (r1,r2,r3):=H;have A5:=qK bz;clear bz;by_cases c6:aw=true
  ·subst c6;have H1:((spec_l1Some.f k l1 (ab.length:Int)).bind fun ap=>(if ap=true then (spec_BestOf.j0 k l1 ((l1.length:Int) == 0) ab ac) else (spec_BestOf.j0 k l1 true ab ac)))=some (r1,r2,r3):=by rw [if_pos rfl] at H;exact H
   clear H;have H:=H1;clear H1;replace H:=Option.bind_eq_some_iff.mp H;obtain ⟨ap,bA,H⟩:=H;replace H:(if ap=true then (spec_BestOf.j0 k l1 ((l1.length:Int) == 0) ab ac) else (spec_BestOf.j0 k l1 true ab ac))=some (r1,r2,r3):=H;have A7:=qK bA;clear bA;by_cases c8:ap=true
   ·subst c8;have H1:(spec_BestOf.j0 k l1 ((l1.length:Int) == 0) ab ac)=some (r1,r2,r3):=by rw [if_pos rfl] at H;exact H
    clear H;have H:=H1;clear H1;have H':=qK H;clear H;have aZ:w4.cell? ⟨ae,0,none⟩=some (.slice af ab.length ag):=(qC aa.out 0).trans rfl;have ba:w4.cell? ⟨ae,1,none⟩=some (.slice ah ac.length ai):=(qC aa.out 1).trans rfl;have bb:=qF aa.out 0;have bc:=qF aa.out 1;go_wp2_with (first|((with_reducible refine gate_callee (f:=23) rfl ?_);refine goesL_ (some 9) rfl rfl Try.func23 (by kernel_rfl) rfl #[.agg #[.slice af ab.length ag,.slice ah ac.length ai]] rfl (by (try simp only [mT,mC,mN]);first|done|rfl|(simp only [lD,lT];rfl)) ?_;(with_reducible refine (spec_GoodStats.calls k _ _ ab _ _ ac true _ ?side1 ?side2 ?side3 ?side4 A5.out).mono ?_);(case side1=>exact (cB al.out HB.out));(case side2=>exact am.out);(case side3=>exact (cB an.out HB.out));(case side4=>exact ao.out);rintro e bB ⟨rfl,hb⟩;refine ⟨_,rfl,?_⟩;have aq:=qK (qB (g:=ae) (o:=_) (by exact aa.out) hb);have ar:=qK (qT HB.out hb);clear aa HB;have aa:=aq;have HB:=ar;clear aq ar;(try clear hb);have ay:bB.cell? ⟨ae,0,none⟩=some (.slice af ab.length ag):=(qC aa.out 0).trans rfl;have az:bB.cell? ⟨ae,1,none⟩=some (.slice ah ac.length ai):=(qC aa.out 1).trans rfl;have aA:=qF aa.out 0;have aC:=qF aa.out 1)|(go_at_call 30;(with_reducible refine (spec_l1Some.calls k _ _ l1 (ab.length:Int) true _ ?side1 ?side2 A7.out).mono ?_);(case side1=>exact (cB bn.out HB.out));(case side2=>exact bo.out);rintro e w' ⟨rfl,⟨nd,rfl⟩⟩))
    go_meet
    case rel=>exact ⟨_,(((l1.length:Int) == 0)),(by rfl),H',⟨by first|omega|exact Nat.le_refl _⟩,⟨aa.out⟩,⟨by repeat (first|(with_reducible first|exact HB.out|apply qA|apply qD|apply qO|refine qS ?_ aY.out)|exact HB.out)⟩⟩
   ·replace c8:=Bool.eq_false_iff.mpr c8;subst c8;have H1:(spec_BestOf.j0 k l1 true ab ac)=some (r1,r2,r3):=by rw [if_neg (show ¬ (false=true) by decide)] at H;exact H
    clear H;have H:=H1;clear H1;have H':=qK H;clear H;have aD:w4.cell? ⟨ae,0,none⟩=some (.slice af ab.length ag):=(qC aa.out 0).trans rfl;have aE:w4.cell? ⟨ae,1,none⟩=some (.slice ah ac.length ai):=(qC aa.out 1).trans rfl;have aG:=qF aa.out 0;have aH:=qF aa.out 1;go_wp2_with (first|((with_reducible refine gate_callee (f:=23) rfl ?_);refine goesL_ (some 9) rfl rfl Try.func23 (by kernel_rfl) rfl #[.agg #[.slice af ab.length ag,.slice ah ac.length ai]] rfl (by (try simp only [mT,mC,mN]);first|done|rfl|(simp only [lD,lT];rfl)) ?_;(with_reducible refine (spec_GoodStats.calls k _ _ ab _ _ ac true _ ?side1 ?side2 ?side3 ?side4 A5.out).mono ?_);(case side1=>exact (cB al.out HB.out));(case side2=>exact am.out);(case side3=>exact (cB an.out HB.out));(case side4=>exact ao.out);rintro e bC ⟨rfl,hb⟩;refine ⟨_,rfl,?_⟩;have aq:=qK (qB (g:=ae) (o:=_) (by exact aa.out) hb);have ar:=qK (qT HB.out hb);clear aa HB;have aa:=aq;have HB:=ar;clear aq ar;(try clear hb);have aI:bC.cell? ⟨ae,0,none⟩=some (.slice af ab.length ag):=(qC aa.out 0).trans rfl;have aJ:bC.cell? ⟨ae,1,none⟩=some (.slice ah ac.length ai):=(qC aa.out 1).trans rfl;have aK:=qF aa.out 0;have aM:=qF aa.out 1)|(go_at_call 30;(with_reducible refine (spec_l1Some.calls k _ _ l1 (ab.length:Int) false _ ?side1 ?side2 A7.out).mono ?_);(case side1=>exact (cB bn.out HB.out));(case side2=>exact bo.out);rintro e w' ⟨rfl,⟨nd,rfl⟩⟩))
    go_meet
    case rel=>exact ⟨_,(true),(by rfl),H',⟨by first|omega|exact Nat.le_refl _⟩,⟨aa.out⟩,⟨by repeat (first|(with_reducible first|exact HB.out|apply qA|apply qD|apply qO|refine qS ?_ aY.out)|exact HB.out)⟩⟩
  ·replace c6:=Bool.eq_false_iff.mpr c6;subst c6;have H1:(spec_BestOf.j0 k l1 true ab ac)=some (r1,r2,r3):=by rw [if_neg (show ¬ (false=true) by decide)] at H;exact H
   clear H;have H:=H1;clear H1;have H':=qK H;clear H;have aN:w4.cell? ⟨ae,0,none⟩=some (.slice af ab.length ag):=(qC aa.out 0).trans rfl;have aQ:w4.cell? ⟨ae,1,none⟩=some (.slice ah ac.length ai):=(qC aa.out 1).trans rfl;have aR:=qF aa.out 0;have aT:=qF aa.out 1;go_wp2_with (first|((with_reducible refine gate_callee (f:=23) rfl ?_);refine goesL_ (some 9) rfl rfl Try.func23 (by kernel_rfl) rfl #[.agg #[.slice af ab.length ag,.slice ah ac.length ai]] rfl (by (try simp only [mT,mC,mN]);first|done|rfl|(simp only [lD,lT];rfl)) ?_;(with_reducible refine (spec_GoodStats.calls k _ _ ab _ _ ac false _ ?side1 ?side2 ?side3 ?side4 A5.out).mono ?_);(case side1=>exact (cB al.out HB.out));(case side2=>exact am.out);(case side3=>exact (cB an.out HB.out));(case side4=>exact ao.out);rintro e bK ⟨rfl,hb⟩;refine ⟨_,rfl,?_⟩;have aq:=qK (qB (g:=ae) (o:=_) (by exact aa.out) hb);have ar:=qK (qT HB.out hb);clear aa HB;have aa:=aq;have HB:=ar;clear aq ar;(try clear hb)))
   go_meet
   case rel=>exact ⟨_,(true),(by rfl),H',⟨by first|omega|exact Nat.le_refl _⟩,⟨aa.out⟩,⟨HB.out⟩⟩
 case rest =>
  clear bp;try clear c1
  try clear c2
  try clear p2
  try clear c6
  try clear c7
  try clear c8
  try clear ay
  try clear az
  try clear aD
  try clear aE
  try clear aI
  try clear aJ
  try clear aN
  try clear aQ
  try clear aZ
  try clear ba
  try clear aA
  try clear aC
  try clear aG
  try clear aH
  try clear aK
  try clear aM
  try clear aR
  try clear aT
  try clear bb
  try clear bc
  obtain ⟨kq,au,rfl,HA,bL,aa,HB⟩:=hcut;cases kq with
  | zero=>exact absurd HA.out (by simp [spec_BestOf.j0])
  | succ kj2 =>
   have H:=HA.out;clear HA;simp only [spec_BestOf.j0] at H;by_cases c17:au=true
   ·subst c17;have H1:(some (([]:List Int),0,false))=some (r1,r2,r3):=by rw [if_pos rfl] at H;exact H
    clear H;have H:=H1;clear H1;simp only [Option.some.injEq,Prod.mk.injEq] at H;obtain ⟨rfl,rfl,rfl⟩:=H;go_wp2
    go_ret3
    exact ⟨_,by rfl,by first|exact Kd.R_nil _ _ _ _ _|exact Kd.N_nil _ _ _ _ _|exact Kd.V_nil _ _ _ _ _|exact Kd.Q_nil _ _ _ _ _|exact Kd.S_nil _ _ _ _ _,HB.out⟩
   ·replace c17:=Bool.eq_false_iff.mpr c17;subst c17;have H1:((spec_l12Best.f kj2 ab ac l1).bind fun ak=>((spec_l12Cost.f kj2 ab ac ak).bind fun av=>(some (ak,av,true))))=some (r1,r2,r3):=by rw [if_neg (show ¬ (false=true) by decide)] at H;exact H
    clear H;have H:=H1;clear H1;replace H:=Option.bind_eq_some_iff.mp H;obtain ⟨ak,bd,H⟩:=H;replace H:((spec_l12Cost.f kj2 ab ac ak).bind fun av=>(some (ak,av,true)))=some (r1,r2,r3):=H;have bH:=qK bd;clear bd;replace H:=Option.bind_eq_some_iff.mp H;obtain ⟨av,be,H⟩:=H;replace H:(some (ak,av,true))=some (r1,r2,r3):=H;have bI:=qK be;clear be;simp only [Option.some.injEq,Prod.mk.injEq] at H;obtain ⟨rfl,rfl,rfl⟩:=H;have bf:wc.cell? ⟨ae,0,none⟩=some (.slice af ab.length ag):=(qC aa.out 0).trans rfl;have bg:wc.cell? ⟨ae,1,none⟩=some (.slice ah ac.length ai):=(qC aa.out 1).trans rfl;have bh:=qF aa.out 0;have bi:=qF aa.out 1;go_wp2_with (first|((with_reducible refine gate_callee (f:=31) rfl ?_);refine goesL_ (some 26) rfl rfl Try.func31 (by kernel_rfl) rfl #[.agg #[.slice af ab.length ag,.slice ah ac.length ai],.slice A1 l1.length c1] rfl (by (try simp only [mT,mC,mN]);first|done|rfl|(simp only [lD,lT];rfl)) ?_;(with_reducible refine (spec_l12Best.calls kj2 _ _ ab _ _ ac _ _ l1 ak _ ?side1 ?side2 ?side3 ?side4 ?side5 ?side6 bH.out).mono ?_);(case side1=>exact (cB al.out HB.out));(case side2=>exact am.out);(case side3=>exact (cB an.out HB.out));(case side4=>exact ao.out);(case side5=>exact (cB bn.out HB.out));(case side6=>exact bo.out);rintro e bD ⟨bJ,rfl,bE,hb⟩;refine ⟨_,rfl,?_⟩;have aq:=qK (Kd.R_lower bE (qZ HB.out));have ar:=qK (qB (g:=ae) (o:=_) (by exact aa.out) hb);have ax:=qK (qT HB.out hb);clear aa HB;have aj:=aq;have aa:=ar;have HB:=ax;clear aq ar ax;(try clear hb);(try clear bE);have bj:bD.cell? ⟨ae,0,none⟩=some (.slice af ab.length ag):=(qC aa.out 0).trans rfl;have bk:bD.cell? ⟨ae,1,none⟩=some (.slice ah ac.length ai):=(qC aa.out 1).trans rfl;have bl:=qF aa.out 0;have bm:=qF aa.out 1;obtain ⟨bq,br,bs⟩:=Kd.R_slice aj.out;subst bs)|((with_reducible refine gate_callee (f:=32) rfl ?_);refine goesL_ (some 30) rfl rfl Try.func32 (by kernel_rfl) rfl #[.agg #[.slice af ab.length ag,.slice ah ac.length ai],.slice bq ak.length br] rfl (by (try simp only [mT,mC,mN]);first|done|rfl|(simp only [lD,lT];rfl)) ?_;(with_reducible refine (spec_l12Cost.calls kj2 _ _ ab _ _ ac _ _ ak av _ ?side1 ?side2 ?side3 ?side4 ?side5 ?side6 bI.out).mono ?_);(case side1=>exact (cB al.out HB.out));(case side2=>exact am.out);(case side3=>exact (cB an.out HB.out));(case side4=>exact ao.out);(case side5=>exact (Kd.R_reads' aj.out).2.2);(case side6=>exact (Kd.R_reads' aj.out).2.1);rintro e bM ⟨rfl,hb⟩;refine ⟨_,rfl,?_⟩;have aq:=qK (rB aj.out hb);have ar:=qK (qB (g:=ae) (o:=_) (by exact aa.out) hb);have ax:=qK (qT HB.out hb);clear aj aa HB;have aj:=aq;have aa:=ar;have HB:=ax;clear aq ar ax;(try clear hb)))
    go_ret3
    exact ⟨_,by rfl,aj.out,HB.out⟩

/-! ### idxf_Int: function 70 -/
set_option maxHeartbeats 4000000 in
set_option maxRecDepth 100000 in
theorem idxf_Int.calls (A : Option Addr) (c : Nat) (l : List (Int)) (g : Nat) (lb : Array Value) (p : Int → Bool) (w : World) (eg : ∀ args w, (callFunc g args).run Try.prog w = .ok (.enter g args) w)
    (hr : Kd.C (Kd.int .i64) w A l.length l) (hp : PredOn Try.prog g lb (One (Kd.int .i64)) p l w) :
    Calls Try.prog 70 #[.slice A l.length c, .func (.func g) #[] lb] w fun e w' => e = .returned (.int .i64 (idxf p l)) ∧ Below w.heap.size w w' := by
  have hl : l.length ≤ 9223372036854775807 := hr.2.1
  have HR := Aside0.mk hr
  clear hr
  have HP := Aside0.mk hp
  clear hp
  go_enter Try.func70, Try.ntmps70
  go_wp2
  go_loopg [5, 8] l.length (fun gg _ s8 wr => ∃ kk : Nat, kk ≤ l.length ∧ l.length - kk ≤ gg ∧ s8 = .int .i64 kk ∧ Aside0 (Below w.heap.size w wr) ∧ Aside0 (∀ j, (hj : j < l.length) → j < kk → p l[j] = false))
  case atStart => exact ⟨0, Nat.zero_le _, by omega, rfl, ⟨Below.refl _ w⟩, ⟨fun j hj h => absurd h (Nat.not_lt_zero _)⟩⟩
  case round =>
    obtain ⟨kk, hkk, hg, rfl, BW, AA⟩ := hrel
    by_cases hlt : kk < l.length
    · have hltz : (kk : Int) < (l.length : Int) := by omega
      have hmem : l[kk] ∈ l := List.getElem_mem hlt
      obtain ⟨ad, cs, e1, hlen, hK, hcell⟩ := Kd.C_get (Kd.C_below HR.out BW.out) l[kk] (kk : Int) (by omega) (by omega)
      cases e1
      have hrd : l.getD (kk : Int).toNat l[kk] = l[kk] := by simp [hlt]
      rw [hrd] at hK
      replace hlen : cs.length = 1 := hlen
      obtain ⟨aa, rfl⟩ : ∃ aa : Value, cs = [aa] := list_len1 hlen
      replace hcell : ∀ j u, ([aa] : List Value)[j]? = some u → wr.cell? (ad.add ((kk : Int).toNat * 1 + j)) = some u := hcell
      have ac : wr.cell? (ad.add kk) = some aa := by have := hcell 0 _ rfl; simpa using this
      have hcall := HP.out wr l[kk] (aa) hmem BW.out hK
      clear hcell hK hlen hmem hrd
      have AY : Aside0 (∃ y, y = l[kk]) := ⟨⟨_, rfl⟩⟩
      obtain ⟨⟨y, hy⟩⟩ := AY
      rw [← hy] at hcall
      have HY := Aside0.mk hy
      clear hy
      cases hq : p y with
      | true =>
        rw [hq] at hcall
        have HQ := Aside0.mk hq
        clear hq
        go_wp2_with (go_at_fn g; refine hcall.mono ?_; rintro e w' ⟨rfl, hb'⟩)
        go_ret
        refine ⟨?_, below_step BW.out hb'⟩
        rw [idxf_hit hlt (by rw [← HY.out]; exact HQ.out) (fun j hj => AA.out j (by omega) hj)]
        rfl
      | false =>
        rw [hq] at hcall
        have HQ := Aside0.mk hq
        clear hq
        go_wp2_with (go_at_fn g; refine hcall.mono ?_; rintro e w' ⟨rfl, hb'⟩)
        go_roundg (l.length - (kk + 1))
        case measure => omega
        case rel =>
          refine ⟨kk + 1, by omega, by omega, by go_num, ⟨below_step BW.out hb'⟩, ⟨fun j hj ab => ?_⟩⟩
          by_cases e : j = kk
          · subst e
            rw [← HY.out]; exact HQ.out
          · exact AA.out j hj (by omega)
    · have hltz : ¬ (kk : Int) < (l.length : Int) := by omega
      go_wp2
      go_ret
      refine ⟨?_, BW.out⟩
      rw [idxf_miss (fun j hj => AA.out j hj (by omega))]
      rfl

/-! ### anyf_Int: function 62 -/
set_option maxHeartbeats 4000000 in
set_option maxRecDepth 100000 in
theorem anyf_Int.calls (A : Option Addr) (c : Nat) (l : List (Int)) (g : Nat) (lb : Array Value) (p : Int → Bool) (w : World) (eg : ∀ args w, (callFunc g args).run Try.prog w = .ok (.enter g args) w)
    (hr : Kd.C (Kd.int .i64) w A l.length l) (hp : PredOn Try.prog g lb (One (Kd.int .i64)) p l w) :
    Calls Try.prog 62 #[.slice A l.length c, .func (.func g) #[] lb] w fun e w' => e = .returned (.bool (l.any p)) ∧ Below w.heap.size w w' := by
  rw [← idxf_any p l]
  have HR := Aside0.mk hr
  clear hr
  have HP := Aside0.mk hp
  clear hp
  obtain ⟨i, hi⟩ : ∃ i, i = idxf p l := ⟨_, rfl⟩
  rw [← hi]
  have HI := Aside0.mk hi
  clear hi
  go_enter Try.func62, Try.ntmps62
  go_wp2_with (go_at_call 70; refine (idxf_Int.calls A c l g lb p _ eg HR.out HP.out).mono ?_; rw [← HI.out]; rintro e w' ⟨rfl, hb'⟩)
  go_ret
  exact ⟨rfl, hb'⟩

/-! ### areAll1_Int: function 63 -/
set_option maxHeartbeats 4000000 in
set_option maxRecDepth 100000 in
theorem areAll1_Int.pred (B : Nat) (l : List (Int)) (g : Nat) (lb : Array Value) (p : Int → Bool) (w : World) (eg : ∀ args w, (callFunc g args).run Try.prog w = .ok (.enter g args) w)
    (hB : w.cell? ⟨B, 0, none⟩ = some (.func (.func g) #[] lb)) (hp : PredOn Try.prog g lb (One (Kd.int .i64)) p l w) :
    PredOn Try.prog 63 #[.pointer (some ⟨B, 0, none⟩)] (One (Kd.int .i64)) (fun x => !p x) l w := by
  intro W x v hx hW hv
  obtain ⟨c0_, rfl⟩ : ∃ c0_, c0_ = v := ⟨_, rfl⟩
  have hB' : W.cell? ⟨B, 0, none⟩ = some (.func (.func g) #[] lb) := pw_cell_below hW hB
  have HP := Aside0.mk hp
  clear hp hB
  obtain ⟨b, hb⟩ : ∃ b, b = p x := ⟨_, rfl⟩
  have hb0 := Aside0.mk hb
  have HV := Aside0.mk hv
  have HWW := Aside0.mk hW
  clear hv hW
  show Calls Try.prog 63 #[c0_, .pointer (some ⟨B, 0, none⟩)] W fun e W' => e = .returned (.bool (!p x)) ∧ Below W.heap.size W W'
  rw [← hb]
  clear hb
  cases b with
  | true =>
    go_enter Try.func63, Try.ntmps63
    go_wp2_with (go_at_fn g; refine (HP.out _ x _ hx HWW.out HV.out).mono ?_; rw [← hb0.out]; rintro e w' ⟨rfl, hb'⟩)
    go_ret
    exact ⟨rfl, hb'⟩
  | false =>
    go_enter Try.func63, Try.ntmps63
    go_wp2_with (go_at_fn g; refine (HP.out _ x _ hx HWW.out HV.out).mono ?_; rw [← hb0.out]; rintro e w' ⟨rfl, hb'⟩)
    go_ret
    exact ⟨rfl, hb'⟩

/-! ### areAll_Int: function 46 -/
set_option maxHeartbeats 4000000 in
set_option maxRecDepth 100000 in
theorem areAll_Int.calls (A : Option Addr) (c : Nat) (l : List (Int)) (g : Nat) (lb : Array Value) (p : Int → Bool) (w : World) (eg : ∀ args w, (callFunc g args).run Try.prog w = .ok (.enter g args) w)
    (hr : Kd.C (Kd.int .i64) w A l.length l) (hp : PredOn Try.prog g lb (One (Kd.int .i64)) p l w) :
    Calls Try.prog 46 #[.slice A l.length c, .func (.func g) #[] lb] w fun e w' => e = .returned (.bool (l.all p)) ∧ Below w.heap.size w w' := by
  have aa : Below w.heap.size w (w.alloc (.cells #[.func (.func g) #[] lb] 71)) := below_alloc (Below.refl _ _) _
  have ab := areAll1_Int.pred w.heap.size l g lb p (w.alloc (.cells #[.func (.func g) #[] lb] 71)) eg (by simp) (hp.grown aa)
  have HR := Aside0.mk (Kd.C_below hr aa)
  have HP := Aside0.mk ab
  have ac := Aside0.mk aa
  clear hr hp ab aa
  obtain ⟨b, hb⟩ : ∃ b, b = l.any (fun x => !p x) := ⟨_, rfl⟩
  have hall : l.all p = !b := by rw [hb, List.all_eq_not_any_not]
  rw [hall]
  have ae := Aside0.mk hb
  clear hb hall
  have e1 := enters_of Try.func63 (by kernel_rfl) rfl
  cases b with
  | true =>
    go_enter Try.func46, Try.ntmps46
    go_wp2_with (go_at_call 62; refine (anyf_Int.calls A c l _ _ _ _ e1 HR.out HP.out).mono ?_; rw [← ae.out]; rintro e w' ⟨rfl, hb'⟩)
    go_ret
    exact ⟨rfl, below_step ac.out hb'⟩
  | false =>
    go_enter Try.func46, Try.ntmps46
    go_wp2_with (go_at_call 62; refine (anyf_Int.calls A c l _ _ _ _ e1 HR.out HP.out).mono ?_; rw [← ae.out]; rintro e w' ⟨rfl, hb'⟩)
    go_ret
    exact ⟨rfl, below_step ac.out hb'⟩

/-! ### impl_within: function 45 -/
def impl_within.f (a0:Int) (a1:Int) (a2:Int):Option (Bool):=if a1≤a0 then (some (decide (a0≤a2))) else (some false)
set_option maxHeartbeats 8000000 in
set_option maxRecDepth 100000 in
theorem impl_within.calls (a0:Int) (a1:Int) (a2:Int) (r:Bool) (w:World) (h:impl_within.f a0 a1 a2=some r) :
  Calls Try.prog 45 #[.int .i64 a0,.int .i64 a1,.int .i64 a2] w fun e w'=>e=.returned (.bool r)∧Drawn0 w w':=by
 have H:(if a1≤a0 then (some (decide (a0≤a2))) else (some false))=some r:=h;clear h;by_cases c4:a1≤a0
 ·rw [if_pos c4] at H;have aa:decide (a1≤a0)=true:=decide_eq_true c4;clear c4;obtain rfl:=Option.some.inj H;go_enter Try.func45,Try.ntmps45
  go_wp2
  go_ret
  exact ⟨by first|rfl|(simp;done)|(simp [*];done),by repeat (first|exact Drawn0.refl _|apply Drawn0.step)⟩
 ·rw [if_neg c4] at H;have aa:decide (a1≤a0)=false:=decide_eq_false c4;clear c4;obtain rfl:=Option.some.inj H;go_enter Try.func45,Try.ntmps45
  go_wp2
  go_ret
  exact ⟨by first|rfl|(simp;done)|(simp [*];done),by repeat (first|exact Drawn0.refl _|apply Drawn0.step)⟩

/-! ### impl_GoodStats_1: function 47 -/
def impl_GoodStats_1.f (a0:Int):Option (Bool):=(impl_within.f a0 1 50).bind fun t205=>(some t205)
set_option maxHeartbeats 8000000 in
set_option maxRecDepth 100000 in
theorem impl_GoodStats_1.calls (a0:Int) (r:Bool) (w:World) (h:impl_GoodStats_1.f a0=some r) :
  Calls Try.prog 47 #[.int .i64 a0] w fun e w'=>e=.returned (.bool r)∧Drawn0 w w':=by
 have H:((impl_within.f a0 1 50).bind fun aa=>(some aa))=some r:=h;clear h;replace H:=Option.bind_eq_some_iff.mp H;obtain ⟨aa,ab,H⟩:=H;replace H:(some aa)=some r:=H;have A2:=qK ab;clear ab;obtain rfl:=Option.some.inj H;go_enter Try.func47,Try.ntmps47
 go_wp2_with (first|((with_reducible refine gate_callee (f:=45) rfl ?_);refine goesL_ (some 4) rfl rfl Try.func45 (by kernel_rfl) rfl #[.int .i64 a0,.int .i64 1,.int .i64 50] rfl (by (try simp only [mT,mC,mN]);first|done|rfl|(simp only [lD,lT];rfl)) ?_;(with_reducible refine (impl_within.calls a0 1 50 aa _ A2.out).mono ?_);rintro e w' ⟨rfl,⟨nd,rfl⟩⟩;refine ⟨_,rfl,?_⟩))
 go_ret
 exact ⟨by first|rfl|(simp;done)|(simp [*];done),by repeat (first|exact Drawn0.refl _|apply Drawn0.step)⟩

/-! ### areAll_impl_GoodStats_1: function 46, handed function 47 -/
def areAll_impl_GoodStats_1.f (l : List Int) : Option Bool := if l.all (fun d => (impl_GoodStats_1.f d).isSome) = true then some (l.all (fun d => (impl_GoodStats_1.f d).getD false)) else none
theorem areAll_impl_GoodStats_1.calls (A : Option Addr) (c : Nat) (l : List Int) (r : Bool) (w : World) (hr : Kd.C (Kd.int .i64) w A l.length l) (hc : l.length ≤ c) (h : areAll_impl_GoodStats_1.f l = some r) :
    Calls Try.prog 46 #[.slice A l.length c, .func (.func 47) #[] #[]] w fun e w' => e = .returned (.bool r) ∧ Below w.heap.size w w' := by
  unfold areAll_impl_GoodStats_1.f at h
  by_cases hs : l.all (fun d => (impl_GoodStats_1.f d).isSome) = true
  case neg => rw [if_neg hs] at h; cases h
  rw [if_pos hs] at h
  obtain rfl : l.all (fun d => (impl_GoodStats_1.f d).getD false) = r := Option.some.inj h
  refine areAll_Int.calls A c l 47 _ _ w (enters_of Try.func47 (by kernel_rfl) rfl) hr ?_
  intro W d v hd hW hv
  obtain ⟨r_, hr_⟩ := Option.isSome_iff_exists.1 (List.all_eq_true.1 hs d hd)
  obtain rfl : v = .int .i64 d := by simpa using (List.cons.inj hv).1
  refine (impl_GoodStats_1.calls (w := W) (h := hr_)).mono ?_
  rintro e w' ⟨rfl, hb⟩
  exact ⟨by show _ = Ending.returned (Value.bool ((impl_GoodStats_1.f d).getD false)); rw [hr_]; rfl, hb.below⟩

/-! ### impl_GoodStats_2: function 48 -/
def impl_GoodStats_2.f (a0:Int):Option (Bool):=(impl_within.f a0 1 10).bind fun t206=>(some t206)
set_option maxHeartbeats 8000000 in
set_option maxRecDepth 100000 in
theorem impl_GoodStats_2.calls (a0:Int) (r:Bool) (w:World) (h:impl_GoodStats_2.f a0=some r) :
  Calls Try.prog 48 #[.int .i64 a0] w fun e w'=>e=.returned (.bool r)∧Drawn0 w w':=by
 have H:((impl_within.f a0 1 10).bind fun aa=>(some aa))=some r:=h;clear h;replace H:=Option.bind_eq_some_iff.mp H;obtain ⟨aa,ab,H⟩:=H;replace H:(some aa)=some r:=H;have A2:=qK ab;clear ab;obtain rfl:=Option.some.inj H;go_enter Try.func48,Try.ntmps48
 go_wp2_with (first|((with_reducible refine gate_callee (f:=45) rfl ?_);refine goesL_ (some 4) rfl rfl Try.func45 (by kernel_rfl) rfl #[.int .i64 a0,.int .i64 1,.int .i64 10] rfl (by (try simp only [mT,mC,mN]);first|done|rfl|(simp only [lD,lT];rfl)) ?_;(with_reducible refine (impl_within.calls a0 1 10 aa _ A2.out).mono ?_);rintro e w' ⟨rfl,⟨nd,rfl⟩⟩;refine ⟨_,rfl,?_⟩))
 go_ret
 exact ⟨by first|rfl|(simp;done)|(simp [*];done),by repeat (first|exact Drawn0.refl _|apply Drawn0.step)⟩

/-! ### areAll_impl_GoodStats_2: function 46, handed function 48 -/
def areAll_impl_GoodStats_2.f (l : List Int) : Option Bool := if l.all (fun d => (impl_GoodStats_2.f d).isSome) = true then some (l.all (fun d => (impl_GoodStats_2.f d).getD false)) else none
theorem areAll_impl_GoodStats_2.calls (A : Option Addr) (c : Nat) (l : List Int) (r : Bool) (w : World) (hr : Kd.C (Kd.int .i64) w A l.length l) (hc : l.length ≤ c) (h : areAll_impl_GoodStats_2.f l = some r) :
    Calls Try.prog 46 #[.slice A l.length c, .func (.func 48) #[] #[]] w fun e w' => e = .returned (.bool r) ∧ Below w.heap.size w w' := by
  unfold areAll_impl_GoodStats_2.f at h
  by_cases hs : l.all (fun d => (impl_GoodStats_2.f d).isSome) = true
  case neg => rw [if_neg hs] at h; cases h
  rw [if_pos hs] at h
  obtain rfl : l.all (fun d => (impl_GoodStats_2.f d).getD false) = r := Option.some.inj h
  refine areAll_Int.calls A c l 48 _ _ w (enters_of Try.func48 (by kernel_rfl) rfl) hr ?_
  intro W d v hd hW hv
  obtain ⟨r_, hr_⟩ := Option.isSome_iff_exists.1 (List.all_eq_true.1 hs d hd)
  obtain rfl : v = .int .i64 d := by simpa using (List.cons.inj hv).1
  refine (impl_GoodStats_2.calls (w := W) (h := hr_)).mono ?_
  rintro e w' ⟨rfl, hb⟩
  exact ⟨by show _ = Ending.returned (Value.bool ((impl_GoodStats_2.f d).getD false)); rw [hr_]; rfl, hb.below⟩

/-! ### impl_GoodStats: function 22 -/
mutual
def impl_GoodStats.j0 : Nat→Bool→List Int→List (List Int)→Option (Bool)
 | 0,_,_,_=>none
 | k + 1,x24,x208000,x208001=>if x24=true then (some false) else (impl_GoodStats.l0 k x208001 (x208001.length:Int) 0)
def impl_GoodStats.l0 : Nat→List (List Int)→Int→Int→Option (Bool)
 | 0,_,_,_=>none
 | k + 1,x26,x27,x28=>if x28 < x27 then (if 0≤x28 then (if x28 < (x26.length:Int) then (if ((rd_L1 x26 x28).length:Int)=x28 then ((areAll_impl_GoodStats_2.f (rd_L1 x26 x28)).bind fun t211=>(if t211=true then (impl_GoodStats.l0 k x26 x27 (wrap64 (x28 + 1))) else (some false))) else (some false)) else (none)) else (none)) else (some true)
end
def impl_GoodStats.f (k:Nat) (l0_0:List Int) (l0_1:List (List Int)):Option (Bool):=(impl_within.f (l0_0.length:Int) 1 6).bind fun t208=>(if t208=true then (if (l0_1.length:Int)=(l0_0.length:Int) then ((areAll_impl_GoodStats_1.f l0_0).bind fun t209=>(impl_GoodStats.j0 k (!t209) l0_0 l0_1)) else (impl_GoodStats.j0 k true l0_0 l0_1)) else (impl_GoodStats.j0 k true l0_0 l0_1))
theorem impl_GoodStats.mono_l : ∀ k,(∀ y0 y1 y2,LeO (impl_GoodStats.j0 k y0 y1 y2) (impl_GoodStats.j0 (k + 1) y0 y1 y2))∧(∀ y0 y1 y2,LeO (impl_GoodStats.l0 k y0 y1 y2) (impl_GoodStats.l0 (k + 1) y0 y1 y2))
 | 0=>⟨fun _ _ _ r h=>by simp [impl_GoodStats.j0] at h,fun _ _ _ r h=>by simp [impl_GoodStats.l0] at h⟩
 | k + 1=>by
  obtain ⟨aa,ab⟩:=impl_GoodStats.mono_l k;refine ⟨?_,?_⟩
  ·intro y0 y1 y2;unfold impl_GoodStats.j0
   repeat' first
   | (with_reducible exact aa _ _ _)
   | (with_reducible exact ab _ _ _)
   | (with_reducible exact LeO.refl _)
   | (with_reducible exact LeO.none _)
   | (with_reducible refine LeO.ite ?_ ?_)
   | (with_reducible refine LeO.bind ?_ (fun _=>?_))
   | exact aa _ _ _
   | exact ab _ _ _
   | exact LeO.none _
   | refine LeO.ite ?_ ?_
   | refine LeO.bind ?_ (fun _=>?_)
  ·intro y0 y1 y2;unfold impl_GoodStats.l0
   repeat' first
   | (with_reducible exact aa _ _ _)
   | (with_reducible exact ab _ _ _)
   | (with_reducible exact LeO.refl _)
   | (with_reducible exact LeO.none _)
   | (with_reducible refine LeO.ite ?_ ?_)
   | (with_reducible refine LeO.bind ?_ (fun _=>?_))
   | exact aa _ _ _
   | exact ab _ _ _
   | exact LeO.none _
   | refine LeO.ite ?_ ?_
   | refine LeO.bind ?_ (fun _=>?_)
theorem impl_GoodStats.mono : ∀ a0 a1 k,LeO (impl_GoodStats.f k a0 a1) (impl_GoodStats.f (k + 1) a0 a1):=by
 intro a0 a1 k;obtain ⟨aa,ab⟩:=impl_GoodStats.mono_l k;unfold impl_GoodStats.f
 repeat' first
   | (with_reducible exact aa _ _ _)
   | (with_reducible exact ab _ _ _)
   | (with_reducible exact LeO.refl _)
   | (with_reducible exact LeO.none _)
   | (with_reducible refine LeO.ite ?_ ?_)
   | (with_reducible refine LeO.bind ?_ (fun _=>?_))
   | exact aa _ _ _
   | exact ab _ _ _
   | exact LeO.none _
   | refine LeO.ite ?_ ?_
   | refine LeO.bind ?_ (fun _=>?_)
set_option maxHeartbeats 8000000 in
set_option maxRecDepth 100000 in
theorem impl_GoodStats.calls (k:Nat) (an:Option Addr) (ao:Nat) (ae:List Int) (ap:Option Addr) (aq:Nat) (aa:List (List Int)) (r:Bool) (w:World) (ba:Kd.C (Kd.int .i64) w an ae.length ae) (bb:ae.length≤ao) (bc:Kd.C (Kd.slice 3 (Kd.int .i64)) w ap aa.length aa) (bd:aa.length≤aq) (h:impl_GoodStats.f k ae aa=some r) :
  Calls Try.prog 22 #[.agg #[.slice an ae.length ao,.slice ap aa.length aq]] w fun e w'=>e=.returned (.bool r)∧Below w.heap.size w w':=by
 have bB:=Try.underlying29;have bh:=qK ba;have bi:=qK bb;clear ba bb;have aH:=qK bc;have bq:=qK bd;clear bc bd;have HB:=qK (Below.refl w.heap.size w);have H:((impl_within.f (ae.length:Int) 1 6).bind fun aV=>(if aV=true then (if (aa.length:Int)=(ae.length:Int) then ((areAll_impl_GoodStats_1.f ae).bind fun ar=>(impl_GoodStats.j0 k (!ar) ae aa)) else (impl_GoodStats.j0 k true ae aa)) else (impl_GoodStats.j0 k true ae aa)))=some r:=h;clear h;have bo:=qK H;clear H;go_enter Try.func22,Try.ntmps22
 go_upto_region 1 with (first|((with_reducible refine gate_dst (N:=1) rfl ?_);(try (refine gate_guard (by rfl) ?_;dsimp only));refine box_event ?hg (N:=1) ?hd (cs:=#[.slice an ae.length ao,.slice ap aa.length aq]) (t:=29) ?hr ?_;(case hd=>rfl);(case hg=>rfl);(case hr=>(go_simp;try rfl));intro ag hg w3 hbox hb;have aI:=qK (qT HB.out hb);have aJ:=qK (hbox);have bp:=qK ((by rw [hg];exact (qZ HB.out):w.heap.size≤ag));have br:=bp;clear HB;have HB:=aI;have ac:=aJ;have bs:=bp;have av:=br;clear aI aJ bp br;clear hb hbox hg))
 (try simp only [Act.put,List.setIfInBounds_toArray,List.set_cons_zero,List.set_cons_succ]);go_cut [24] (fun bC wc=>∃ (kq:Nat) (aw:Bool),bC=.bool aw∧Aside0 (impl_GoodStats.j0 kq aw ae aa=some r)∧Aside0 (kq≤k)∧Aside0 (wc.heap[ag]?=some (.cells #[(.slice an ae.length ao),(.slice ap aa.length aq)] 29 (0,0)))∧Aside0 (Below w.heap.size w wc))
 case first =>
  have H:=bo.out;clear bo;replace H:=Option.bind_eq_some_iff.mp H;obtain ⟨aV,bt,H⟩:=H;replace H:(if aV=true then (if (aa.length:Int)=(ae.length:Int) then ((areAll_impl_GoodStats_1.f ae).bind fun ar=>(impl_GoodStats.j0 k (!ar) ae aa)) else (impl_GoodStats.j0 k true ae aa)) else (impl_GoodStats.j0 k true ae aa))=some r:=H;have A4:=qK bt;clear bt;by_cases c5:aV=true
  ·subst c5;have H1:(if (aa.length:Int)=(ae.length:Int) then ((areAll_impl_GoodStats_1.f ae).bind fun ar=>(impl_GoodStats.j0 k (!ar) ae aa)) else (impl_GoodStats.j0 k true ae aa))=some r:=by rw [if_pos rfl] at H;exact H
   clear H;have H:=H1;clear H1;by_cases c6:(aa.length:Int)=(ae.length:Int)
   ·rw [if_pos c6] at H;have au:((aa.length:Int) == (ae.length:Int))=true:=beq_iff_eq.mpr c6;have bf:((aa.length:Int) != (ae.length:Int))=false:=bne_eq_false_iff_eq.mpr c6;have bg:(aa.length == ae.length)=true:=by first|simpa using c6|(simp at c6 ⊢;omega)
    clear c6;(first|rw [au]|(simp only [i64_w,i32_w];rw [au])|skip);replace H:=Option.bind_eq_some_iff.mp H;obtain ⟨ar,bu,H⟩:=H;replace H:(impl_GoodStats.j0 k (!ar) ae aa)=some r:=H;have A7:=qK bu;clear bu;have H':=qK H;clear H;have aK:w3.cell? ⟨ag,0,none⟩=some (.slice an ae.length ao):=(qC ac.out 0).trans rfl;have aM:w3.cell? ⟨ag,1,none⟩=some (.slice ap aa.length aq):=(qC ac.out 1).trans rfl;have aN:=qF ac.out 0;have aQ:=qF ac.out 1;go_wp2_with (first|((with_reducible refine gate_callee (f:=45) rfl ?_);refine goesL_ (some 8) rfl rfl Try.func45 (by kernel_rfl) rfl #[.int .i64 (ae.length:Int),.int .i64 1,.int .i64 6] rfl (by (try simp only [mT,mC,mN]);first|done|rfl|(simp only [lD,lT];rfl)) ?_;(with_reducible refine (impl_within.calls (ae.length:Int) 1 6 true _ A4.out).mono ?_);rintro e w' ⟨rfl,⟨nd,rfl⟩⟩;refine ⟨_,rfl,?_⟩)|(go_at_call 46;(with_reducible refine (areAll_impl_GoodStats_1.calls _ _ ae  ar _ ?side1 ?side2 A7.out).mono ?_);(case side1=>exact (cB bh.out (by repeat (with_reducible first|exact HB.out|apply qA|apply qD|apply qO|refine qS ?_ av.out))));(case side2=>exact bi.out);rintro e w9 ⟨rfl,hb⟩;have aI:=qK (qB (g:=ag) (o:=_) (by exact ac.out) hb);have aJ:=qK (qT (by repeat (with_reducible first|exact HB.out|apply qA|apply qD|apply qO|refine qS ?_ av.out)) hb);clear ac HB;have ac:=aI;have HB:=aJ;clear aI aJ;(try clear hb)))
    go_meet
    case rel=>exact ⟨_,(!ar),(by rfl),H',⟨by first|omega|exact Nat.le_refl _⟩,⟨ac.out⟩,⟨HB.out⟩⟩
   ·rw [if_neg c6] at H;have au:((aa.length:Int) == (ae.length:Int))=false:=beq_eq_false_iff_ne.mpr c6;have bf:((aa.length:Int) != (ae.length:Int))=true:=bne_iff_ne.mpr c6;have bg:(aa.length == ae.length)=false:=by first|simpa using c6|(simp at c6 ⊢;omega)
    (first|rw [au]|(simp only [i64_w,i32_w];rw [au])|skip);have H':=qK H;clear H;have ax:w3.cell? ⟨ag,0,none⟩=some (.slice an ae.length ao):=(qC ac.out 0).trans rfl;have ay:w3.cell? ⟨ag,1,none⟩=some (.slice ap aa.length aq):=(qC ac.out 1).trans rfl;have az:=qF ac.out 0;have aA:=qF ac.out 1;go_wp2_with (first|((with_reducible refine gate_callee (f:=45) rfl ?_);refine goesL_ (some 8) rfl rfl Try.func45 (by kernel_rfl) rfl #[.int .i64 (ae.length:Int),.int .i64 1,.int .i64 6] rfl (by (try simp only [mT,mC,mN]);first|done|rfl|(simp only [lD,lT];rfl)) ?_;(with_reducible refine (impl_within.calls (ae.length:Int) 1 6 true _ A4.out).mono ?_);rintro e w' ⟨rfl,⟨nd,rfl⟩⟩;refine ⟨_,rfl,?_⟩))
    go_meet
    case rel=>exact ⟨_,(true),(by rfl),H',⟨by first|omega|exact Nat.le_refl _⟩,⟨ac.out⟩,⟨by repeat (first|(with_reducible first|exact HB.out|apply qA|apply qD|apply qO|refine qS ?_ av.out)|exact HB.out)⟩⟩
  ·replace c5:=Bool.eq_false_iff.mpr c5;subst c5;have H1:(impl_GoodStats.j0 k true ae aa)=some r:=by rw [if_neg (show ¬ (false=true) by decide)] at H;exact H
   clear H;have H:=H1;clear H1;have H':=qK H;clear H;have aC:w3.cell? ⟨ag,0,none⟩=some (.slice an ae.length ao):=(qC ac.out 0).trans rfl;have aD:w3.cell? ⟨ag,1,none⟩=some (.slice ap aa.length aq):=(qC ac.out 1).trans rfl;have aE:=qF ac.out 0;have aG:=qF ac.out 1;go_wp2_with (first|((with_reducible refine gate_callee (f:=45) rfl ?_);refine goesL_ (some 8) rfl rfl Try.func45 (by kernel_rfl) rfl #[.int .i64 (ae.length:Int),.int .i64 1,.int .i64 6] rfl (by (try simp only [mT,mC,mN]);first|done|rfl|(simp only [lD,lT];rfl)) ?_;(with_reducible refine (impl_within.calls (ae.length:Int) 1 6 false _ A4.out).mono ?_);rintro e w' ⟨rfl,⟨nd,rfl⟩⟩;refine ⟨_,rfl,?_⟩))
   go_meet
   case rel=>exact ⟨_,(true),(by rfl),H',⟨by first|omega|exact Nat.le_refl _⟩,⟨ac.out⟩,⟨by repeat (first|(with_reducible first|exact HB.out|apply qA|apply qD|apply qO|refine qS ?_ av.out)|exact HB.out)⟩⟩
 case rest =>
  clear bo;try clear c2
  try clear p2
  try clear c4
  try clear c5
  try clear c6
  try clear au
  try clear bf
  try clear bg
  try clear ax
  try clear ay
  try clear aC
  try clear aD
  try clear aK
  try clear aM
  try clear az
  try clear aA
  try clear aE
  try clear aG
  try clear aN
  try clear aQ
  obtain ⟨kq,aw,rfl,HA,bv,ac,HB⟩:=hcut;cases kq with
  | zero=>exact absurd HA.out (by simp [impl_GoodStats.j0])
  | succ kj1 =>
   have H:=HA.out;clear HA;simp only [impl_GoodStats.j0] at H;by_cases c12:aw=true
   ·subst c12;have H1:(some false)=some r:=by rw [if_pos rfl] at H;exact H
    clear H;have H:=H1;clear H1;obtain rfl:=Option.some.inj H;go_wp2
    go_ret
    exact ⟨by rfl,HB.out⟩
   ·replace c12:=Bool.eq_false_iff.mpr c12;subst c12;have H1:(impl_GoodStats.l0 kj1 aa (aa.length:Int) 0)=some r:=by rw [if_neg (show ¬ (false=true) by decide)] at H;exact H
    clear H;have H:=H1;clear H1;have H':=qK H;clear H;have aW:wc.cell? ⟨ag,0,none⟩=some (.slice an ae.length ao):=(qC ac.out 0).trans rfl;have aX:wc.cell? ⟨ag,1,none⟩=some (.slice ap aa.length aq):=(qC ac.out 1).trans rfl;have aY:=qF ac.out 0;have aZ:=qF ac.out 1;go_wp2
    go_loopg [28] kj1 (fun kq bD w'=>∃ (ab:Int),bD=.int .i64 ab∧Aside0 (impl_GoodStats.l0 kq aa (aa.length:Int) ab=some r)∧Aside0 (kq≤kj1)∧Aside0 (w'.heap[ag]?=some (.cells #[(.slice an ae.length ao),(.slice ap aa.length aq)] 29 (0,0)))∧Aside0 (Below w.heap.size w w'))
    case atStart=>exact ⟨(0),(by rfl),H',⟨Nat.le_refl _⟩,⟨ac.out⟩,⟨HB.out⟩⟩
    case round =>
     clear H';try clear c1
     try clear c2
     try clear p2
     try clear c4
     try clear c5
     try clear c6
     try clear au
     try clear bf
     try clear bg
     try clear c12
     try clear ax
     try clear ay
     try clear aC
     try clear aD
     try clear aW
     try clear aX
     try clear aK
     try clear aM
     try clear az
     try clear aA
     try clear aE
     try clear aG
     try clear aY
     try clear aZ
     try clear aN
     try clear aQ
     try clear p2
     obtain ⟨ab,rfl,HA,bw,ac,HB⟩:=hrel;cases gk with
     | zero=>exact absurd HA.out (by simp [impl_GoodStats.l0])
     | succ k2 =>
      have H:=HA.out;clear HA;simp only [impl_GoodStats.l0] at H;by_cases c14:ab < (aa.length:Int)
      ·rw [if_pos c14] at H;have bj:decide (ab < (aa.length:Int))=true:=decide_eq_true c14;clear c14;by_cases c15:0≤ab
       ·rw [if_pos c15] at H;have bx:decide (0≤ab)=true:=decide_eq_true c15;clear c15;by_cases c16:ab < (aa.length:Int)
        ·rw [if_pos c16] at H;have bz:decide (ab < (aa.length:Int))=true:=decide_eq_true c16;clear c16;by_cases c17:((rd_L1 aa ab).length:Int)=ab
         ·rw [if_pos c17] at H;have bk:(((rd_L1 aa ab).length:Int) == ab)=true:=beq_iff_eq.mpr c17;have bl:(((rd_L1 aa ab).length:Int) != ab)=false:=bne_eq_false_iff_eq.mpr c17;clear c17;replace H:=Option.bind_eq_some_iff.mp H;obtain ⟨bm,bn,H⟩:=H;replace H:(if bm=true then (impl_GoodStats.l0 k2 aa (aa.length:Int) (wrap64 (ab + 1))) else (some false))=some r:=H;have bA:=qK bn;clear bn;by_cases c19:bm=true
          ·subst c19;have H1:(impl_GoodStats.l0 k2 aa (aa.length:Int) (wrap64 (ab + 1)))=some r:=by rw [if_pos rfl] at H;exact H
           clear H;have H:=H1;clear H1;have H':=qK H;clear H;have al:0≤(ab:Int):=of_decide_eq_true (by assumption);have am:ab < (aa.length:Int):=of_decide_eq_true (by assumption);obtain ⟨be,aR,aT,aU,af,ah,ai⟩:=at_L1 aH.out ab al am;cases aU
           replace af:=(HB.out.cell (World.block_lt_of_cell? w _ af)).trans af;have aj:=qK ai;have ak:=qK ah;clear ai ah;replace al:=eq_true al;replace am:=eq_true am;go_wp2_with (first|(go_at_call 46;(with_reducible refine (areAll_impl_GoodStats_2.calls _ _ (rd_L1 aa ab)  true _ ?side1 ?side2 bA.out).mono ?_);(case side1=>exact (cB aj.out HB.out));(case side2=>exact ak.out);rintro e bE ⟨rfl,hb⟩;have aI:=qK (qB (g:=ag) (o:=_) (by exact ac.out) hb);have aJ:=qK (qT HB.out hb);clear ac HB;have ac:=aI;have HB:=aJ;clear aI aJ;(try clear hb)))
           go_roundg k2
           case measure=>have:=bv.out;have:=bw.out;omega
           case rel=>exact ⟨(wrap64 (ab + 1)),(by rfl),H',⟨by have:=bv.out;have:=bw.out;omega⟩,⟨ac.out⟩,⟨HB.out⟩⟩
          ·replace c19:=Bool.eq_false_iff.mpr c19;subst c19;have H1:(some false)=some r:=by rw [if_neg (show ¬ (false=true) by decide)] at H;exact H
           clear H;have H:=H1;clear H1;obtain rfl:=Option.some.inj H;have al:0≤(ab:Int):=of_decide_eq_true (by assumption);have am:ab < (aa.length:Int):=of_decide_eq_true (by assumption);obtain ⟨be,aR,aT,aU,af,ah,ai⟩:=at_L1 aH.out ab al am;cases aU
           replace af:=(HB.out.cell (World.block_lt_of_cell? w _ af)).trans af;have aj:=qK ai;have ak:=qK ah;clear ai ah;replace al:=eq_true al;replace am:=eq_true am;go_wp2_with (first|(go_at_call 46;(with_reducible refine (areAll_impl_GoodStats_2.calls _ _ (rd_L1 aa ab)  false _ ?side1 ?side2 bA.out).mono ?_);(case side1=>exact (cB aj.out HB.out));(case side2=>exact ak.out);rintro e bF ⟨rfl,hb⟩;have aI:=qK (qB (g:=ag) (o:=_) (by exact ac.out) hb);have aJ:=qK (qT HB.out hb);clear ac HB;have ac:=aI;have HB:=aJ;clear aI aJ;(try clear hb)))
           go_ret
           exact ⟨by rfl,HB.out⟩
         ·rw [if_neg c17] at H;have bk:(((rd_L1 aa ab).length:Int) == ab)=false:=beq_eq_false_iff_ne.mpr c17;have bl:(((rd_L1 aa ab).length:Int) != ab)=true:=bne_iff_ne.mpr c17;obtain rfl:=Option.some.inj H;have al:0≤(ab:Int):=of_decide_eq_true (by assumption);have am:ab < (aa.length:Int):=of_decide_eq_true (by assumption);obtain ⟨be,aR,aT,aU,af,ah,ai⟩:=at_L1 aH.out ab al am;cases aU
          replace af:=(HB.out.cell (World.block_lt_of_cell? w _ af)).trans af;have aj:=qK ai;have ak:=qK ah;clear ai ah;replace al:=eq_true al;replace am:=eq_true am;go_wp2
          go_ret
          exact ⟨by rfl,HB.out⟩
        ·rw [if_neg c16] at H;exact absurd H (by simp)
       ·rw [if_neg c15] at H;exact absurd H (by simp)
      ·rw [if_neg c14] at H;have bj:decide (ab < (aa.length:Int))=false:=decide_eq_false c14;clear c14;obtain rfl:=Option.some.inj H;go_wp2
       go_ret
       exact ⟨by rfl,HB.out⟩

/-! ### impl_isPlace: function 71 -/
def impl_isPlace.f (a0:Int) (a1:Int):Option (Bool):=if a0 ≥ 0 then (some (decide (a0 < a1))) else (some false)
set_option maxHeartbeats 8000000 in
set_option maxRecDepth 100000 in
theorem impl_isPlace.calls (a0:Int) (a1:Int) (r:Bool) (w:World) (h:impl_isPlace.f a0 a1=some r) :
  Calls Try.prog 71 #[.int .i64 a0,.int .i64 a1] w fun e w'=>e=.returned (.bool r)∧Drawn0 w w':=by
 have H:(if a0 ≥ 0 then (some (decide (a0 < a1))) else (some false))=some r:=h;clear h;by_cases c3:a0 ≥ 0
 ·rw [if_pos c3] at H;have aa:decide (0≤a0)=true:=decide_eq_true c3;clear c3;obtain rfl:=Option.some.inj H;go_enter Try.func71,Try.ntmps71
  go_wp2
  go_ret
  exact ⟨by first|rfl|(simp;done)|(simp [*];done),by repeat (first|exact Drawn0.refl _|apply Drawn0.step)⟩
 ·rw [if_neg c3] at H;have aa:decide (0≤a0)=false:=decide_eq_false c3;clear c3;obtain rfl:=Option.some.inj H;go_enter Try.func71,Try.ntmps71
  go_wp2
  go_ret
  exact ⟨by first|rfl|(simp;done)|(simp [*];done),by repeat (first|exact Drawn0.refl _|apply Drawn0.step)⟩

/-! ### impl_areRising: function 67 -/
def impl_areRising.l0 : Nat→List Int→Int→List Int→Int→Int→Option (Bool)
 | 0,_,_,_,_,_=>none
 | k + 1,x0,x1,x7,x8,x9=>if x9 < x8 then (if 0≤x9 then (if x9 < (x7.length:Int) then ((impl_isPlace.f (rd x7 x9) x1).bind fun t213=>(if t213=true then (if x9 > 0 then (if 0≤(wrap64 (x9 - 1)) then (if (wrap64 (x9 - 1)) < (x0.length:Int) then (if (rd x7 x9)≤(rd x0 (wrap64 (x9 - 1))) then (some false) else (impl_areRising.l0 k x0 x1 x7 x8 (wrap64 (x9 + 1)))) else (none)) else (none)) else (impl_areRising.l0 k x0 x1 x7 x8 (wrap64 (x9 + 1)))) else (some false))) else (none)) else (none)) else (some true)
def impl_areRising.f (k:Nat) (l0:List Int) (a1:Int):Option (Bool):=impl_areRising.l0 k l0 a1 l0 (l0.length:Int) 0
theorem impl_areRising.mono_l : ∀ k,(∀ y0 y1 y2 y3 y4,LeO (impl_areRising.l0 k y0 y1 y2 y3 y4) (impl_areRising.l0 (k + 1) y0 y1 y2 y3 y4))
 | 0=>fun _ _ _ _ _ r h=>by simp [impl_areRising.l0] at h
 | k + 1=>by
  have aa:=impl_areRising.mono_l k
  ·intro y0 y1 y2 y3 y4;unfold impl_areRising.l0
   repeat' first
   | (with_reducible exact aa _ _ _ _ _)
   | (with_reducible exact LeO.refl _)
   | (with_reducible exact LeO.none _)
   | (with_reducible refine LeO.ite ?_ ?_)
   | (with_reducible refine LeO.bind ?_ (fun _=>?_))
   | exact aa _ _ _ _ _
   | exact LeO.none _
   | refine LeO.ite ?_ ?_
   | refine LeO.bind ?_ (fun _=>?_)
theorem impl_areRising.mono : ∀ a0 a1 k,LeO (impl_areRising.f k a0 a1) (impl_areRising.f (k + 1) a0 a1):=by
 intro a0 a1 k;have aa:=impl_areRising.mono_l k;unfold impl_areRising.f
 repeat' first
   | (with_reducible exact aa _ _ _ _ _)
   | (with_reducible exact LeO.refl _)
   | (with_reducible exact LeO.none _)
   | (with_reducible refine LeO.ite ?_ ?_)
   | (with_reducible refine LeO.bind ?_ (fun _=>?_))
   | exact aa _ _ _ _ _
   | exact LeO.none _
   | refine LeO.ite ?_ ?_
   | refine LeO.bind ?_ (fun _=>?_)
set_option maxHeartbeats 8000000 in
set_option maxRecDepth 100000 in
theorem impl_areRising.calls (k:Nat) (A0:Option Addr) (c0:Nat) (l0:List Int) (a1:Int) (r:Bool) (w:World) (aw:Kd.C (Kd.int .i64) w A0 l0.length l0) (ax:l0.length≤c0) (h:impl_areRising.f k l0 a1=some r) :
  Calls Try.prog 67 #[.slice A0 l0.length c0,.int .i64 a1] w fun e w'=>e=.returned (.bool r)∧Drawn0 w w':=by
 have ao:=qK aw;have aG:=qK ax;clear aw ax;have H:(impl_areRising.l0 k l0 a1 l0 (l0.length:Int) 0)=some r:=h;clear h;have H':=qK H;clear H;go_enter Try.func67,Try.ntmps67
 go_wp2
 go_loopg [9] k (fun kq v9 w'=>∃ (aa:Int),v9=.int .i64 aa∧Aside0 (impl_areRising.l0 kq l0 a1 l0 (l0.length:Int) aa=some r)∧Aside0 (kq≤k)∧Drawn0 w w')
 case atStart=>exact ⟨(0),(by rfl),H',⟨Nat.le_refl _⟩,by repeat (first|exact Drawn0.refl _|apply Drawn0.step)⟩
 case round =>
  clear H';try clear p2
  obtain ⟨aa,rfl,HA,ar,⟨m1,rfl⟩⟩:=hrel;cases gk with
  | zero=>exact absurd HA.out (by simp [impl_areRising.l0])
  | succ k1 =>
   have H:=HA.out;clear HA;simp only [impl_areRising.l0] at H;by_cases c3:aa < (l0.length:Int)
   ·rw [if_pos c3] at H;have au:decide (aa < (l0.length:Int))=true:=decide_eq_true c3;clear c3;by_cases c4:0≤aa
    ·rw [if_pos c4] at H;have aD:decide (0≤aa)=true:=decide_eq_true c4;clear c4;by_cases c5:aa < (l0.length:Int)
     ·rw [if_pos c5] at H;have aE:decide (aa < (l0.length:Int))=true:=decide_eq_true c5;clear c5;replace H:=Option.bind_eq_some_iff.mp H;obtain ⟨ap,ay,H⟩:=H;replace H:(if ap=true then (if aa > 0 then (if 0≤(wrap64 (aa - 1)) then (if (wrap64 (aa - 1)) < (l0.length:Int) then (if (rd l0 aa)≤(rd l0 (wrap64 (aa - 1))) then (some false) else (impl_areRising.l0 k1 l0 a1 l0 (l0.length:Int) (wrap64 (aa + 1)))) else (none)) else (none)) else (impl_areRising.l0 k1 l0 a1 l0 (l0.length:Int) (wrap64 (aa + 1)))) else (some false))=some r:=H;have A6:=qK ay;clear ay;by_cases c7:ap=true
      ·subst c7;have H1:(if aa > 0 then (if 0≤(wrap64 (aa - 1)) then (if (wrap64 (aa - 1)) < (l0.length:Int) then (if (rd l0 aa)≤(rd l0 (wrap64 (aa - 1))) then (some false) else (impl_areRising.l0 k1 l0 a1 l0 (l0.length:Int) (wrap64 (aa + 1)))) else (none)) else (none)) else (impl_areRising.l0 k1 l0 a1 l0 (l0.length:Int) (wrap64 (aa + 1))))=some r:=by rw [if_pos rfl] at H;exact H
       clear H;have H:=H1;clear H1;by_cases c8:aa > 0
       ·rw [if_pos c8] at H;have av:decide (0 < aa)=true:=decide_eq_true c8;clear c8;obtain ⟨af,ak⟩:∃ j_:Int,(wrap64 (aa - 1))=j_:=⟨_,rfl⟩;replace H:(if 0≤(af) then (if (af) < (l0.length:Int) then (if (rd l0 aa)≤(rd l0 (af)) then (some false) else (impl_areRising.l0 k1 l0 a1 l0 (l0.length:Int) (wrap64 (aa + 1)))) else (none)) else (none))=some r:=by first|(rw [ak] at H;exact H)|(simp only [ak] at H ⊢;exact H)
        (try rw [ak] at A6);have az:(IntKind.i64.wrap (aa - 1))=af:=(i64_w _).trans ak;by_cases c10:0≤(af)
        ·rw [if_pos c10] at H;have aA:decide (0≤(af))=true:=decide_eq_true c10;clear c10;by_cases c11:(af) < (l0.length:Int)
         ·rw [if_pos c11] at H;have aC:decide ((af) < (l0.length:Int))=true:=decide_eq_true c11;clear c11;by_cases c12:(rd l0 aa)≤(rd l0 (af))
          ·rw [if_pos c12] at H;have aq:decide ((rd l0 aa)≤(rd l0 (af)))=true:=decide_eq_true c12;clear c12;obtain rfl:=Option.some.inj H;have ab:0≤(aa:Int):=of_decide_eq_true (by assumption);have ac:aa < (l0.length:Int):=of_decide_eq_true (by assumption);obtain ⟨ag,ah,ae⟩:=Kd.at_int ao.out aa ab ac;cases ah
           replace ab:=eq_true ab;replace ac:=eq_true ac;go_wp2_with (first|((with_reducible refine gate_callee (f:=71) rfl ?_);refine goesL_ (some 16) rfl rfl Try.func71 (by kernel_rfl) rfl #[.int .i64 (rd l0 aa),.int .i64 a1] rfl (by (try simp only [mT,mC,mN]);first|done|rfl|(simp only [lD,lT];rfl)) ?_;(with_reducible refine (impl_isPlace.calls (rd l0 aa) a1 true _ A6.out).mono ?_);rintro e w' ⟨rfl,⟨nd,rfl⟩⟩;refine ⟨_,rfl,?_⟩;have ai:0≤((af):Int):=of_decide_eq_true (by assumption);have aj:(af) < (l0.length:Int):=of_decide_eq_true (by assumption);obtain ⟨al,an,am⟩:=Kd.at_int ao.out (af) ai aj;obtain rfl:ag=al:=(by injection an);replace ai:=eq_true ai;replace aj:=eq_true aj))
           go_ret
           exact ⟨by first|rfl|(simp;done)|(simp only [← ak] <;> (first|rfl|simp))|(simp [*];done),by repeat (first|exact Drawn0.refl _|apply Drawn0.step)⟩
          ·rw [if_neg c12] at H;have aq:decide ((rd l0 aa)≤(rd l0 (af)))=false:=decide_eq_false c12;clear c12;have H':=qK H;clear H;have ab:0≤(aa:Int):=of_decide_eq_true (by assumption);have ac:aa < (l0.length:Int):=of_decide_eq_true (by assumption);obtain ⟨ag,ah,ae⟩:=Kd.at_int ao.out aa ab ac;cases ah
           replace ab:=eq_true ab;replace ac:=eq_true ac;go_wp2_with (first|((with_reducible refine gate_callee (f:=71) rfl ?_);refine goesL_ (some 16) rfl rfl Try.func71 (by kernel_rfl) rfl #[.int .i64 (rd l0 aa),.int .i64 a1] rfl (by (try simp only [mT,mC,mN]);first|done|rfl|(simp only [lD,lT];rfl)) ?_;(with_reducible refine (impl_isPlace.calls (rd l0 aa) a1 true _ A6.out).mono ?_);rintro e w' ⟨rfl,⟨nd,rfl⟩⟩;refine ⟨_,rfl,?_⟩;have ai:0≤((af):Int):=of_decide_eq_true (by assumption);have aj:(af) < (l0.length:Int):=of_decide_eq_true (by assumption);obtain ⟨al,an,am⟩:=Kd.at_int ao.out (af) ai aj;obtain rfl:ag=al:=(by injection an);replace ai:=eq_true ai;replace aj:=eq_true aj))
           go_roundg k1
           case measure=>have:=ar.out;omega
           case rel=>exact ⟨(wrap64 (aa + 1)),(by rfl),H',⟨by have:=ar.out;omega⟩,by repeat (first|exact Drawn0.refl _|apply Drawn0.step)⟩
         ·rw [if_neg c11] at H;exact absurd H (by simp)
        ·rw [if_neg c10] at H;exact absurd H (by simp)
       ·rw [if_neg c8] at H;have av:decide (0 < aa)=false:=decide_eq_false c8;clear c8;have H':=qK H;clear H;have ab:0≤(aa:Int):=of_decide_eq_true (by assumption);have ac:aa < (l0.length:Int):=of_decide_eq_true (by assumption);obtain ⟨ag,ah,ae⟩:=Kd.at_int ao.out aa ab ac;cases ah
        replace ab:=eq_true ab;replace ac:=eq_true ac;go_wp2_with (first|((with_reducible refine gate_callee (f:=71) rfl ?_);refine goesL_ (some 16) rfl rfl Try.func71 (by kernel_rfl) rfl #[.int .i64 (rd l0 aa),.int .i64 a1] rfl (by (try simp only [mT,mC,mN]);first|done|rfl|(simp only [lD,lT];rfl)) ?_;(with_reducible refine (impl_isPlace.calls (rd l0 aa) a1 true _ A6.out).mono ?_);rintro e w' ⟨rfl,⟨nd,rfl⟩⟩;refine ⟨_,rfl,?_⟩))
        go_roundg k1
        case measure=>have:=ar.out;omega
        case rel=>exact ⟨(wrap64 (aa + 1)),(by rfl),H',⟨by have:=ar.out;omega⟩,by repeat (first|exact Drawn0.refl _|apply Drawn0.step)⟩
      ·replace c7:=Bool.eq_false_iff.mpr c7;subst c7;have H1:(some false)=some r:=by rw [if_neg (show ¬ (false=true) by decide)] at H;exact H
       clear H;have H:=H1;clear H1;obtain rfl:=Option.some.inj H;have ab:0≤(aa:Int):=of_decide_eq_true (by assumption);have ac:aa < (l0.length:Int):=of_decide_eq_true (by assumption);obtain ⟨ag,ah,ae⟩:=Kd.at_int ao.out aa ab ac;cases ah
       replace ab:=eq_true ab;replace ac:=eq_true ac;go_wp2_with (first|((with_reducible refine gate_callee (f:=71) rfl ?_);refine goesL_ (some 16) rfl rfl Try.func71 (by kernel_rfl) rfl #[.int .i64 (rd l0 aa),.int .i64 a1] rfl (by (try simp only [mT,mC,mN]);first|done|rfl|(simp only [lD,lT];rfl)) ?_;(with_reducible refine (impl_isPlace.calls (rd l0 aa) a1 false _ A6.out).mono ?_);rintro e w' ⟨rfl,⟨nd,rfl⟩⟩;refine ⟨_,rfl,?_⟩))
       go_ret
       exact ⟨by first|rfl|(simp;done)|(simp [*];done),by repeat (first|exact Drawn0.refl _|apply Drawn0.step)⟩
     ·rw [if_neg c5] at H;exact absurd H (by simp)
    ·rw [if_neg c4] at H;exact absurd H (by simp)
   ·rw [if_neg c3] at H;have au:decide (aa < (l0.length:Int))=false:=decide_eq_false c3;clear c3;obtain rfl:=Option.some.inj H;go_wp2
    go_ret
    exact ⟨by first|rfl|(simp;done)|(simp [*];done),by repeat (first|exact Drawn0.refl _|apply Drawn0.step)⟩

/-! ### impl_isPart: function 56 -/
def impl_isPart.f (k:Nat) (l0:List Int) (a1:Int):Option (Bool):=if (l0.length:Int) > 0 then ((impl_areRising.f k l0 a1).bind fun t215=>(some t215)) else (some false)
theorem impl_isPart.mono : ∀ a0 a1 k,LeO (impl_isPart.f k a0 a1) (impl_isPart.f (k + 1) a0 a1):=by
 intro a0 a1 k;unfold impl_isPart.f
 repeat' first
   | (with_reducible exact impl_areRising.mono _ _ _)
   | (with_reducible exact LeO.refl _)
   | (with_reducible exact LeO.none _)
   | (with_reducible refine LeO.ite ?_ ?_)
   | (with_reducible refine LeO.bind ?_ (fun _=>?_))
   | exact impl_areRising.mono _ _ _
   | exact LeO.none _
   | refine LeO.ite ?_ ?_
   | refine LeO.bind ?_ (fun _=>?_)
set_option maxHeartbeats 8000000 in
set_option maxRecDepth 100000 in
theorem impl_isPart.calls (k:Nat) (A0:Option Addr) (c0:Nat) (l0:List Int) (a1:Int) (r:Bool) (w:World) (ae:Kd.C (Kd.int .i64) w A0 l0.length l0) (af:l0.length≤c0) (h:impl_isPart.f k l0 a1=some r) :
  Calls Try.prog 56 #[.slice A0 l0.length c0,.int .i64 a1] w fun e w'=>e=.returned (.bool r)∧Drawn0 w w':=by
 have ah:=qK ae;have ai:=qK af;clear ae af;have H:(if (l0.length:Int) > 0 then ((impl_areRising.f k l0 a1).bind fun aa=>(some aa)) else (some false))=some r:=h;clear h;by_cases c3:(l0.length:Int) > 0
 ·rw [if_pos c3] at H;have ab:decide (0 < (l0.length:Int))=true:=decide_eq_true c3;have ac:decide (0 < l0.length)=true:=decide_eq_true (by omega);clear c3;replace H:=Option.bind_eq_some_iff.mp H;obtain ⟨aa,ag,H⟩:=H;replace H:(some aa)=some r:=H;have A4:=qK ag;clear ag;obtain rfl:=Option.some.inj H;go_enter Try.func56,Try.ntmps56
  go_wp2_with (first|(go_at_call 67;(with_reducible refine (impl_areRising.calls k _ _ l0 a1 aa _ ?side1 ?side2 A4.out).mono ?_);(case side1=>exact ah.out);(case side2=>exact ai.out);rintro e w' ⟨rfl,⟨nd,rfl⟩⟩))
  go_ret
  exact ⟨by first|rfl|(simp;done)|(simp [*];done),by repeat (first|exact Drawn0.refl _|apply Drawn0.step)⟩
 ·rw [if_neg c3] at H;have ab:decide (0 < (l0.length:Int))=false:=decide_eq_false c3;have ac:decide (0 < l0.length)=false:=decide_eq_false (by omega);clear c3;obtain rfl:=Option.some.inj H;go_enter Try.func56,Try.ntmps56
  go_wp2
  go_ret
  exact ⟨by first|rfl|(simp;done)|(simp [*];done),by repeat (first|exact Drawn0.refl _|apply Drawn0.step)⟩

/-! ### impl_Stats_areSome: function 34 -/
def impl_Stats_areSome.f (k:Nat) (l0_0:List Int) (l0_1:List (List Int)) (l1:List Int):Option (Bool):=(impl_isPart.f k l1 (l0_0.length:Int)).bind fun t217=>(some t217)
theorem impl_Stats_areSome.mono : ∀ a0 a1 a2 k,LeO (impl_Stats_areSome.f k a0 a1 a2) (impl_Stats_areSome.f (k + 1) a0 a1 a2):=by
 intro a0 a1 a2 k;unfold impl_Stats_areSome.f
 repeat' first
   | (with_reducible exact impl_isPart.mono _ _ _)
   | (with_reducible exact LeO.refl _)
   | (with_reducible exact LeO.none _)
   | (with_reducible refine LeO.ite ?_ ?_)
   | (with_reducible refine LeO.bind ?_ (fun _=>?_))
   | exact impl_isPart.mono _ _ _
   | exact LeO.none _
   | refine LeO.ite ?_ ?_
   | refine LeO.bind ?_ (fun _=>?_)
set_option maxHeartbeats 8000000 in
set_option maxRecDepth 100000 in
theorem impl_Stats_areSome.calls (k:Nat) (af:Option Addr) (ag:Nat) (aa:List Int) (ah:Option Addr) (ai:Nat) (ab:List (List Int)) (A1:Option Addr) (c1:Nat) (l1:List Int) (r:Bool) (w:World) (ak:Kd.C (Kd.int .i64) w af aa.length aa) (al:aa.length≤ag) (am:Kd.C (Kd.slice 3 (Kd.int .i64)) w ah ab.length ab) (an:ab.length≤ai) (aw:Kd.C (Kd.int .i64) w A1 l1.length l1) (ax:l1.length≤c1) (h:impl_Stats_areSome.f k aa ab l1=some r) :
  Calls Try.prog 34 #[.agg #[.slice af aa.length ag,.slice ah ab.length ai],.slice A1 l1.length c1] w fun e w'=>e=.returned (.bool r)∧Below w.heap.size w w':=by
 have aJ:=Try.underlying29;have ay:=qK ak;have az:=qK al;clear ak al;have aA:=qK am;have aC:=qK an;clear am an;have aK:=qK aw;have aM:=qK ax;clear aw ax;have HB:=qK (Below.refl w.heap.size w);have H:((impl_isPart.f k l1 (aa.length:Int)).bind fun aj=>(some aj))=some r:=h;clear h;replace H:=Option.bind_eq_some_iff.mp H;obtain ⟨aj,aD,H⟩:=H;replace H:(some aj)=some r:=H;have A3:=qK aD;clear aD;obtain rfl:=Option.some.inj H;go_enter Try.func34,Try.ntmps34
 go_wp2_with (first|((with_reducible refine gate_dst (N:=2) rfl ?_);refine box_event ?hg (N:=2) ?hd (cs:=#[.slice af aa.length ag,.slice ah ab.length ai]) (t:=29) ?hr ?_;(case hd=>rfl);(case hg=>rfl);(case hr=>(go_simp;try rfl));intro ae hg w4 hbox hb;have aE:=qK (qT HB.out hb);have aG:=qK (hbox);have ap:=qK ((by rw [hg];exact (qZ HB.out):w.heap.size≤ae));have aH:=ap;clear HB;have HB:=aE;have ac:=aG;have aI:=ap;have ao:=aH;clear aE aG ap aH hb hbox hg;have aq:w4.cell? ⟨ae,0,none⟩=some (.slice af aa.length ag):=(qC ac.out 0).trans rfl;have ar:w4.cell? ⟨ae,1,none⟩=some (.slice ah ab.length ai):=(qC ac.out 1).trans rfl;have au:=qF ac.out 0;have av:=qF ac.out 1)|((with_reducible refine gate_callee (f:=56) rfl ?_);refine goesL_ (some 9) rfl rfl Try.func56 (by kernel_rfl) rfl #[.slice A1 l1.length c1,.int .i64 (aa.length:Int)] rfl (by (try simp only [mT,mC,mN]);first|done|rfl|(simp only [lD,lT];rfl)) ?_;(with_reducible refine (impl_isPart.calls k _ _ l1 (aa.length:Int) aj _ ?side1 ?side2 A3.out).mono ?_);(case side1=>exact (cB aK.out HB.out));(case side2=>exact aM.out);rintro e w' ⟨rfl,⟨nd,rfl⟩⟩;refine ⟨_,rfl,?_⟩))
 go_ret
 exact ⟨by rfl,by repeat (first|(with_reducible first|exact HB.out|apply qA|apply qD|apply qO|refine qS ?_ ao.out)|exact HB.out)⟩

/-! ### impl_set_list: function 40 -/
def impl_set_list.l0 : Nat→Int→List Int→Int→Option (List Int)
 | 0,_,_,_=>none
 | k + 1,x0,x3,x4=>if 0≤x4 then (if (shr .i64 x0 x4)=0 then (some x3) else (if (Go.bits .and .i64 (shr .i64 x0 x4) 1)=1 then (if x3.length < 17592186044416 then (impl_set_list.l0 k x0 (x3 ++ [x4]) (wrap64 (x4 + 1))) else (none)) else (impl_set_list.l0 k x0 x3 (wrap64 (x4 + 1))))) else (none)
def impl_set_list.f (k:Nat) (a0:Int):Option (List Int):=impl_set_list.l0 k a0 ([]:List Int) 0
theorem impl_set_list.mono_l : ∀ k,(∀ y0 y1 y2,LeO (impl_set_list.l0 k y0 y1 y2) (impl_set_list.l0 (k + 1) y0 y1 y2))
 | 0=>fun _ _ _ r h=>by simp [impl_set_list.l0] at h
 | k + 1=>by
  have aa:=impl_set_list.mono_l k
  ·intro y0 y1 y2;unfold impl_set_list.l0
   repeat' first
   | (with_reducible exact aa _ _ _)
   | (with_reducible exact LeO.refl _)
   | (with_reducible exact LeO.none _)
   | (with_reducible refine LeO.ite ?_ ?_)
   | (with_reducible refine LeO.bind ?_ (fun _=>?_))
   | exact aa _ _ _
   | exact LeO.none _
   | refine LeO.ite ?_ ?_
   | refine LeO.bind ?_ (fun _=>?_)
theorem impl_set_list.mono : ∀ a0 k,LeO (impl_set_list.f k a0) (impl_set_list.f (k + 1) a0):=by
 intro a0 k;have aa:=impl_set_list.mono_l k;unfold impl_set_list.f
 repeat' first
   | (with_reducible exact aa _ _ _)
   | (with_reducible exact LeO.refl _)
   | (with_reducible exact LeO.none _)
   | (with_reducible refine LeO.ite ?_ ?_)
   | (with_reducible refine LeO.bind ?_ (fun _=>?_))
   | exact aa _ _ _
   | exact LeO.none _
   | refine LeO.ite ?_ ?_
   | refine LeO.bind ?_ (fun _=>?_)
set_option maxHeartbeats 8000000 in
set_option maxRecDepth 100000 in
theorem impl_set_list.calls (k:Nat) (a0:Int) (r:List Int) (w:World) (h:impl_set_list.f k a0=some r) :
  Calls Try.prog 40 #[.int .i64 a0] w fun e w'=>∃ ar:Value,e=.returned (ar)∧Kd.R (Kd.int .i64) 3 w' w.heap.size (fun _=>True) ar r∧Below w.heap.size w w':=by
 have HB:=qK (Below.refl w.heap.size w);have H:(impl_set_list.l0 k a0 ([]:List Int) 0)=some r:=h;clear h;have H':=qK H;clear H;go_enter Try.func40,Try.ntmps40
 go_wp2
 go_loopg [3,4] k (fun kq v3 v4 w'=>∃ (ab:List Int) (aa:Int),v4=.int .i64 aa∧Aside0 (impl_set_list.l0 kq a0 ab aa=some r)∧Aside0 (kq≤k)∧Aside0 (Kd.R (Kd.int .i64) 3 w' w.heap.size (fun _=>True) v3 ab)∧Aside0 (Below w.heap.size w w'))
 case atStart=>exact ⟨(([]:List Int)),(0),(by rfl),H',⟨Nat.le_refl _⟩,⟨by first|exact Kd.R_nil _ _ _ _ _|exact Kd.N_nil _ _ _ _ _|exact Kd.V_nil _ _ _ _ _|exact Kd.Q_nil _ _ _ _ _|exact Kd.S_nil _ _ _ _ _⟩,⟨HB.out⟩⟩
 case round =>
  clear H';obtain ⟨ab,aa,rfl,HA,ak,ag,HB⟩:=hrel;cases gk with
  | zero=>exact absurd HA.out (by simp [impl_set_list.l0])
  | succ k1 =>
   have H:=HA.out;clear HA;simp only [impl_set_list.l0] at H;by_cases c2:0≤aa
   ·rw [if_pos c2] at H;have ay:=eq_true c2;have az:decide (0≤aa)=true:=decide_eq_true c2;clear c2;obtain ⟨ae,af⟩:∃ j_:Int,(shr .i64 a0 aa)=j_:=⟨_,rfl⟩;replace H:(if (ae)=0 then (some ab) else (if (Go.bits .and .i64 (ae) 1)=1 then (if ab.length < 17592186044416 then (impl_set_list.l0 k1 a0 (ab ++ [aa]) (wrap64 (aa + 1))) else (none)) else (impl_set_list.l0 k1 a0 ab (wrap64 (aa + 1)))))=some r:=by first|(rw [af] at H;exact H)|(simp only [af] at H ⊢;exact H)
    have au:(a0 / 2 ^ min aa.toNat 64)=ae:=af;have av:aa≤64→(a0 / 2 ^ aa.toNat)=ae:=shr_small af;by_cases c4:(ae)=0
    ·rw [if_pos c4] at H;have al:((ae) == 0)=true:=beq_iff_eq.mpr c4;have am:((ae) != 0)=false:=bne_eq_false_iff_eq.mpr c4;clear c4;obtain rfl:=Option.some.inj H;go_wp2
     go_ret
     exact ⟨_,by first|rfl|(simp [errW_none,errW_some] <;> rfl)|(simp only [← af];first|rfl|(simp [errW_none,errW_some] <;> rfl))|(simp [*,errW_none,errW_some] <;> rfl),ag.out,HB.out⟩
    ·rw [if_neg c4] at H;have al:((ae) == 0)=false:=beq_eq_false_iff_ne.mpr c4;have am:((ae) != 0)=true:=bne_iff_ne.mpr c4;have aA:=eq_true (of_decide_eq_true (by assumption):0≤aa);by_cases c6:(Go.bits .and .i64 (ae) 1)=1
     ·rw [if_pos c6] at H;have an:((Go.bits .and .i64 (ae) 1) == 1)=true:=beq_iff_eq.mpr c6;have ao:((Go.bits .and .i64 (ae) 1) != 1)=false:=bne_eq_false_iff_eq.mpr c6;clear c6;by_cases c7:ab.length < 17592186044416
      ·rw [if_pos c7] at H;have ap:=qK c7;clear c7;obtain ⟨ah,ac⟩:∃ y_:List Int,y_=(ab ++ [aa]):=⟨_,rfl⟩;replace H:(impl_set_list.l0 k1 a0 ah (wrap64 (aa + 1)))=some r:=by first|(rw [ac];with_reducible exact H)|(have aq:=(Option.bind_some _ _).symm.trans H;rw [ac];with_reducible exact aq)|(have aq:=(Option.bind_some _ _).symm.trans H;with_reducible exact aq)|with_reducible exact H|(rw [ac];exact H)|exact H
       have ai:=qK ac;clear ac;have H':=qK H;clear H;go_wp2_with (first|((with_reducible refine gate_builtin (b:=.append) (xs:=#[.tmp 16,.tmp 18]) rfl ?_);at_builtin;refine Kd.R_append (Kd.int .i64) (w0:=w) w.heap.size rfl (.tmp 16) (.tmp 18) 22 3 (.int .i64 0) 8 rfl Try.underlying22 info3 rfl (by decide) (by omega) u3 ab aa [.int .i64 aa] (fun _=>True) (fun _=>False) rfl rfl ?aP (fun _ hk=>hk.elim) ?aF ?aO ?aB ?aS ?aL ?_;(case aP=>exact rfl);(case aB=>exact HB.out);(case aF=>exact (fun _ _=>trivial));(case aO=>exact ag.out);(case aS=>exact (qZ HB.out));(case aL=>have:=ap.out;omega);intro aC w8 ho hb hg hat;rw [← ai.out] at ho;have aw:=qK (hb);have ax:=qK (ho);clear HB ag;have HB:=aw;have aj:=ax;clear aw ax;clear ho hb hg hat))
       go_roundg k1
       case measure=>have:=ak.out;omega
       case rel=>exact ⟨(ah),(wrap64 (aa + 1)),(by rfl),H',⟨by have:=ak.out;omega⟩,⟨aj.out⟩,⟨HB.out⟩⟩
      ·rw [if_neg c7] at H;exact absurd H (by simp)
     ·rw [if_neg c6] at H;have an:((Go.bits .and .i64 (ae) 1) == 1)=false:=beq_eq_false_iff_ne.mpr c6;have ao:((Go.bits .and .i64 (ae) 1) != 1)=true:=bne_iff_ne.mpr c6;have H':=qK H;clear H;go_wp2
      go_roundg k1
      case measure=>have:=ak.out;omega
      case rel=>exact ⟨(ab),(wrap64 (aa + 1)),(by rfl),H',⟨by have:=ak.out;omega⟩,⟨ag.out⟩,⟨HB.out⟩⟩
   ·rw [if_neg c2] at H;exact absurd H (by simp)

/-! ### impl_Stats_size: function 43 -/
mutual
def impl_Stats_size.l0 : Nat→Int→Int→Int→List Int→Int→Int→List Int→List (List Int)→Option (Int)
 | 0,_,_,_,_,_,_,_,_=>none
 | k + 1,x1,x5,x6,x12,x13,x14,x222000,x222001=>if x14 < x13 then (if 0≤x14 then (if x14 < (x12.length:Int) then (if 0≤(rd x12 x14) then (if (rd x12 x14) < (x222000.length:Int) then ((impl_set_list.f k x1).bind fun t227=>(impl_Stats_size.l1 k x1 (wrap64 (x5 * (rd x222000 (rd x12 x14)))) x6 (rd x12 x14) x12 x13 x14 t227 (t227.length:Int) 0 x222000 x222001)) else (none)) else (none)) else (none)) else (none)) else (if x6=0 then (none) else (some (wrap64 (Int.tdiv x5 x6))))
def impl_Stats_size.l1 : Nat→Int→Int→Int→Int→List Int→Int→Int→List Int→Int→Int→List Int→List (List Int)→Option (Int)
 | 0,_,_,_,_,_,_,_,_,_,_,_,_=>none
 | k + 1,x1,x5,x6,x8,x12,x13,x14,x26,x27,x28,x222000,x222001=>if x28 < x27 then (if 0≤x28 then (if x28 < (x26.length:Int) then (if (rd x26 x28) < x8 then (if 0≤x8 then (if x8 < (x222001.length:Int) then (if 0≤(rd x26 x28) then (if (rd x26 x28) < ((rd_L1 x222001 x8).length:Int) then (impl_Stats_size.l1 k x1 x5 (wrap64 (x6 * (rd (rd_L1 x222001 x8) (rd x26 x28)))) x8 x12 x13 x14 x26 x27 (wrap64 (x28 + 1)) x222000 x222001) else (none)) else (none)) else (none)) else (none)) else (impl_Stats_size.l1 k x1 x5 x6 x8 x12 x13 x14 x26 x27 (wrap64 (x28 + 1)) x222000 x222001)) else (none)) else (none)) else (impl_Stats_size.l0 k x1 x5 x6 x12 x13 (wrap64 (x14 + 1)) x222000 x222001)
end
def impl_Stats_size.f (k:Nat) (l0_0:List Int) (l0_1:List (List Int)) (a1:Int):Option (Int):=(impl_set_list.f k a1).bind fun t222=>(impl_Stats_size.l0 k a1 1 1 t222 (t222.length:Int) 0 l0_0 l0_1)
theorem impl_Stats_size.mono_l : ∀ k,(∀ y0 y1 y2 y3 y4 y5 y6 y7,LeO (impl_Stats_size.l0 k y0 y1 y2 y3 y4 y5 y6 y7) (impl_Stats_size.l0 (k + 1) y0 y1 y2 y3 y4 y5 y6 y7))∧(∀ y0 y1 y2 y3 y4 y5 y6 y7 y8 y9 ac ae,LeO (impl_Stats_size.l1 k y0 y1 y2 y3 y4 y5 y6 y7 y8 y9 ac ae) (impl_Stats_size.l1 (k + 1) y0 y1 y2 y3 y4 y5 y6 y7 y8 y9 ac ae))
 | 0=>⟨fun _ _ _ _ _ _ _ _ r h=>by simp [impl_Stats_size.l0] at h,fun _ _ _ _ _ _ _ _ _ _ _ _ r h=>by simp [impl_Stats_size.l1] at h⟩
 | k + 1=>by
  obtain ⟨aa,ab⟩:=impl_Stats_size.mono_l k;refine ⟨?_,?_⟩
  ·intro y0 y1 y2 y3 y4 y5 y6 y7;unfold impl_Stats_size.l0
   repeat' first
   | (with_reducible exact aa _ _ _ _ _ _ _ _)
   | (with_reducible exact ab _ _ _ _ _ _ _ _ _ _ _ _)
   | (with_reducible exact impl_set_list.mono _ _)
   | (with_reducible exact LeO.refl _)
   | (with_reducible exact LeO.none _)
   | (with_reducible refine LeO.ite ?_ ?_)
   | (with_reducible refine LeO.bind ?_ (fun _=>?_))
   | exact aa _ _ _ _ _ _ _ _
   | exact ab _ _ _ _ _ _ _ _ _ _ _ _
   | exact impl_set_list.mono _ _
   | exact LeO.none _
   | refine LeO.ite ?_ ?_
   | refine LeO.bind ?_ (fun _=>?_)
  ·intro y0 y1 y2 y3 y4 y5 y6 y7 y8 y9 ac ae;unfold impl_Stats_size.l1
   repeat' first
   | (with_reducible exact aa _ _ _ _ _ _ _ _)
   | (with_reducible exact ab _ _ _ _ _ _ _ _ _ _ _ _)
   | (with_reducible exact impl_set_list.mono _ _)
   | (with_reducible exact LeO.refl _)
   | (with_reducible exact LeO.none _)
   | (with_reducible refine LeO.ite ?_ ?_)
   | (with_reducible refine LeO.bind ?_ (fun _=>?_))
   | exact aa _ _ _ _ _ _ _ _
   | exact ab _ _ _ _ _ _ _ _ _ _ _ _
   | exact impl_set_list.mono _ _
   | exact LeO.none _
   | refine LeO.ite ?_ ?_
   | refine LeO.bind ?_ (fun _=>?_)
theorem impl_Stats_size.mono : ∀ a0 a1 a2 k,LeO (impl_Stats_size.f k a0 a1 a2) (impl_Stats_size.f (k + 1) a0 a1 a2):=by
 intro a0 a1 a2 k;obtain ⟨aa,ab⟩:=impl_Stats_size.mono_l k;unfold impl_Stats_size.f
 repeat' first
   | (with_reducible exact aa _ _ _ _ _ _ _ _)
   | (with_reducible exact ab _ _ _ _ _ _ _ _ _ _ _ _)
   | (with_reducible exact impl_set_list.mono _ _)
   | (with_reducible exact LeO.refl _)
   | (with_reducible exact LeO.none _)
   | (with_reducible refine LeO.ite ?_ ?_)
   | (with_reducible refine LeO.bind ?_ (fun _=>?_))
   | exact aa _ _ _ _ _ _ _ _
   | exact ab _ _ _ _ _ _ _ _ _ _ _ _
   | exact impl_set_list.mono _ _
   | exact LeO.none _
   | refine LeO.ite ?_ ?_
   | refine LeO.bind ?_ (fun _=>?_)
set_option maxHeartbeats 8000000 in
set_option maxRecDepth 100000 in
theorem impl_Stats_size.calls (k:Nat) (aA:Option Addr) (ao:Nat) (ah:List Int) (ap:Option Addr) (aq:Nat) (ag:List (List Int)) (a1:Int) (r:Int) (w:World) (aT:Kd.C (Kd.int .i64) w aA ah.length ah) (aU:ah.length≤ao) (aV:Kd.C (Kd.slice 3 (Kd.int .i64)) w ap ag.length ag) (aW:ag.length≤aq) (h:impl_Stats_size.f k ah ag a1=some r) :
  Calls Try.prog 43 #[.agg #[.slice aA ah.length ao,.slice ap ag.length aq],.int .i64 a1] w fun e w'=>e=.returned (.int .i64 r)∧Below w.heap.size w w':=by
 have cc:=Try.underlying29;have bl:=qK aT;have bN:=qK aU;clear aT aU;have bm:=qK aV;have bO:=qK aW;clear aV aW;have HB:=qK (Below.refl w.heap.size w);have H:((impl_set_list.f k a1).bind fun ab=>(impl_Stats_size.l0 k a1 1 1 ab (ab.length:Int) 0 ah ag))=some r:=h;clear h;replace H:=Option.bind_eq_some_iff.mp H;obtain ⟨ab,bP,H⟩:=H;replace H:(impl_Stats_size.l0 k a1 1 1 ab (ab.length:Int) 0 ah ag)=some r:=H;have A3:=qK bP;clear bP;have H':=qK H;clear H;go_enter Try.func43,Try.ntmps43
 go_wp2_with (first|((with_reducible refine gate_dst (N:=2) rfl ?_);refine box_event ?hg (N:=2) ?hd (cs:=#[.slice aA ah.length ao,.slice ap ag.length aq]) (t:=29) ?hr ?_;(case hd=>rfl);(case hg=>rfl);(case hr=>(go_simp;try rfl));intro aj hg w4 hbox hb;have aX:=qK (qT HB.out hb);have aY:=qK (hbox);have aC:=qK ((by rw [hg];exact (qZ HB.out):w.heap.size≤aj));have bn:=aC;clear HB;have HB:=aX;have ae:=aY;have bQ:=aC;have bR:=bn;clear aX aY aC bn;clear hb hbox hg)|((with_reducible refine gate_callee (f:=40) rfl ?_);refine goesL_ (some 12) rfl rfl Try.func40 (by kernel_rfl) rfl #[.int .i64 a1] rfl (by (try simp only [mT,mC,mN]);first|done|rfl|(simp only [lD,lT];rfl)) ?_;(with_reducible refine (impl_set_list.calls k a1 ab _ A3.out).mono ?_);rintro e w5 ⟨cd,rfl,bi,hb⟩;refine ⟨_,rfl,?_⟩;have aX:=qK (Kd.R_lower bi (qZ HB.out));have aY:=qK (qB (g:=aj) (o:=_) (by exact ae.out) hb);have aC:=qK (qT HB.out hb);clear ae HB;have aZ:=aX;have ae:=aY;have HB:=aC;clear aX aY aC;(try clear hb);(try clear bi);obtain ⟨ce,bD,cf⟩:=Kd.R_slice aZ.out;subst cf))
 go_loopg [5,6,14] k (fun kq v5 v6 cg w'=>∃ (ay:Int) (an:Int) (aa:Int),v5=.int .i64 ay∧v6=.int .i64 an∧cg=.int .i64 aa∧Aside0 (impl_Stats_size.l0 kq a1 ay an ab (ab.length:Int) aa ah ag=some r)∧Aside0 (kq≤k)∧Aside0 (Kd.R (Kd.int .i64) 3 w' w.heap.size (fun _=>True) (.slice ce ab.length bD) ab)∧Aside0 (w'.heap[aj]?=some (.cells #[(.slice aA ah.length ao),(.slice ap ag.length aq)] 29 (0,0)))∧Aside0 (Below w.heap.size w w'))
 case atStart=>exact ⟨(1),(1),(0),(by rfl),(by rfl),(by rfl),H',⟨Nat.le_refl _⟩,⟨aZ.out⟩,⟨ae.out⟩,⟨HB.out⟩⟩
 case round =>
  clear H';try clear p2
  try clear c4
  obtain ⟨ay,an,aa,rfl,rfl,rfl,HA,bj,ai,ae,HB⟩:=hrel;cases gk with
  | zero=>exact absurd HA.out (by simp [impl_Stats_size.l0])
  | succ k1 =>
   have H:=HA.out;clear HA;simp only [impl_Stats_size.l0] at H;by_cases c7:aa < (ab.length:Int)
   ·rw [if_pos c7] at H;have bo:decide (aa < (ab.length:Int))=true:=decide_eq_true c7;clear c7;by_cases c8:0≤aa
    ·rw [if_pos c8] at H;have bE:decide (0≤aa)=true:=decide_eq_true c8;clear c8;by_cases c9:aa < (ab.length:Int)
     ·rw [if_pos c9] at H;have bF:decide (aa < (ab.length:Int))=true:=decide_eq_true c9;clear c9;by_cases c10:0≤(rd ab aa)
      ·rw [if_pos c10] at H;have bp:decide (0≤(rd ab aa))=true:=decide_eq_true c10;clear c10;by_cases c11:(rd ab aa) < (ah.length:Int)
       ·rw [if_pos c11] at H;have bq:decide ((rd ab aa) < (ah.length:Int))=true:=decide_eq_true c11;clear c11;replace H:=Option.bind_eq_some_iff.mp H;obtain ⟨af,br,H⟩:=H;replace H:(impl_Stats_size.l1 k1 a1 (wrap64 (ay * (rd ah (rd ab aa)))) an (rd ab aa) ab (ab.length:Int) aa af (af.length:Int) 0 ah ag)=some r:=H;have ch:=qK br;clear br;have H':=qK H;clear H;have aD:0≤(aa:Int):=of_decide_eq_true (by assumption);have aE:aa < (ab.length:Int):=of_decide_eq_true (by assumption);obtain ⟨ba,bG,aG⟩:=Kd.at_int (Kd.R_reads' ai.out).2.2 aa aD aE;cases bG
        replace aD:=eq_true aD;replace aE:=eq_true aE;have aH:wr.cell? ⟨aj,0,none⟩=some (.slice aA ah.length ao):=(qC ae.out 0).trans rfl;have aI:wr.cell? ⟨aj,1,none⟩=some (.slice ap ag.length aq):=(qC ae.out 1).trans rfl;have aJ:=qF ae.out 0;have aK:=qF ae.out 1;have aM:0≤((rd ab aa):Int):=of_decide_eq_true (by assumption);have aN:(rd ab aa) < (ah.length:Int):=of_decide_eq_true (by assumption);obtain ⟨bb,bH,ak⟩:=Kd.at_int bl.out (rd ab aa) aM aN;cases bH
        replace ak:=(HB.out.cell (World.block_lt_of_cell? w _ ak)).trans ak;replace aM:=eq_true aM;replace aN:=eq_true aN;go_wp2_with (first|((with_reducible refine gate_callee (f:=40) rfl ?_);refine goesL_ (some 26) rfl rfl Try.func40 (by kernel_rfl) rfl #[.int .i64 a1] rfl (by (try simp only [mT,mC,mN]);first|done|rfl|(simp only [lD,lT];rfl)) ?_;(with_reducible refine (impl_set_list.calls k1 a1 af _ ch.out).mono ?_);rintro e ck ⟨ci,rfl,bi,hb⟩;refine ⟨_,rfl,?_⟩;have aX:=qK (Kd.R_elder' ai.out (Kd.R_base bi) hb);have aY:=qK (Kd.R_lower (Kd.R_new' bi (Kd.R_lt ai.out)) (qZ HB.out));have aC:=qK (qB (g:=aj) (o:=_) (by exact ae.out) hb);have bn:=qK (qT HB.out hb);clear ai ae HB;have ai:=aX;have bc:=aY;have ae:=aC;have HB:=bn;clear aX aY aC bn;(try clear hb);(try clear bi);obtain ⟨bs,bt,bI⟩:=Kd.R_slice bc.out;subst bI))
        go_loopg [6,28] k1 (fun kq v6 cj w'=>∃ (az:Int) (ac:Int),v6=.int .i64 az∧cj=.int .i64 ac∧Aside0 (impl_Stats_size.l1 kq a1 (wrap64 (ay * (rd ah (rd ab aa)))) az (rd ab aa) ab (ab.length:Int) aa af (af.length:Int) ac ah ag=some r)∧Aside0 (kq≤k1)∧Aside0 (Kd.R (Kd.int .i64) 3 w' w.heap.size (fun k_=>some k_ ≠ ((.slice bs af.length bt):Value).ownBlock) (.slice (some ba) ab.length bD) ab)∧Aside0 (Kd.R (Kd.int .i64) 3 w' w.heap.size (fun k_=>some k_ ≠ ((.slice (some ba) ab.length bD):Value).ownBlock) (.slice bs af.length bt) af)∧Aside0 (w'.heap[aj]?=some (.cells #[(.slice (some bb) ah.length ao),(.slice ap ag.length aq)] 29 (0,0)))∧Aside0 (Below w.heap.size w w'))
        case atStart=>exact ⟨(an),(0),(by rfl),(by rfl),H',⟨Nat.le_refl _⟩,⟨Kd.R_mono ai.out (fun _ hk=>hk.2)⟩,⟨Kd.R_mono bc.out (fun _ hk=>hk.2)⟩,⟨ae.out⟩,⟨HB.out⟩⟩
        case round =>
         clear H';try clear c1
         try clear p2
         try clear q2
         try clear hx2
         try clear c4
         try clear p6
         try clear c7
         try clear bo
         try clear c8
         try clear bE
         try clear c9
         try clear bF
         try clear c10
         try clear bp
         try clear c11
         try clear bq
         try clear aH
         try clear aI
         try clear aJ
         try clear aK
         try clear aG
         try clear ak
         try clear p2
         try clear aD
         try clear aM
         try clear aE
         try clear aN
         obtain ⟨az,ac,rfl,rfl,HA,bk,ai,av,ae,HB⟩:=hrel;cases gk with
         | zero=>exact absurd HA.out (by simp [impl_Stats_size.l1])
         | succ k2 =>
          have H:=HA.out;clear HA;simp only [impl_Stats_size.l1] at H;by_cases c16:ac < (af.length:Int)
          ·rw [if_pos c16] at H;have bu:decide (ac < (af.length:Int))=true:=decide_eq_true c16;clear c16;by_cases c17:0≤ac
           ·rw [if_pos c17] at H;have bS:decide (0≤ac)=true:=decide_eq_true c17;clear c17;by_cases c18:ac < (af.length:Int)
            ·rw [if_pos c18] at H;have bT:decide (ac < (af.length:Int))=true:=decide_eq_true c18;clear c18;by_cases c19:(rd af ac) < (rd ab aa)
             ·rw [if_pos c19] at H;have bv:decide ((rd af ac) < (rd ab aa))=true:=decide_eq_true c19;clear c19;by_cases c20:0≤(rd ab aa)
              ·rw [if_pos c20] at H;have bU:decide (0≤(rd ab aa))=true:=decide_eq_true c20;clear c20;by_cases c21:(rd ab aa) < (ag.length:Int)
               ·rw [if_pos c21] at H;have bV:decide ((rd ab aa) < (ag.length:Int))=true:=decide_eq_true c21;clear c21;by_cases c22:0≤(rd af ac)
                ·rw [if_pos c22] at H;have bW:decide (0≤(rd af ac))=true:=decide_eq_true c22;clear c22;by_cases c23:(rd af ac) < ((rd_L1 ag (rd ab aa)).length:Int)
                 ·rw [if_pos c23] at H;have bX:decide ((rd af ac) < ((rd_L1 ag (rd ab aa)).length:Int))=true:=decide_eq_true c23;clear c23;have H':=qK H;clear H;have ar:0≤(ac:Int):=of_decide_eq_true (by assumption);have au:ac < (af.length:Int):=of_decide_eq_true (by assumption);obtain ⟨bw,bd,aQ⟩:=Kd.at_int (Kd.R_reads' av.out).2.2 ac ar au;cases bd
                  replace ar:=eq_true ar;replace au:=eq_true au;have bx:wr.cell? ⟨aj,0,none⟩=some (.slice (some bb) ah.length ao):=(qC ae.out 0).trans rfl;have bz:wr.cell? ⟨aj,1,none⟩=some (.slice ap ag.length aq):=(qC ae.out 1).trans rfl;have bA:=qF ae.out 0;have bB:=qF ae.out 1;have be:0≤((rd ab aa):Int):=of_decide_eq_true (by assumption);have bf:(rd ab aa) < (ag.length:Int):=of_decide_eq_true (by assumption);obtain ⟨bY,bJ,bK,bL,al,aw,ax⟩:=at_L1 bm.out (rd ab aa) be bf;cases bL
                  replace al:=(HB.out.cell (World.block_lt_of_cell? w _ al)).trans al;have aR:=qK ax;have bC:=qK aw;clear ax aw;replace be:=eq_true be;replace bf:=eq_true bf;have bg:0≤((rd af ac):Int):=of_decide_eq_true (by assumption);have bh:(rd af ac) < ((rd_L1 ag (rd ab aa)).length:Int):=of_decide_eq_true (by assumption);obtain ⟨bZ,bM,am⟩:=Kd.at_int aR.out (rd af ac) bg bh;cases bM
                  replace am:=(HB.out.cell (World.block_lt_of_cell? w _ am)).trans am;replace bg:=eq_true bg;replace bh:=eq_true bh;go_wp2
                  go_roundg k2
                  case measure=>have:=bj.out;have:=bk.out;omega
                  case rel=>exact ⟨(wrap64 (az * (rd (rd_L1 ag (rd ab aa)) (rd af ac)))),(wrap64 (ac + 1)),(by rfl),(by rfl),H',⟨by have:=bj.out;have:=bk.out;omega⟩,⟨ai.out⟩,⟨av.out⟩,⟨ae.out⟩,⟨HB.out⟩⟩
                 ·rw [if_neg c23] at H;exact absurd H (by simp)
                ·rw [if_neg c22] at H;exact absurd H (by simp)
               ·rw [if_neg c21] at H;exact absurd H (by simp)
              ·rw [if_neg c20] at H;exact absurd H (by simp)
             ·rw [if_neg c19] at H;have bv:decide ((rd af ac) < (rd ab aa))=false:=decide_eq_false c19;clear c19;have H':=qK H;clear H;have ar:0≤(ac:Int):=of_decide_eq_true (by assumption);have au:ac < (af.length:Int):=of_decide_eq_true (by assumption);obtain ⟨bw,bd,aQ⟩:=Kd.at_int (Kd.R_reads' av.out).2.2 ac ar au;cases bd
              replace ar:=eq_true ar;replace au:=eq_true au;go_wp2
              go_roundg k2
              case measure=>have:=bj.out;have:=bk.out;omega
              case rel=>exact ⟨(az),(wrap64 (ac + 1)),(by rfl),(by rfl),H',⟨by have:=bj.out;have:=bk.out;omega⟩,⟨ai.out⟩,⟨av.out⟩,⟨ae.out⟩,⟨HB.out⟩⟩
            ·rw [if_neg c18] at H;exact absurd H (by simp)
           ·rw [if_neg c17] at H;exact absurd H (by simp)
          ·rw [if_neg c16] at H;have bu:decide (ac < (af.length:Int))=false:=decide_eq_false c16;clear c16;have H':=qK H;clear H;go_wp2
           go_roundg k2
           case measure=>have:=bj.out;have:=bk.out;omega
           case rel=>exact ⟨((wrap64 (ay * (rd ah (rd ab aa))))),(az),(wrap64 (aa + 1)),(by rfl),(by rfl),(by rfl),H',⟨by have:=bj.out;have:=bk.out;omega⟩,⟨Kd.R_mono ai.out (fun _ hk=>trivial)⟩,⟨ae.out⟩,⟨HB.out⟩⟩
       ·rw [if_neg c11] at H;exact absurd H (by simp)
      ·rw [if_neg c10] at H;exact absurd H (by simp)
     ·rw [if_neg c9] at H;exact absurd H (by simp)
    ·rw [if_neg c8] at H;exact absurd H (by simp)
   ·rw [if_neg c7] at H;have bo:decide (aa < (ab.length:Int))=false:=decide_eq_false c7;clear c7;by_cases c25:an=0
    ·rw [if_pos c25] at H;exact absurd H (by simp)
    ·rw [if_neg c25] at H;have ca:(an == 0)=false:=beq_eq_false_iff_ne.mpr c25;have cb:(an != 0)=true:=bne_iff_ne.mpr c25;obtain rfl:=Option.some.inj H;go_wp2
     go_ret
     exact ⟨by rfl,HB.out⟩

/-! ### clone_Int: function 57 -/
def cloneL_ren : Go.Shelf.Ren := ⟨fun | 15 => 57 | n => n, fun | 22 => 22 | 3 => 3 | 4 => 4 | n => n, fun | n => n⟩
theorem cloneL : Go.Proofs.Lays2.n15 Try.prog cloneL_ren := {
  mixed := by kernel_rfl
  f15 := Try.func57.trans (congrArg some (by kernel_rfl))
  t3 := Try.underlying3
  a3 := Try.isAgg3
  z3 := Try.sizeOf3
  v3 := Try.zeroValue3
  t4 := Try.underlying4
  a4 := Try.isAgg4
  z4 := Try.sizeOf4
  v4 := Try.zeroValue4
  t22 := Try.underlying22
  a22 := Try.isAgg22
  z22 := Try.sizeOf22
  v22 := Try.zeroValue22
  i3 := by kernel_rfl }
def clone_Int.f (l0 : List Int) : Option (List Int) := if l0.length ≤ 17592186044416 then some l0 else none
theorem clone_Int.calls (A0 : Option Addr) (c0 : Nat) (l0 : List Int) (r : List Int) (w : World) (ab : Kd.C (Kd.int .i64) w A0 l0.length l0) (ac : l0.length ≤ c0) (h : clone_Int.f l0 = some r) :
    Calls Try.prog 57 #[.slice A0 l0.length c0] w fun e w' => ∃ aa : Value, e = .returned (aa) ∧ Kd.R (Kd.int .i64) 3 w' w.heap.size (fun _ => True) aa r ∧ Below w.heap.size w w' := by
  unfold clone_Int.f at h
  by_cases hl : l0.length ≤ 17592186044416
  · rw [if_pos hl] at h
    obtain rfl := Option.some.inj h
    exact clone_C cloneL ab hl
  · rw [if_neg hl] at h
    cases h

/-! ### cmp_isNaN_int: function 72 -/
def cmp_isNaN_int.f (a0:Int):Option (Bool):=some (a0 != a0)
set_option maxHeartbeats 8000000 in
set_option maxRecDepth 100000 in
theorem cmp_isNaN_int.calls (a0:Int) (r:Bool) (w:World) (h:cmp_isNaN_int.f a0=some r) :
  Calls Try.prog 72 #[.int .i64 a0] w fun e w'=>e=.returned (.bool r)∧Drawn0 w w':=by
 have H:(some (a0 != a0))=some r:=h;clear h;obtain rfl:=Option.some.inj H;go_enter Try.func72,Try.ntmps72
 go_wp2
 go_ret
 exact ⟨by first|rfl|(simp;done)|(simp [*];done),by repeat (first|exact Drawn0.refl _|apply Drawn0.step)⟩

end Go.Proofs.Ytecebaeifmddnaa.PFnOrdered
